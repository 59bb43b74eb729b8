/- ShKnown: the law ShadowKnown. -/
import Derived.Test.YtlffbappgfimeaaDoorShKn5
set_option linter.unusedVariables false
set_option linter.unusedSimpArgs false
set_option maxRecDepth 100000
namespace Go.Proofs.YtlffbappgfimeaaDoor
open Go.RowKit Go.Lib Go.Proofs.YtlffbappgfimeaaDoorW.PrintWords Go.Proofs.YtlffbappgfimeaaDoorW.PrintLast PackPure

set_option maxHeartbeats 32000000 in
theorem sknown_any (w : World) (ht : Tabs w) : Calls Tryd.prog 3 #[] w fun e w' => e = .returned (.bool true) ∧ Ext w w' := by
  go_enter Tryd.func3, Tryd.ntmps3
  go_wp2_with fail
  refine (sawake_any _ ht).mono ?_
  rintro e w1 ⟨rfl, x1⟩
  obtain ⟨h1, Hh1⟩ : ∃ h, Hid (w1.heap.size = h) := ⟨_, Lib.hid rfl⟩
  obtain ⟨a1, Ha1, Sa1, xa1, ba1⟩ := allocS w1 0 0 (fun _ => 0) 0 ⟨#[]⟩ ⟨#[]⟩ 0 0 28 h1 Hh1.out
  obtain ⟨z1, Hz1, bz1, kz1, -, Sz1⟩ := putS (r' := 1) (n' := 2) (v' := (vK 3 1)) (k' := 4) (key' := ⟨#[107]⟩) (text' := ⟨#[116]⟩) (b' := 0) (t' := 9) (h := ba1)
  have xz1 : Ext w1 z1 := kz1 _ xa1 (by rw [Hh1.out]; exact Nat.le_refl _)
  obtain ⟨p0, p1, p2, p3, p4, p5, p6, p7, p8, p9, p10, p11, p12, p13⟩ := ba1.cells
  obtain ⟨q0, q1, q2, q3, q4, q5, q6, q7, q8, q9, q10, q11, q12, q13⟩ := ba1.frs
  have rh := Hh1.out
  have ra := Ha1.out
  have rz := Hz1.out
  simp only [vK0, vK1, vK2, vK3, vK4, vK5, vK6] at rz
  have hX := x1.trans xz1
  go_wp2
  clear rh ra rz p0 p1 p2 p3 p4 p5 p6 p7 p8 p9 p10 p11 p12 p13 q0 q1 q2 q3 q4 q5 q6 q7 q8 q9 q10 q11 q12 q13
  obtain ⟨s0, s1, s2, s3, s4, s5, s6, s7, s8, s9, s10, s11, s12, s13⟩ := bz1.rules
  simp only [vK0, vK1, vK2, vK3, vK4, vK5, vK6] at s2 s3 s4 s5 s6 s7 s8
  have xT := Ext.refl z1
  refine start_ (n := 18) (S := (fun W => Ext z1 W)) (ds := []) #[false, false, false, false, false, false, false, false, false, false, false, false, false, false, false, false, false, false] (by kernel_rfl) (by kernel_rfl) (by kernel_rfl) (xT.drew) (fun hHeld => ?_)
  refine take_ (i := 0) (N := (some 17)) (v := ?_) (a' := ?_) #[true, false, false, false, false, false, false, false, false, false, false, false, false, false, false, false, false, false] rfl rfl (by kernel_rfl) (fun _ _ _ h => h) (Or.inl ⟨by rfl, ?_⟩) (by assumption) ?_ ?_
  rotate_left
  · intro w' hSw; (try dsimp only at hSw)
    go_simp
    try with_reducible rfl
  rotate_left
  · simp only [Act.put, List.setIfInBounds_toArray, List.set_cons_zero, List.set_cons_succ]
    rfl
  refine take_ (i := 1) (N := (some 18)) (v := ?_) (a' := ?_) #[true, true, false, false, false, false, false, false, false, false, false, false, false, false, false, false, false, false] rfl rfl (by kernel_rfl) (fun _ _ _ h => h) (Or.inl ⟨by rfl, ?_⟩) (by assumption) ?_ ?_
  rotate_left
  · intro w' hSw; (try dsimp only at hSw)
    go_simp
    try with_reducible rfl
  rotate_left
  · simp only [Act.put, List.setIfInBounds_toArray, List.set_cons_zero, List.set_cons_succ]
    rfl
  refine take_ (i := 2) (N := (some 19)) (v := ?_) (a' := ?_) #[true, true, true, false, false, false, false, false, false, false, false, false, false, false, false, false, false, false] rfl rfl (by kernel_rfl) (fun _ _ _ h => h) (Or.inl ⟨by rfl, ?_⟩) (by assumption) ?_ ?_
  rotate_left
  · intro w' hSw; (try dsimp only at hSw)
    go_simp
    try with_reducible rfl
  rotate_left
  · simp only [Act.put, List.setIfInBounds_toArray, List.set_cons_zero, List.set_cons_succ]
    rfl
  refine take_ (i := 3) (N := (some 20)) (v := ?_) (a' := ?_) #[true, true, true, true, false, false, false, false, false, false, false, false, false, false, false, false, false, false] rfl rfl (by kernel_rfl) (fun _ _ _ h => h) (Or.inl ⟨by rfl, ?_⟩) (by assumption) ?_ ?_
  rotate_left
  · intro w' hSw; (try dsimp only at hSw)
    go_simp
    try with_reducible rfl
  rotate_left
  · simp only [Act.put, List.setIfInBounds_toArray, List.set_cons_zero, List.set_cons_succ]
    rfl
  refine take_ (i := 4) (N := (some 21)) (v := ?_) (a' := ?_) #[true, true, true, true, true, false, false, false, false, false, false, false, false, false, false, false, false, false] rfl rfl (by kernel_rfl) (fun _ _ _ h => h) (Or.inl ⟨by rfl, ?_⟩) (by assumption) ?_ ?_
  rotate_left
  · intro w' hSw; (try dsimp only at hSw)
    go_simp
    try with_reducible rfl
  rotate_left
  · simp only [Act.put, List.setIfInBounds_toArray, List.set_cons_zero, List.set_cons_succ]
    rfl
  refine take_ (i := 5) (N := (some 22)) (v := ?_) (a' := ?_) #[true, true, true, true, true, true, false, false, false, false, false, false, false, false, false, false, false, false] rfl rfl (by kernel_rfl) (fun _ _ _ h => h) (Or.inl ⟨by rfl, ?_⟩) (by assumption) ?_ ?_
  rotate_left
  · intro w' hSw; (try dsimp only at hSw)
    go_simp
    try with_reducible rfl
  rotate_left
  · simp only [Act.put, List.setIfInBounds_toArray, List.set_cons_zero, List.set_cons_succ]
    rfl
  refine join_ (σ := Nat × Nat × Nat × Nat × Nat × Nat) 6 #[true, true, true, true, true, true, true, true, true, true, true, true, false, false, false, false, false, false] (fun s => [(2, .pointer (some ⟨s.1, 0, none⟩)), (3, .pointer (some ⟨s.2.1, 0, none⟩)), (4, .pointer (some ⟨s.2.2.1, 0, none⟩)), (5, .pointer (some ⟨s.2.2.2.1, 0, none⟩)), (6, .pointer (some ⟨s.2.2.2.2.1, 0, none⟩)), (7, .pointer (some ⟨s.2.2.2.2.2, 0, none⟩))]) (fun s W => Zks z1 W [s.1, s.2.1, s.2.2.1, s.2.2.2.1, s.2.2.2.2.1, s.2.2.2.2.2]) ?_ ?_
  · rintro ⟨g6, g7, g8, g9, g10, g11⟩ wj hZ
    dsimp only at hZ
    have hHeld : Ext z1 wj := hZ.1
    simp only [putAll, Act.put, List.setIfInBounds_toArray, List.set_cons_zero, List.set_cons_succ]
    obtain ⟨hx0, hbk, hnd⟩ := hZ
    obtain ⟨lo6, b6⟩ := hbk g6 (by simp)
    obtain ⟨lo7, b7⟩ := hbk g7 (by simp)
    obtain ⟨lo8, b8⟩ := hbk g8 (by simp)
    obtain ⟨lo9, b9⟩ := hbk g9 (by simp)
    obtain ⟨lo10, b10⟩ := hbk g10 (by simp)
    obtain ⟨lo11, b11⟩ := hbk g11 (by simp)
    have hnd' := Lib.hid hnd
    simp only [List.nodup_cons, List.mem_cons, List.not_mem_nil, or_false, not_or, List.nodup_nil, and_true, not_false_eq_true] at hnd
    obtain ⟨⟨n67, n68, n69, n6a, n6b⟩, ⟨n78, n79, n7a, n7b⟩, ⟨n89, n8a, n8b⟩, ⟨n9a, n9b⟩, nab⟩ := hnd
    clear hbk
    obtain ⟨y6, Y6, b6', kx6, kb6, -⟩ := putS (r' := 1) (n' := 2) (v' := (vK 3 1)) (k' := 4) (key' := ⟨#[107]⟩) (text' := ⟨#[116]⟩) (b' := 0) (t' := 9) (h := b6)
    obtain ⟨p0, p1, p2, p3, p4, p5, p6, p7, p8, p9, p10, p11, p12, p13⟩ := b6.cells
    obtain ⟨q0, q1, q2, q3, q4, q5, q6, q7, q8, q9, q10, q11, q12, q13⟩ := b6.frs
    have ry := Y6.out
    simp only [vK0, vK1, vK2, vK3, vK4, vK5, vK6] at ry
    have X6 : Ext z1 y6 := kx6 z1 hx0 lo6
    replace b7 := b7.but (kb6 _ (But.refl _ _)) (Ne.symm n67)
    replace b8 := b8.but (kb6 _ (But.refl _ _)) (Ne.symm n68)
    replace b9 := b9.but (kb6 _ (But.refl _ _)) (Ne.symm n69)
    replace b10 := b10.but (kb6 _ (But.refl _ _)) (Ne.symm n6a)
    replace b11 := b11.but (kb6 _ (But.refl _ _)) (Ne.symm n6b)
    clear kx6 kb6 b6
    have b6 := b6'
    clear b6'
    refine one_ (i := 12) (N := none) #[true, true, true, true, true, true, true, true, true, true, true, true, true, false, false, false, false, false] rfl rfl (by kernel_rfl) (by simp) (fun K hK => ?_)
    go_simp
    clear ry p0 p1 p2 p3 p4 p5 p6 p7 p8 p9 p10 p11 p12 p13 q0 q1 q2 q3 q4 q5 q6 q7 q8 q9 q10 q11 q12 q13
    refine hK.out _ _ ?_ (fun hHeld => ?_)
    · exact X6
    clear hK K
    (try simp only [Act.put, List.setIfInBounds_toArray, List.set_cons_zero, List.set_cons_succ])
    obtain ⟨y7, Y7, b7', kx7, kb7, -⟩ := putS (r' := 1) (n' := 2) (v' := (vK 3 1)) (k' := 4) (key' := ⟨#[107]⟩) (text' := ⟨#[116]⟩) (b' := 0) (t' := 9) (h := b7)
    obtain ⟨p0, p1, p2, p3, p4, p5, p6, p7, p8, p9, p10, p11, p12, p13⟩ := b7.cells
    obtain ⟨q0, q1, q2, q3, q4, q5, q6, q7, q8, q9, q10, q11, q12, q13⟩ := b7.frs
    have ry := Y7.out
    simp only [vK0, vK1, vK2, vK3, vK4, vK5, vK6] at ry
    have X7 : Ext z1 y7 := kx7 z1 X6 lo7
    replace b6 := b6.but (kb7 _ (But.refl _ _)) n67
    replace b8 := b8.but (kb7 _ (But.refl _ _)) (Ne.symm n78)
    replace b9 := b9.but (kb7 _ (But.refl _ _)) (Ne.symm n79)
    replace b10 := b10.but (kb7 _ (But.refl _ _)) (Ne.symm n7a)
    replace b11 := b11.but (kb7 _ (But.refl _ _)) (Ne.symm n7b)
    clear kx7 kb7 b7
    have b7 := b7'
    clear b7'
    refine one_ (i := 13) (N := none) #[true, true, true, true, true, true, true, true, true, true, true, true, true, true, false, false, false, false] rfl rfl (by kernel_rfl) (by simp) (fun K hK => ?_)
    go_simp
    clear ry p0 p1 p2 p3 p4 p5 p6 p7 p8 p9 p10 p11 p12 p13 q0 q1 q2 q3 q4 q5 q6 q7 q8 q9 q10 q11 q12 q13
    refine hK.out _ _ ?_ (fun hHeld => ?_)
    · exact X7
    clear hK K
    (try simp only [Act.put, List.setIfInBounds_toArray, List.set_cons_zero, List.set_cons_succ])
    obtain ⟨y8, Y8, b8', kx8, kb8, -⟩ := putS (r' := 1) (n' := 2) (v' := (vK 3 1)) (k' := 4) (key' := ⟨#[107]⟩) (text' := ⟨#[116]⟩) (b' := 0) (t' := 9) (h := b8)
    obtain ⟨p0, p1, p2, p3, p4, p5, p6, p7, p8, p9, p10, p11, p12, p13⟩ := b8.cells
    obtain ⟨q0, q1, q2, q3, q4, q5, q6, q7, q8, q9, q10, q11, q12, q13⟩ := b8.frs
    have ry := Y8.out
    simp only [vK0, vK1, vK2, vK3, vK4, vK5, vK6] at ry
    have X8 : Ext z1 y8 := kx8 z1 X7 lo8
    replace b6 := b6.but (kb8 _ (But.refl _ _)) n68
    replace b7 := b7.but (kb8 _ (But.refl _ _)) n78
    replace b9 := b9.but (kb8 _ (But.refl _ _)) (Ne.symm n89)
    replace b10 := b10.but (kb8 _ (But.refl _ _)) (Ne.symm n8a)
    replace b11 := b11.but (kb8 _ (But.refl _ _)) (Ne.symm n8b)
    clear kx8 kb8 b8
    have b8 := b8'
    clear b8'
    refine one_ (i := 14) (N := none) #[true, true, true, true, true, true, true, true, true, true, true, true, true, true, true, false, false, false] rfl rfl (by kernel_rfl) (by simp) (fun K hK => ?_)
    go_simp
    clear ry p0 p1 p2 p3 p4 p5 p6 p7 p8 p9 p10 p11 p12 p13 q0 q1 q2 q3 q4 q5 q6 q7 q8 q9 q10 q11 q12 q13
    refine hK.out _ _ ?_ (fun hHeld => ?_)
    · exact X8
    clear hK K
    (try simp only [Act.put, List.setIfInBounds_toArray, List.set_cons_zero, List.set_cons_succ])
    obtain ⟨y9, Y9, b9', kx9, kb9, -⟩ := putS (r' := 1) (n' := 2) (v' := (vK 3 1)) (k' := 4) (key' := ⟨#[107]⟩) (text' := ⟨#[116]⟩) (b' := 0) (t' := 9) (h := b9)
    obtain ⟨p0, p1, p2, p3, p4, p5, p6, p7, p8, p9, p10, p11, p12, p13⟩ := b9.cells
    obtain ⟨q0, q1, q2, q3, q4, q5, q6, q7, q8, q9, q10, q11, q12, q13⟩ := b9.frs
    have ry := Y9.out
    simp only [vK0, vK1, vK2, vK3, vK4, vK5, vK6] at ry
    have X9 : Ext z1 y9 := kx9 z1 X8 lo9
    replace b6 := b6.but (kb9 _ (But.refl _ _)) n69
    replace b7 := b7.but (kb9 _ (But.refl _ _)) n79
    replace b8 := b8.but (kb9 _ (But.refl _ _)) n89
    replace b10 := b10.but (kb9 _ (But.refl _ _)) (Ne.symm n9a)
    replace b11 := b11.but (kb9 _ (But.refl _ _)) (Ne.symm n9b)
    clear kx9 kb9 b9
    have b9 := b9'
    clear b9'
    refine one_ (i := 15) (N := none) #[true, true, true, true, true, true, true, true, true, true, true, true, true, true, true, true, false, false] rfl rfl (by kernel_rfl) (by simp) (fun K hK => ?_)
    go_simp
    clear ry p0 p1 p2 p3 p4 p5 p6 p7 p8 p9 p10 p11 p12 p13 q0 q1 q2 q3 q4 q5 q6 q7 q8 q9 q10 q11 q12 q13
    refine hK.out _ _ ?_ (fun hHeld => ?_)
    · exact X9
    clear hK K
    (try simp only [Act.put, List.setIfInBounds_toArray, List.set_cons_zero, List.set_cons_succ])
    obtain ⟨y10, Y10, b10', kx10, kb10, -⟩ := putS (r' := 1) (n' := 2) (v' := (vK 3 1)) (k' := 4) (key' := ⟨#[107]⟩) (text' := ⟨#[116]⟩) (b' := 0) (t' := 9) (h := b10)
    obtain ⟨p0, p1, p2, p3, p4, p5, p6, p7, p8, p9, p10, p11, p12, p13⟩ := b10.cells
    obtain ⟨q0, q1, q2, q3, q4, q5, q6, q7, q8, q9, q10, q11, q12, q13⟩ := b10.frs
    have ry := Y10.out
    simp only [vK0, vK1, vK2, vK3, vK4, vK5, vK6] at ry
    have X10 : Ext z1 y10 := kx10 z1 X9 lo10
    replace b6 := b6.but (kb10 _ (But.refl _ _)) n6a
    replace b7 := b7.but (kb10 _ (But.refl _ _)) n7a
    replace b8 := b8.but (kb10 _ (But.refl _ _)) n8a
    replace b9 := b9.but (kb10 _ (But.refl _ _)) n9a
    replace b11 := b11.but (kb10 _ (But.refl _ _)) (Ne.symm nab)
    clear kx10 kb10 b10
    have b10 := b10'
    clear b10'
    refine one_ (i := 16) (N := none) #[true, true, true, true, true, true, true, true, true, true, true, true, true, true, true, true, true, false] rfl rfl (by kernel_rfl) (by simp) (fun K hK => ?_)
    go_simp
    clear ry p0 p1 p2 p3 p4 p5 p6 p7 p8 p9 p10 p11 p12 p13 q0 q1 q2 q3 q4 q5 q6 q7 q8 q9 q10 q11 q12 q13
    refine hK.out _ _ ?_ (fun hHeld => ?_)
    · exact X10
    clear hK K
    (try simp only [Act.put, List.setIfInBounds_toArray, List.set_cons_zero, List.set_cons_succ])
    obtain ⟨y11, Y11, b11', kx11, kb11, -⟩ := putS (r' := 1) (n' := 2) (v' := (vK 3 1)) (k' := 4) (key' := ⟨#[107]⟩) (text' := ⟨#[116]⟩) (b' := 0) (t' := 9) (h := b11)
    obtain ⟨p0, p1, p2, p3, p4, p5, p6, p7, p8, p9, p10, p11, p12, p13⟩ := b11.cells
    obtain ⟨q0, q1, q2, q3, q4, q5, q6, q7, q8, q9, q10, q11, q12, q13⟩ := b11.frs
    have ry := Y11.out
    simp only [vK0, vK1, vK2, vK3, vK4, vK5, vK6] at ry
    have X11 : Ext z1 y11 := kx11 z1 X10 lo11
    replace b6 := b6.but (kb11 _ (But.refl _ _)) n6b
    replace b7 := b7.but (kb11 _ (But.refl _ _)) n7b
    replace b8 := b8.but (kb11 _ (But.refl _ _)) n8b
    replace b9 := b9.but (kb11 _ (But.refl _ _)) n9b
    replace b10 := b10.but (kb11 _ (But.refl _ _)) nab
    clear kx11 kb11 b11
    have b11 := b11'
    clear b11'
    refine one_ (i := 17) (N := none) #[true, true, true, true, true, true, true, true, true, true, true, true, true, true, true, true, true, true] rfl rfl (by kernel_rfl) (by simp) (fun K hK => ?_)
    go_simp
    clear ry p0 p1 p2 p3 p4 p5 p6 p7 p8 p9 p10 p11 p12 p13 q0 q1 q2 q3 q4 q5 q6 q7 q8 q9 q10 q11 q12 q13
    refine hK.out _ _ ?_ (fun hHeld => ?_)
    · exact X11
    clear hK K
    (try simp only [Act.put, List.setIfInBounds_toArray, List.set_cons_zero, List.set_cons_succ])
    refine done_ (by kernel_rfl) ?_
    rename_i K5 H5 _ _ _ _ _ _ _
    have H5h := Lib.hid H5
    clear H5
    simp only [Exit.then]
    refine H5h.out _ _ ?_
    exact kn5 w z1 y11 h1 g6 g7 g8 g9 g10 g11 _ _ _ _ _ _ _ _ _ _ _ hX X11 ht bz1 hnd'.out b6 lo6 b7 lo7 b8 lo8 b9 lo9 b10 lo10 b11 lo11
  intro J6789ab
  refine join_ (σ := Nat × Nat × Nat × Nat × Nat × Nat) 7 #[true, true, true, true, true, true, true, true, true, true, true, false, false, false, false, false, false, false] (fun s => [(2, .pointer (some ⟨s.1, 0, none⟩)), (3, .pointer (some ⟨s.2.1, 0, none⟩)), (4, .pointer (some ⟨s.2.2.1, 0, none⟩)), (5, .pointer (some ⟨s.2.2.2.1, 0, none⟩)), (6, .pointer (some ⟨s.2.2.2.2.1, 0, none⟩))]) (fun s W => Zks z1 W [s.1, s.2.1, s.2.2.1, s.2.2.2.1, s.2.2.2.2.1]) ?_ ?_
  · rintro ⟨g6, g7, g8, g9, g10, g11⟩ wj hZ
    dsimp only at hZ
    have hHeld : Ext z1 wj := hZ.1
    simp only [putAll, Act.put, List.setIfInBounds_toArray, List.set_cons_zero, List.set_cons_succ]
    refine many_ [11] (by kernel_rfl) (by simp) ?_
    refine armL_ (i := 11) (N := some 7) #[true, true, true, true, true, true, true, true, true, true, true, true, false, false, false, false, false, false] rfl rfl (by kernel_rfl) (by simp) (fun K hK => ?_) ?_
    · obtain ⟨gq, Gq⟩ : ∃ g, Hid ((World.heap (wj)).size = g) := ⟨_, Lib.hid rfl⟩
      obtain ⟨v, V, -, xv, bv⟩ := allocS (wj) 0 0 (fun _ => 0) 0 ⟨#[]⟩ ⟨#[]⟩ 0 0 28 gq Gq.out
      have rg := Gq.out
      have rv := V.out
      go_simp
      clear rg rv
      refine hK.out _ _ ?_ (fun hHeld => ?_)
      · exact (hZ).1.trans xv
      clear hK K
      (try simp only [Act.put, List.setIfInBounds_toArray, List.set_cons_zero, List.set_cons_succ])
      have hj := J6789ab (g6, g7, g8, g9, g10, gq) v ((hZ).ins (a := [g6, g7, g8, g9, g10]) (b := []) xv Gq.out bv)
      simp only [putAll, Act.put, List.setIfInBounds_toArray, List.set_cons_zero, List.set_cons_succ] at hj
      exact hj
    exact AllReadyL.nil
  intro J6789a
  refine join_ (σ := Nat × Nat × Nat × Nat × Nat × Nat) 7 #[true, true, true, true, true, true, true, true, true, true, false, true, false, false, false, false, false, false] (fun s => [(2, .pointer (some ⟨s.1, 0, none⟩)), (3, .pointer (some ⟨s.2.1, 0, none⟩)), (4, .pointer (some ⟨s.2.2.1, 0, none⟩)), (5, .pointer (some ⟨s.2.2.2.1, 0, none⟩)), (7, .pointer (some ⟨s.2.2.2.2.2, 0, none⟩))]) (fun s W => Zks z1 W [s.1, s.2.1, s.2.2.1, s.2.2.2.1, s.2.2.2.2.2]) ?_ ?_
  · rintro ⟨g6, g7, g8, g9, g10, g11⟩ wj hZ
    dsimp only at hZ
    have hHeld : Ext z1 wj := hZ.1
    simp only [putAll, Act.put, List.setIfInBounds_toArray, List.set_cons_zero, List.set_cons_succ]
    refine many_ [10] (by kernel_rfl) (by simp) ?_
    refine armL_ (i := 10) (N := some 6) #[true, true, true, true, true, true, true, true, true, true, true, true, false, false, false, false, false, false] rfl rfl (by kernel_rfl) (by simp) (fun K hK => ?_) ?_
    · obtain ⟨gq, Gq⟩ : ∃ g, Hid ((World.heap (wj)).size = g) := ⟨_, Lib.hid rfl⟩
      obtain ⟨v, V, -, xv, bv⟩ := allocS (wj) 0 0 (fun _ => 0) 0 ⟨#[]⟩ ⟨#[]⟩ 0 0 28 gq Gq.out
      have rg := Gq.out
      have rv := V.out
      go_simp
      clear rg rv
      refine hK.out _ _ ?_ (fun hHeld => ?_)
      · exact (hZ).1.trans xv
      clear hK K
      (try simp only [Act.put, List.setIfInBounds_toArray, List.set_cons_zero, List.set_cons_succ])
      have hj := J6789ab (g6, g7, g8, g9, gq, g11) v ((hZ).ins (a := [g6, g7, g8, g9]) (b := [g11]) xv Gq.out bv)
      simp only [putAll, Act.put, List.setIfInBounds_toArray, List.set_cons_zero, List.set_cons_succ] at hj
      exact hj
    exact AllReadyL.nil
  intro J6789b
  refine join_ (σ := Nat × Nat × Nat × Nat × Nat × Nat) 7 #[true, true, true, true, true, true, true, true, true, false, true, true, false, false, false, false, false, false] (fun s => [(2, .pointer (some ⟨s.1, 0, none⟩)), (3, .pointer (some ⟨s.2.1, 0, none⟩)), (4, .pointer (some ⟨s.2.2.1, 0, none⟩)), (6, .pointer (some ⟨s.2.2.2.2.1, 0, none⟩)), (7, .pointer (some ⟨s.2.2.2.2.2, 0, none⟩))]) (fun s W => Zks z1 W [s.1, s.2.1, s.2.2.1, s.2.2.2.2.1, s.2.2.2.2.2]) ?_ ?_
  · rintro ⟨g6, g7, g8, g9, g10, g11⟩ wj hZ
    dsimp only at hZ
    have hHeld : Ext z1 wj := hZ.1
    simp only [putAll, Act.put, List.setIfInBounds_toArray, List.set_cons_zero, List.set_cons_succ]
    refine many_ [9] (by kernel_rfl) (by simp) ?_
    refine armL_ (i := 9) (N := some 5) #[true, true, true, true, true, true, true, true, true, true, true, true, false, false, false, false, false, false] rfl rfl (by kernel_rfl) (by simp) (fun K hK => ?_) ?_
    · obtain ⟨gq, Gq⟩ : ∃ g, Hid ((World.heap (wj)).size = g) := ⟨_, Lib.hid rfl⟩
      obtain ⟨v, V, -, xv, bv⟩ := allocS (wj) 0 0 (fun _ => 0) 0 ⟨#[]⟩ ⟨#[]⟩ 0 0 28 gq Gq.out
      have rg := Gq.out
      have rv := V.out
      go_simp
      clear rg rv
      refine hK.out _ _ ?_ (fun hHeld => ?_)
      · exact (hZ).1.trans xv
      clear hK K
      (try simp only [Act.put, List.setIfInBounds_toArray, List.set_cons_zero, List.set_cons_succ])
      have hj := J6789ab (g6, g7, g8, gq, g10, g11) v ((hZ).ins (a := [g6, g7, g8]) (b := [g10, g11]) xv Gq.out bv)
      simp only [putAll, Act.put, List.setIfInBounds_toArray, List.set_cons_zero, List.set_cons_succ] at hj
      exact hj
    exact AllReadyL.nil
  intro J678ab
  refine join_ (σ := Nat × Nat × Nat × Nat × Nat × Nat) 7 #[true, true, true, true, true, true, true, true, false, true, true, true, false, false, false, false, false, false] (fun s => [(2, .pointer (some ⟨s.1, 0, none⟩)), (3, .pointer (some ⟨s.2.1, 0, none⟩)), (5, .pointer (some ⟨s.2.2.2.1, 0, none⟩)), (6, .pointer (some ⟨s.2.2.2.2.1, 0, none⟩)), (7, .pointer (some ⟨s.2.2.2.2.2, 0, none⟩))]) (fun s W => Zks z1 W [s.1, s.2.1, s.2.2.2.1, s.2.2.2.2.1, s.2.2.2.2.2]) ?_ ?_
  · rintro ⟨g6, g7, g8, g9, g10, g11⟩ wj hZ
    dsimp only at hZ
    have hHeld : Ext z1 wj := hZ.1
    simp only [putAll, Act.put, List.setIfInBounds_toArray, List.set_cons_zero, List.set_cons_succ]
    refine many_ [8] (by kernel_rfl) (by simp) ?_
    refine armL_ (i := 8) (N := some 4) #[true, true, true, true, true, true, true, true, true, true, true, true, false, false, false, false, false, false] rfl rfl (by kernel_rfl) (by simp) (fun K hK => ?_) ?_
    · obtain ⟨gq, Gq⟩ : ∃ g, Hid ((World.heap (wj)).size = g) := ⟨_, Lib.hid rfl⟩
      obtain ⟨v, V, -, xv, bv⟩ := allocS (wj) 0 0 (fun _ => 0) 0 ⟨#[]⟩ ⟨#[]⟩ 0 0 28 gq Gq.out
      have rg := Gq.out
      have rv := V.out
      go_simp
      clear rg rv
      refine hK.out _ _ ?_ (fun hHeld => ?_)
      · exact (hZ).1.trans xv
      clear hK K
      (try simp only [Act.put, List.setIfInBounds_toArray, List.set_cons_zero, List.set_cons_succ])
      have hj := J6789ab (g6, g7, gq, g9, g10, g11) v ((hZ).ins (a := [g6, g7]) (b := [g9, g10, g11]) xv Gq.out bv)
      simp only [putAll, Act.put, List.setIfInBounds_toArray, List.set_cons_zero, List.set_cons_succ] at hj
      exact hj
    exact AllReadyL.nil
  intro J679ab
  refine join_ (σ := Nat × Nat × Nat × Nat × Nat × Nat) 7 #[true, true, true, true, true, true, true, false, true, true, true, true, false, false, false, false, false, false] (fun s => [(2, .pointer (some ⟨s.1, 0, none⟩)), (4, .pointer (some ⟨s.2.2.1, 0, none⟩)), (5, .pointer (some ⟨s.2.2.2.1, 0, none⟩)), (6, .pointer (some ⟨s.2.2.2.2.1, 0, none⟩)), (7, .pointer (some ⟨s.2.2.2.2.2, 0, none⟩))]) (fun s W => Zks z1 W [s.1, s.2.2.1, s.2.2.2.1, s.2.2.2.2.1, s.2.2.2.2.2]) ?_ ?_
  · rintro ⟨g6, g7, g8, g9, g10, g11⟩ wj hZ
    dsimp only at hZ
    have hHeld : Ext z1 wj := hZ.1
    simp only [putAll, Act.put, List.setIfInBounds_toArray, List.set_cons_zero, List.set_cons_succ]
    refine many_ [7] (by kernel_rfl) (by simp) ?_
    refine armL_ (i := 7) (N := some 3) #[true, true, true, true, true, true, true, true, true, true, true, true, false, false, false, false, false, false] rfl rfl (by kernel_rfl) (by simp) (fun K hK => ?_) ?_
    · obtain ⟨gq, Gq⟩ : ∃ g, Hid ((World.heap (wj)).size = g) := ⟨_, Lib.hid rfl⟩
      obtain ⟨v, V, -, xv, bv⟩ := allocS (wj) 0 0 (fun _ => 0) 0 ⟨#[]⟩ ⟨#[]⟩ 0 0 28 gq Gq.out
      have rg := Gq.out
      have rv := V.out
      go_simp
      clear rg rv
      refine hK.out _ _ ?_ (fun hHeld => ?_)
      · exact (hZ).1.trans xv
      clear hK K
      (try simp only [Act.put, List.setIfInBounds_toArray, List.set_cons_zero, List.set_cons_succ])
      have hj := J6789ab (g6, gq, g8, g9, g10, g11) v ((hZ).ins (a := [g6]) (b := [g8, g9, g10, g11]) xv Gq.out bv)
      simp only [putAll, Act.put, List.setIfInBounds_toArray, List.set_cons_zero, List.set_cons_succ] at hj
      exact hj
    exact AllReadyL.nil
  intro J689ab
  refine join_ (σ := Nat × Nat × Nat × Nat × Nat × Nat) 7 #[true, true, true, true, true, true, false, true, true, true, true, true, false, false, false, false, false, false] (fun s => [(3, .pointer (some ⟨s.2.1, 0, none⟩)), (4, .pointer (some ⟨s.2.2.1, 0, none⟩)), (5, .pointer (some ⟨s.2.2.2.1, 0, none⟩)), (6, .pointer (some ⟨s.2.2.2.2.1, 0, none⟩)), (7, .pointer (some ⟨s.2.2.2.2.2, 0, none⟩))]) (fun s W => Zks z1 W [s.2.1, s.2.2.1, s.2.2.2.1, s.2.2.2.2.1, s.2.2.2.2.2]) ?_ ?_
  · rintro ⟨g6, g7, g8, g9, g10, g11⟩ wj hZ
    dsimp only at hZ
    have hHeld : Ext z1 wj := hZ.1
    simp only [putAll, Act.put, List.setIfInBounds_toArray, List.set_cons_zero, List.set_cons_succ]
    refine many_ [6] (by kernel_rfl) (by simp) ?_
    refine armL_ (i := 6) (N := some 2) #[true, true, true, true, true, true, true, true, true, true, true, true, false, false, false, false, false, false] rfl rfl (by kernel_rfl) (by simp) (fun K hK => ?_) ?_
    · obtain ⟨gq, Gq⟩ : ∃ g, Hid ((World.heap (wj)).size = g) := ⟨_, Lib.hid rfl⟩
      obtain ⟨v, V, -, xv, bv⟩ := allocS (wj) 0 0 (fun _ => 0) 0 ⟨#[]⟩ ⟨#[]⟩ 0 0 28 gq Gq.out
      have rg := Gq.out
      have rv := V.out
      go_simp
      clear rg rv
      refine hK.out _ _ ?_ (fun hHeld => ?_)
      · exact (hZ).1.trans xv
      clear hK K
      (try simp only [Act.put, List.setIfInBounds_toArray, List.set_cons_zero, List.set_cons_succ])
      have hj := J6789ab (gq, g7, g8, g9, g10, g11) v ((hZ).ins (a := []) (b := [g7, g8, g9, g10, g11]) xv Gq.out bv)
      simp only [putAll, Act.put, List.setIfInBounds_toArray, List.set_cons_zero, List.set_cons_succ] at hj
      exact hj
    exact AllReadyL.nil
  intro J789ab
  refine join_ (σ := Nat × Nat × Nat × Nat × Nat × Nat) 8 #[true, true, true, true, true, true, true, true, true, true, false, false, false, false, false, false, false, false] (fun s => [(2, .pointer (some ⟨s.1, 0, none⟩)), (3, .pointer (some ⟨s.2.1, 0, none⟩)), (4, .pointer (some ⟨s.2.2.1, 0, none⟩)), (5, .pointer (some ⟨s.2.2.2.1, 0, none⟩))]) (fun s W => Zks z1 W [s.1, s.2.1, s.2.2.1, s.2.2.2.1]) ?_ ?_
  · rintro ⟨g6, g7, g8, g9, g10, g11⟩ wj hZ
    dsimp only at hZ
    have hHeld : Ext z1 wj := hZ.1
    simp only [putAll, Act.put, List.setIfInBounds_toArray, List.set_cons_zero, List.set_cons_succ]
    refine many_ [10, 11] (by kernel_rfl) (by simp) ?_
    refine armL_ (i := 10) (N := some 6) #[true, true, true, true, true, true, true, true, true, true, true, false, false, false, false, false, false, false] rfl rfl (by kernel_rfl) (by simp) (fun K hK => ?_) ?_
    · obtain ⟨gq, Gq⟩ : ∃ g, Hid ((World.heap (wj)).size = g) := ⟨_, Lib.hid rfl⟩
      obtain ⟨v, V, -, xv, bv⟩ := allocS (wj) 0 0 (fun _ => 0) 0 ⟨#[]⟩ ⟨#[]⟩ 0 0 28 gq Gq.out
      have rg := Gq.out
      have rv := V.out
      go_simp
      clear rg rv
      refine hK.out _ _ ?_ (fun hHeld => ?_)
      · exact (hZ).1.trans xv
      clear hK K
      (try simp only [Act.put, List.setIfInBounds_toArray, List.set_cons_zero, List.set_cons_succ])
      have hj := J6789a (g6, g7, g8, g9, gq, 0) v ((hZ).ins (a := [g6, g7, g8, g9]) (b := []) xv Gq.out bv)
      simp only [putAll, Act.put, List.setIfInBounds_toArray, List.set_cons_zero, List.set_cons_succ] at hj
      exact hj
    refine armL_ (i := 11) (N := some 7) #[true, true, true, true, true, true, true, true, true, true, false, true, false, false, false, false, false, false] rfl rfl (by kernel_rfl) (by simp) (fun K hK => ?_) ?_
    · obtain ⟨gq, Gq⟩ : ∃ g, Hid ((World.heap (wj)).size = g) := ⟨_, Lib.hid rfl⟩
      obtain ⟨v, V, -, xv, bv⟩ := allocS (wj) 0 0 (fun _ => 0) 0 ⟨#[]⟩ ⟨#[]⟩ 0 0 28 gq Gq.out
      have rg := Gq.out
      have rv := V.out
      go_simp
      clear rg rv
      refine hK.out _ _ ?_ (fun hHeld => ?_)
      · exact (hZ).1.trans xv
      clear hK K
      (try simp only [Act.put, List.setIfInBounds_toArray, List.set_cons_zero, List.set_cons_succ])
      have hj := J6789b (g6, g7, g8, g9, 0, gq) v ((hZ).ins (a := [g6, g7, g8, g9]) (b := []) xv Gq.out bv)
      simp only [putAll, Act.put, List.setIfInBounds_toArray, List.set_cons_zero, List.set_cons_succ] at hj
      exact hj
    exact AllReadyL.nil
  intro J6789
  refine join_ (σ := Nat × Nat × Nat × Nat × Nat × Nat) 8 #[true, true, true, true, true, true, true, true, true, false, true, false, false, false, false, false, false, false] (fun s => [(2, .pointer (some ⟨s.1, 0, none⟩)), (3, .pointer (some ⟨s.2.1, 0, none⟩)), (4, .pointer (some ⟨s.2.2.1, 0, none⟩)), (6, .pointer (some ⟨s.2.2.2.2.1, 0, none⟩))]) (fun s W => Zks z1 W [s.1, s.2.1, s.2.2.1, s.2.2.2.2.1]) ?_ ?_
  · rintro ⟨g6, g7, g8, g9, g10, g11⟩ wj hZ
    dsimp only at hZ
    have hHeld : Ext z1 wj := hZ.1
    simp only [putAll, Act.put, List.setIfInBounds_toArray, List.set_cons_zero, List.set_cons_succ]
    refine many_ [9, 11] (by kernel_rfl) (by simp) ?_
    refine armL_ (i := 9) (N := some 5) #[true, true, true, true, true, true, true, true, true, true, true, false, false, false, false, false, false, false] rfl rfl (by kernel_rfl) (by simp) (fun K hK => ?_) ?_
    · obtain ⟨gq, Gq⟩ : ∃ g, Hid ((World.heap (wj)).size = g) := ⟨_, Lib.hid rfl⟩
      obtain ⟨v, V, -, xv, bv⟩ := allocS (wj) 0 0 (fun _ => 0) 0 ⟨#[]⟩ ⟨#[]⟩ 0 0 28 gq Gq.out
      have rg := Gq.out
      have rv := V.out
      go_simp
      clear rg rv
      refine hK.out _ _ ?_ (fun hHeld => ?_)
      · exact (hZ).1.trans xv
      clear hK K
      (try simp only [Act.put, List.setIfInBounds_toArray, List.set_cons_zero, List.set_cons_succ])
      have hj := J6789a (g6, g7, g8, gq, g10, 0) v ((hZ).ins (a := [g6, g7, g8]) (b := [g10]) xv Gq.out bv)
      simp only [putAll, Act.put, List.setIfInBounds_toArray, List.set_cons_zero, List.set_cons_succ] at hj
      exact hj
    refine armL_ (i := 11) (N := some 7) #[true, true, true, true, true, true, true, true, true, false, true, true, false, false, false, false, false, false] rfl rfl (by kernel_rfl) (by simp) (fun K hK => ?_) ?_
    · obtain ⟨gq, Gq⟩ : ∃ g, Hid ((World.heap (wj)).size = g) := ⟨_, Lib.hid rfl⟩
      obtain ⟨v, V, -, xv, bv⟩ := allocS (wj) 0 0 (fun _ => 0) 0 ⟨#[]⟩ ⟨#[]⟩ 0 0 28 gq Gq.out
      have rg := Gq.out
      have rv := V.out
      go_simp
      clear rg rv
      refine hK.out _ _ ?_ (fun hHeld => ?_)
      · exact (hZ).1.trans xv
      clear hK K
      (try simp only [Act.put, List.setIfInBounds_toArray, List.set_cons_zero, List.set_cons_succ])
      have hj := J678ab (g6, g7, g8, 0, g10, gq) v ((hZ).ins (a := [g6, g7, g8, g10]) (b := []) xv Gq.out bv)
      simp only [putAll, Act.put, List.setIfInBounds_toArray, List.set_cons_zero, List.set_cons_succ] at hj
      exact hj
    exact AllReadyL.nil
  intro J678a
  refine join_ (σ := Nat × Nat × Nat × Nat × Nat × Nat) 8 #[true, true, true, true, true, true, true, true, true, false, false, true, false, false, false, false, false, false] (fun s => [(2, .pointer (some ⟨s.1, 0, none⟩)), (3, .pointer (some ⟨s.2.1, 0, none⟩)), (4, .pointer (some ⟨s.2.2.1, 0, none⟩)), (7, .pointer (some ⟨s.2.2.2.2.2, 0, none⟩))]) (fun s W => Zks z1 W [s.1, s.2.1, s.2.2.1, s.2.2.2.2.2]) ?_ ?_
  · rintro ⟨g6, g7, g8, g9, g10, g11⟩ wj hZ
    dsimp only at hZ
    have hHeld : Ext z1 wj := hZ.1
    simp only [putAll, Act.put, List.setIfInBounds_toArray, List.set_cons_zero, List.set_cons_succ]
    refine many_ [9, 10] (by kernel_rfl) (by simp) ?_
    refine armL_ (i := 9) (N := some 5) #[true, true, true, true, true, true, true, true, true, true, false, true, false, false, false, false, false, false] rfl rfl (by kernel_rfl) (by simp) (fun K hK => ?_) ?_
    · obtain ⟨gq, Gq⟩ : ∃ g, Hid ((World.heap (wj)).size = g) := ⟨_, Lib.hid rfl⟩
      obtain ⟨v, V, -, xv, bv⟩ := allocS (wj) 0 0 (fun _ => 0) 0 ⟨#[]⟩ ⟨#[]⟩ 0 0 28 gq Gq.out
      have rg := Gq.out
      have rv := V.out
      go_simp
      clear rg rv
      refine hK.out _ _ ?_ (fun hHeld => ?_)
      · exact (hZ).1.trans xv
      clear hK K
      (try simp only [Act.put, List.setIfInBounds_toArray, List.set_cons_zero, List.set_cons_succ])
      have hj := J6789b (g6, g7, g8, gq, 0, g11) v ((hZ).ins (a := [g6, g7, g8]) (b := [g11]) xv Gq.out bv)
      simp only [putAll, Act.put, List.setIfInBounds_toArray, List.set_cons_zero, List.set_cons_succ] at hj
      exact hj
    refine armL_ (i := 10) (N := some 6) #[true, true, true, true, true, true, true, true, true, false, true, true, false, false, false, false, false, false] rfl rfl (by kernel_rfl) (by simp) (fun K hK => ?_) ?_
    · obtain ⟨gq, Gq⟩ : ∃ g, Hid ((World.heap (wj)).size = g) := ⟨_, Lib.hid rfl⟩
      obtain ⟨v, V, -, xv, bv⟩ := allocS (wj) 0 0 (fun _ => 0) 0 ⟨#[]⟩ ⟨#[]⟩ 0 0 28 gq Gq.out
      have rg := Gq.out
      have rv := V.out
      go_simp
      clear rg rv
      refine hK.out _ _ ?_ (fun hHeld => ?_)
      · exact (hZ).1.trans xv
      clear hK K
      (try simp only [Act.put, List.setIfInBounds_toArray, List.set_cons_zero, List.set_cons_succ])
      have hj := J678ab (g6, g7, g8, 0, gq, g11) v ((hZ).ins (a := [g6, g7, g8]) (b := [g11]) xv Gq.out bv)
      simp only [putAll, Act.put, List.setIfInBounds_toArray, List.set_cons_zero, List.set_cons_succ] at hj
      exact hj
    exact AllReadyL.nil
  intro J678b
  refine join_ (σ := Nat × Nat × Nat × Nat × Nat × Nat) 8 #[true, true, true, true, true, true, true, true, false, true, true, false, false, false, false, false, false, false] (fun s => [(2, .pointer (some ⟨s.1, 0, none⟩)), (3, .pointer (some ⟨s.2.1, 0, none⟩)), (5, .pointer (some ⟨s.2.2.2.1, 0, none⟩)), (6, .pointer (some ⟨s.2.2.2.2.1, 0, none⟩))]) (fun s W => Zks z1 W [s.1, s.2.1, s.2.2.2.1, s.2.2.2.2.1]) ?_ ?_
  · rintro ⟨g6, g7, g8, g9, g10, g11⟩ wj hZ
    dsimp only at hZ
    have hHeld : Ext z1 wj := hZ.1
    simp only [putAll, Act.put, List.setIfInBounds_toArray, List.set_cons_zero, List.set_cons_succ]
    refine many_ [8, 11] (by kernel_rfl) (by simp) ?_
    refine armL_ (i := 8) (N := some 4) #[true, true, true, true, true, true, true, true, true, true, true, false, false, false, false, false, false, false] rfl rfl (by kernel_rfl) (by simp) (fun K hK => ?_) ?_
    · obtain ⟨gq, Gq⟩ : ∃ g, Hid ((World.heap (wj)).size = g) := ⟨_, Lib.hid rfl⟩
      obtain ⟨v, V, -, xv, bv⟩ := allocS (wj) 0 0 (fun _ => 0) 0 ⟨#[]⟩ ⟨#[]⟩ 0 0 28 gq Gq.out
      have rg := Gq.out
      have rv := V.out
      go_simp
      clear rg rv
      refine hK.out _ _ ?_ (fun hHeld => ?_)
      · exact (hZ).1.trans xv
      clear hK K
      (try simp only [Act.put, List.setIfInBounds_toArray, List.set_cons_zero, List.set_cons_succ])
      have hj := J6789a (g6, g7, gq, g9, g10, 0) v ((hZ).ins (a := [g6, g7]) (b := [g9, g10]) xv Gq.out bv)
      simp only [putAll, Act.put, List.setIfInBounds_toArray, List.set_cons_zero, List.set_cons_succ] at hj
      exact hj
    refine armL_ (i := 11) (N := some 7) #[true, true, true, true, true, true, true, true, false, true, true, true, false, false, false, false, false, false] rfl rfl (by kernel_rfl) (by simp) (fun K hK => ?_) ?_
    · obtain ⟨gq, Gq⟩ : ∃ g, Hid ((World.heap (wj)).size = g) := ⟨_, Lib.hid rfl⟩
      obtain ⟨v, V, -, xv, bv⟩ := allocS (wj) 0 0 (fun _ => 0) 0 ⟨#[]⟩ ⟨#[]⟩ 0 0 28 gq Gq.out
      have rg := Gq.out
      have rv := V.out
      go_simp
      clear rg rv
      refine hK.out _ _ ?_ (fun hHeld => ?_)
      · exact (hZ).1.trans xv
      clear hK K
      (try simp only [Act.put, List.setIfInBounds_toArray, List.set_cons_zero, List.set_cons_succ])
      have hj := J679ab (g6, g7, 0, g9, g10, gq) v ((hZ).ins (a := [g6, g7, g9, g10]) (b := []) xv Gq.out bv)
      simp only [putAll, Act.put, List.setIfInBounds_toArray, List.set_cons_zero, List.set_cons_succ] at hj
      exact hj
    exact AllReadyL.nil
  intro J679a
  refine join_ (σ := Nat × Nat × Nat × Nat × Nat × Nat) 8 #[true, true, true, true, true, true, true, true, false, true, false, true, false, false, false, false, false, false] (fun s => [(2, .pointer (some ⟨s.1, 0, none⟩)), (3, .pointer (some ⟨s.2.1, 0, none⟩)), (5, .pointer (some ⟨s.2.2.2.1, 0, none⟩)), (7, .pointer (some ⟨s.2.2.2.2.2, 0, none⟩))]) (fun s W => Zks z1 W [s.1, s.2.1, s.2.2.2.1, s.2.2.2.2.2]) ?_ ?_
  · rintro ⟨g6, g7, g8, g9, g10, g11⟩ wj hZ
    dsimp only at hZ
    have hHeld : Ext z1 wj := hZ.1
    simp only [putAll, Act.put, List.setIfInBounds_toArray, List.set_cons_zero, List.set_cons_succ]
    refine many_ [8, 10] (by kernel_rfl) (by simp) ?_
    refine armL_ (i := 8) (N := some 4) #[true, true, true, true, true, true, true, true, true, true, false, true, false, false, false, false, false, false] rfl rfl (by kernel_rfl) (by simp) (fun K hK => ?_) ?_
    · obtain ⟨gq, Gq⟩ : ∃ g, Hid ((World.heap (wj)).size = g) := ⟨_, Lib.hid rfl⟩
      obtain ⟨v, V, -, xv, bv⟩ := allocS (wj) 0 0 (fun _ => 0) 0 ⟨#[]⟩ ⟨#[]⟩ 0 0 28 gq Gq.out
      have rg := Gq.out
      have rv := V.out
      go_simp
      clear rg rv
      refine hK.out _ _ ?_ (fun hHeld => ?_)
      · exact (hZ).1.trans xv
      clear hK K
      (try simp only [Act.put, List.setIfInBounds_toArray, List.set_cons_zero, List.set_cons_succ])
      have hj := J6789b (g6, g7, gq, g9, 0, g11) v ((hZ).ins (a := [g6, g7]) (b := [g9, g11]) xv Gq.out bv)
      simp only [putAll, Act.put, List.setIfInBounds_toArray, List.set_cons_zero, List.set_cons_succ] at hj
      exact hj
    refine armL_ (i := 10) (N := some 6) #[true, true, true, true, true, true, true, true, false, true, true, true, false, false, false, false, false, false] rfl rfl (by kernel_rfl) (by simp) (fun K hK => ?_) ?_
    · obtain ⟨gq, Gq⟩ : ∃ g, Hid ((World.heap (wj)).size = g) := ⟨_, Lib.hid rfl⟩
      obtain ⟨v, V, -, xv, bv⟩ := allocS (wj) 0 0 (fun _ => 0) 0 ⟨#[]⟩ ⟨#[]⟩ 0 0 28 gq Gq.out
      have rg := Gq.out
      have rv := V.out
      go_simp
      clear rg rv
      refine hK.out _ _ ?_ (fun hHeld => ?_)
      · exact (hZ).1.trans xv
      clear hK K
      (try simp only [Act.put, List.setIfInBounds_toArray, List.set_cons_zero, List.set_cons_succ])
      have hj := J679ab (g6, g7, 0, g9, gq, g11) v ((hZ).ins (a := [g6, g7, g9]) (b := [g11]) xv Gq.out bv)
      simp only [putAll, Act.put, List.setIfInBounds_toArray, List.set_cons_zero, List.set_cons_succ] at hj
      exact hj
    exact AllReadyL.nil
  intro J679b
  refine join_ (σ := Nat × Nat × Nat × Nat × Nat × Nat) 8 #[true, true, true, true, true, true, true, true, false, false, true, true, false, false, false, false, false, false] (fun s => [(2, .pointer (some ⟨s.1, 0, none⟩)), (3, .pointer (some ⟨s.2.1, 0, none⟩)), (6, .pointer (some ⟨s.2.2.2.2.1, 0, none⟩)), (7, .pointer (some ⟨s.2.2.2.2.2, 0, none⟩))]) (fun s W => Zks z1 W [s.1, s.2.1, s.2.2.2.2.1, s.2.2.2.2.2]) ?_ ?_
  · rintro ⟨g6, g7, g8, g9, g10, g11⟩ wj hZ
    dsimp only at hZ
    have hHeld : Ext z1 wj := hZ.1
    simp only [putAll, Act.put, List.setIfInBounds_toArray, List.set_cons_zero, List.set_cons_succ]
    refine many_ [8, 9] (by kernel_rfl) (by simp) ?_
    refine armL_ (i := 8) (N := some 4) #[true, true, true, true, true, true, true, true, true, false, true, true, false, false, false, false, false, false] rfl rfl (by kernel_rfl) (by simp) (fun K hK => ?_) ?_
    · obtain ⟨gq, Gq⟩ : ∃ g, Hid ((World.heap (wj)).size = g) := ⟨_, Lib.hid rfl⟩
      obtain ⟨v, V, -, xv, bv⟩ := allocS (wj) 0 0 (fun _ => 0) 0 ⟨#[]⟩ ⟨#[]⟩ 0 0 28 gq Gq.out
      have rg := Gq.out
      have rv := V.out
      go_simp
      clear rg rv
      refine hK.out _ _ ?_ (fun hHeld => ?_)
      · exact (hZ).1.trans xv
      clear hK K
      (try simp only [Act.put, List.setIfInBounds_toArray, List.set_cons_zero, List.set_cons_succ])
      have hj := J678ab (g6, g7, gq, 0, g10, g11) v ((hZ).ins (a := [g6, g7]) (b := [g10, g11]) xv Gq.out bv)
      simp only [putAll, Act.put, List.setIfInBounds_toArray, List.set_cons_zero, List.set_cons_succ] at hj
      exact hj
    refine armL_ (i := 9) (N := some 5) #[true, true, true, true, true, true, true, true, false, true, true, true, false, false, false, false, false, false] rfl rfl (by kernel_rfl) (by simp) (fun K hK => ?_) ?_
    · obtain ⟨gq, Gq⟩ : ∃ g, Hid ((World.heap (wj)).size = g) := ⟨_, Lib.hid rfl⟩
      obtain ⟨v, V, -, xv, bv⟩ := allocS (wj) 0 0 (fun _ => 0) 0 ⟨#[]⟩ ⟨#[]⟩ 0 0 28 gq Gq.out
      have rg := Gq.out
      have rv := V.out
      go_simp
      clear rg rv
      refine hK.out _ _ ?_ (fun hHeld => ?_)
      · exact (hZ).1.trans xv
      clear hK K
      (try simp only [Act.put, List.setIfInBounds_toArray, List.set_cons_zero, List.set_cons_succ])
      have hj := J679ab (g6, g7, 0, gq, g10, g11) v ((hZ).ins (a := [g6, g7]) (b := [g10, g11]) xv Gq.out bv)
      simp only [putAll, Act.put, List.setIfInBounds_toArray, List.set_cons_zero, List.set_cons_succ] at hj
      exact hj
    exact AllReadyL.nil
  intro J67ab
  refine join_ (σ := Nat × Nat × Nat × Nat × Nat × Nat) 8 #[true, true, true, true, true, true, true, false, true, true, true, false, false, false, false, false, false, false] (fun s => [(2, .pointer (some ⟨s.1, 0, none⟩)), (4, .pointer (some ⟨s.2.2.1, 0, none⟩)), (5, .pointer (some ⟨s.2.2.2.1, 0, none⟩)), (6, .pointer (some ⟨s.2.2.2.2.1, 0, none⟩))]) (fun s W => Zks z1 W [s.1, s.2.2.1, s.2.2.2.1, s.2.2.2.2.1]) ?_ ?_
  · rintro ⟨g6, g7, g8, g9, g10, g11⟩ wj hZ
    dsimp only at hZ
    have hHeld : Ext z1 wj := hZ.1
    simp only [putAll, Act.put, List.setIfInBounds_toArray, List.set_cons_zero, List.set_cons_succ]
    refine many_ [7, 11] (by kernel_rfl) (by simp) ?_
    refine armL_ (i := 7) (N := some 3) #[true, true, true, true, true, true, true, true, true, true, true, false, false, false, false, false, false, false] rfl rfl (by kernel_rfl) (by simp) (fun K hK => ?_) ?_
    · obtain ⟨gq, Gq⟩ : ∃ g, Hid ((World.heap (wj)).size = g) := ⟨_, Lib.hid rfl⟩
      obtain ⟨v, V, -, xv, bv⟩ := allocS (wj) 0 0 (fun _ => 0) 0 ⟨#[]⟩ ⟨#[]⟩ 0 0 28 gq Gq.out
      have rg := Gq.out
      have rv := V.out
      go_simp
      clear rg rv
      refine hK.out _ _ ?_ (fun hHeld => ?_)
      · exact (hZ).1.trans xv
      clear hK K
      (try simp only [Act.put, List.setIfInBounds_toArray, List.set_cons_zero, List.set_cons_succ])
      have hj := J6789a (g6, gq, g8, g9, g10, 0) v ((hZ).ins (a := [g6]) (b := [g8, g9, g10]) xv Gq.out bv)
      simp only [putAll, Act.put, List.setIfInBounds_toArray, List.set_cons_zero, List.set_cons_succ] at hj
      exact hj
    refine armL_ (i := 11) (N := some 7) #[true, true, true, true, true, true, true, false, true, true, true, true, false, false, false, false, false, false] rfl rfl (by kernel_rfl) (by simp) (fun K hK => ?_) ?_
    · obtain ⟨gq, Gq⟩ : ∃ g, Hid ((World.heap (wj)).size = g) := ⟨_, Lib.hid rfl⟩
      obtain ⟨v, V, -, xv, bv⟩ := allocS (wj) 0 0 (fun _ => 0) 0 ⟨#[]⟩ ⟨#[]⟩ 0 0 28 gq Gq.out
      have rg := Gq.out
      have rv := V.out
      go_simp
      clear rg rv
      refine hK.out _ _ ?_ (fun hHeld => ?_)
      · exact (hZ).1.trans xv
      clear hK K
      (try simp only [Act.put, List.setIfInBounds_toArray, List.set_cons_zero, List.set_cons_succ])
      have hj := J689ab (g6, 0, g8, g9, g10, gq) v ((hZ).ins (a := [g6, g8, g9, g10]) (b := []) xv Gq.out bv)
      simp only [putAll, Act.put, List.setIfInBounds_toArray, List.set_cons_zero, List.set_cons_succ] at hj
      exact hj
    exact AllReadyL.nil
  intro J689a
  refine join_ (σ := Nat × Nat × Nat × Nat × Nat × Nat) 8 #[true, true, true, true, true, true, true, false, true, true, false, true, false, false, false, false, false, false] (fun s => [(2, .pointer (some ⟨s.1, 0, none⟩)), (4, .pointer (some ⟨s.2.2.1, 0, none⟩)), (5, .pointer (some ⟨s.2.2.2.1, 0, none⟩)), (7, .pointer (some ⟨s.2.2.2.2.2, 0, none⟩))]) (fun s W => Zks z1 W [s.1, s.2.2.1, s.2.2.2.1, s.2.2.2.2.2]) ?_ ?_
  · rintro ⟨g6, g7, g8, g9, g10, g11⟩ wj hZ
    dsimp only at hZ
    have hHeld : Ext z1 wj := hZ.1
    simp only [putAll, Act.put, List.setIfInBounds_toArray, List.set_cons_zero, List.set_cons_succ]
    refine many_ [7, 10] (by kernel_rfl) (by simp) ?_
    refine armL_ (i := 7) (N := some 3) #[true, true, true, true, true, true, true, true, true, true, false, true, false, false, false, false, false, false] rfl rfl (by kernel_rfl) (by simp) (fun K hK => ?_) ?_
    · obtain ⟨gq, Gq⟩ : ∃ g, Hid ((World.heap (wj)).size = g) := ⟨_, Lib.hid rfl⟩
      obtain ⟨v, V, -, xv, bv⟩ := allocS (wj) 0 0 (fun _ => 0) 0 ⟨#[]⟩ ⟨#[]⟩ 0 0 28 gq Gq.out
      have rg := Gq.out
      have rv := V.out
      go_simp
      clear rg rv
      refine hK.out _ _ ?_ (fun hHeld => ?_)
      · exact (hZ).1.trans xv
      clear hK K
      (try simp only [Act.put, List.setIfInBounds_toArray, List.set_cons_zero, List.set_cons_succ])
      have hj := J6789b (g6, gq, g8, g9, 0, g11) v ((hZ).ins (a := [g6]) (b := [g8, g9, g11]) xv Gq.out bv)
      simp only [putAll, Act.put, List.setIfInBounds_toArray, List.set_cons_zero, List.set_cons_succ] at hj
      exact hj
    refine armL_ (i := 10) (N := some 6) #[true, true, true, true, true, true, true, false, true, true, true, true, false, false, false, false, false, false] rfl rfl (by kernel_rfl) (by simp) (fun K hK => ?_) ?_
    · obtain ⟨gq, Gq⟩ : ∃ g, Hid ((World.heap (wj)).size = g) := ⟨_, Lib.hid rfl⟩
      obtain ⟨v, V, -, xv, bv⟩ := allocS (wj) 0 0 (fun _ => 0) 0 ⟨#[]⟩ ⟨#[]⟩ 0 0 28 gq Gq.out
      have rg := Gq.out
      have rv := V.out
      go_simp
      clear rg rv
      refine hK.out _ _ ?_ (fun hHeld => ?_)
      · exact (hZ).1.trans xv
      clear hK K
      (try simp only [Act.put, List.setIfInBounds_toArray, List.set_cons_zero, List.set_cons_succ])
      have hj := J689ab (g6, 0, g8, g9, gq, g11) v ((hZ).ins (a := [g6, g8, g9]) (b := [g11]) xv Gq.out bv)
      simp only [putAll, Act.put, List.setIfInBounds_toArray, List.set_cons_zero, List.set_cons_succ] at hj
      exact hj
    exact AllReadyL.nil
  intro J689b
  refine join_ (σ := Nat × Nat × Nat × Nat × Nat × Nat) 8 #[true, true, true, true, true, true, true, false, true, false, true, true, false, false, false, false, false, false] (fun s => [(2, .pointer (some ⟨s.1, 0, none⟩)), (4, .pointer (some ⟨s.2.2.1, 0, none⟩)), (6, .pointer (some ⟨s.2.2.2.2.1, 0, none⟩)), (7, .pointer (some ⟨s.2.2.2.2.2, 0, none⟩))]) (fun s W => Zks z1 W [s.1, s.2.2.1, s.2.2.2.2.1, s.2.2.2.2.2]) ?_ ?_
  · rintro ⟨g6, g7, g8, g9, g10, g11⟩ wj hZ
    dsimp only at hZ
    have hHeld : Ext z1 wj := hZ.1
    simp only [putAll, Act.put, List.setIfInBounds_toArray, List.set_cons_zero, List.set_cons_succ]
    refine many_ [7, 9] (by kernel_rfl) (by simp) ?_
    refine armL_ (i := 7) (N := some 3) #[true, true, true, true, true, true, true, true, true, false, true, true, false, false, false, false, false, false] rfl rfl (by kernel_rfl) (by simp) (fun K hK => ?_) ?_
    · obtain ⟨gq, Gq⟩ : ∃ g, Hid ((World.heap (wj)).size = g) := ⟨_, Lib.hid rfl⟩
      obtain ⟨v, V, -, xv, bv⟩ := allocS (wj) 0 0 (fun _ => 0) 0 ⟨#[]⟩ ⟨#[]⟩ 0 0 28 gq Gq.out
      have rg := Gq.out
      have rv := V.out
      go_simp
      clear rg rv
      refine hK.out _ _ ?_ (fun hHeld => ?_)
      · exact (hZ).1.trans xv
      clear hK K
      (try simp only [Act.put, List.setIfInBounds_toArray, List.set_cons_zero, List.set_cons_succ])
      have hj := J678ab (g6, gq, g8, 0, g10, g11) v ((hZ).ins (a := [g6]) (b := [g8, g10, g11]) xv Gq.out bv)
      simp only [putAll, Act.put, List.setIfInBounds_toArray, List.set_cons_zero, List.set_cons_succ] at hj
      exact hj
    refine armL_ (i := 9) (N := some 5) #[true, true, true, true, true, true, true, false, true, true, true, true, false, false, false, false, false, false] rfl rfl (by kernel_rfl) (by simp) (fun K hK => ?_) ?_
    · obtain ⟨gq, Gq⟩ : ∃ g, Hid ((World.heap (wj)).size = g) := ⟨_, Lib.hid rfl⟩
      obtain ⟨v, V, -, xv, bv⟩ := allocS (wj) 0 0 (fun _ => 0) 0 ⟨#[]⟩ ⟨#[]⟩ 0 0 28 gq Gq.out
      have rg := Gq.out
      have rv := V.out
      go_simp
      clear rg rv
      refine hK.out _ _ ?_ (fun hHeld => ?_)
      · exact (hZ).1.trans xv
      clear hK K
      (try simp only [Act.put, List.setIfInBounds_toArray, List.set_cons_zero, List.set_cons_succ])
      have hj := J689ab (g6, 0, g8, gq, g10, g11) v ((hZ).ins (a := [g6, g8]) (b := [g10, g11]) xv Gq.out bv)
      simp only [putAll, Act.put, List.setIfInBounds_toArray, List.set_cons_zero, List.set_cons_succ] at hj
      exact hj
    exact AllReadyL.nil
  intro J68ab
  refine join_ (σ := Nat × Nat × Nat × Nat × Nat × Nat) 8 #[true, true, true, true, true, true, true, false, false, true, true, true, false, false, false, false, false, false] (fun s => [(2, .pointer (some ⟨s.1, 0, none⟩)), (5, .pointer (some ⟨s.2.2.2.1, 0, none⟩)), (6, .pointer (some ⟨s.2.2.2.2.1, 0, none⟩)), (7, .pointer (some ⟨s.2.2.2.2.2, 0, none⟩))]) (fun s W => Zks z1 W [s.1, s.2.2.2.1, s.2.2.2.2.1, s.2.2.2.2.2]) ?_ ?_
  · rintro ⟨g6, g7, g8, g9, g10, g11⟩ wj hZ
    dsimp only at hZ
    have hHeld : Ext z1 wj := hZ.1
    simp only [putAll, Act.put, List.setIfInBounds_toArray, List.set_cons_zero, List.set_cons_succ]
    refine many_ [7, 8] (by kernel_rfl) (by simp) ?_
    refine armL_ (i := 7) (N := some 3) #[true, true, true, true, true, true, true, true, false, true, true, true, false, false, false, false, false, false] rfl rfl (by kernel_rfl) (by simp) (fun K hK => ?_) ?_
    · obtain ⟨gq, Gq⟩ : ∃ g, Hid ((World.heap (wj)).size = g) := ⟨_, Lib.hid rfl⟩
      obtain ⟨v, V, -, xv, bv⟩ := allocS (wj) 0 0 (fun _ => 0) 0 ⟨#[]⟩ ⟨#[]⟩ 0 0 28 gq Gq.out
      have rg := Gq.out
      have rv := V.out
      go_simp
      clear rg rv
      refine hK.out _ _ ?_ (fun hHeld => ?_)
      · exact (hZ).1.trans xv
      clear hK K
      (try simp only [Act.put, List.setIfInBounds_toArray, List.set_cons_zero, List.set_cons_succ])
      have hj := J679ab (g6, gq, 0, g9, g10, g11) v ((hZ).ins (a := [g6]) (b := [g9, g10, g11]) xv Gq.out bv)
      simp only [putAll, Act.put, List.setIfInBounds_toArray, List.set_cons_zero, List.set_cons_succ] at hj
      exact hj
    refine armL_ (i := 8) (N := some 4) #[true, true, true, true, true, true, true, false, true, true, true, true, false, false, false, false, false, false] rfl rfl (by kernel_rfl) (by simp) (fun K hK => ?_) ?_
    · obtain ⟨gq, Gq⟩ : ∃ g, Hid ((World.heap (wj)).size = g) := ⟨_, Lib.hid rfl⟩
      obtain ⟨v, V, -, xv, bv⟩ := allocS (wj) 0 0 (fun _ => 0) 0 ⟨#[]⟩ ⟨#[]⟩ 0 0 28 gq Gq.out
      have rg := Gq.out
      have rv := V.out
      go_simp
      clear rg rv
      refine hK.out _ _ ?_ (fun hHeld => ?_)
      · exact (hZ).1.trans xv
      clear hK K
      (try simp only [Act.put, List.setIfInBounds_toArray, List.set_cons_zero, List.set_cons_succ])
      have hj := J689ab (g6, 0, gq, g9, g10, g11) v ((hZ).ins (a := [g6]) (b := [g9, g10, g11]) xv Gq.out bv)
      simp only [putAll, Act.put, List.setIfInBounds_toArray, List.set_cons_zero, List.set_cons_succ] at hj
      exact hj
    exact AllReadyL.nil
  intro J69ab
  refine join_ (σ := Nat × Nat × Nat × Nat × Nat × Nat) 8 #[true, true, true, true, true, true, false, true, true, true, true, false, false, false, false, false, false, false] (fun s => [(3, .pointer (some ⟨s.2.1, 0, none⟩)), (4, .pointer (some ⟨s.2.2.1, 0, none⟩)), (5, .pointer (some ⟨s.2.2.2.1, 0, none⟩)), (6, .pointer (some ⟨s.2.2.2.2.1, 0, none⟩))]) (fun s W => Zks z1 W [s.2.1, s.2.2.1, s.2.2.2.1, s.2.2.2.2.1]) ?_ ?_
  · rintro ⟨g6, g7, g8, g9, g10, g11⟩ wj hZ
    dsimp only at hZ
    have hHeld : Ext z1 wj := hZ.1
    simp only [putAll, Act.put, List.setIfInBounds_toArray, List.set_cons_zero, List.set_cons_succ]
    refine many_ [6, 11] (by kernel_rfl) (by simp) ?_
    refine armL_ (i := 6) (N := some 2) #[true, true, true, true, true, true, true, true, true, true, true, false, false, false, false, false, false, false] rfl rfl (by kernel_rfl) (by simp) (fun K hK => ?_) ?_
    · obtain ⟨gq, Gq⟩ : ∃ g, Hid ((World.heap (wj)).size = g) := ⟨_, Lib.hid rfl⟩
      obtain ⟨v, V, -, xv, bv⟩ := allocS (wj) 0 0 (fun _ => 0) 0 ⟨#[]⟩ ⟨#[]⟩ 0 0 28 gq Gq.out
      have rg := Gq.out
      have rv := V.out
      go_simp
      clear rg rv
      refine hK.out _ _ ?_ (fun hHeld => ?_)
      · exact (hZ).1.trans xv
      clear hK K
      (try simp only [Act.put, List.setIfInBounds_toArray, List.set_cons_zero, List.set_cons_succ])
      have hj := J6789a (gq, g7, g8, g9, g10, 0) v ((hZ).ins (a := []) (b := [g7, g8, g9, g10]) xv Gq.out bv)
      simp only [putAll, Act.put, List.setIfInBounds_toArray, List.set_cons_zero, List.set_cons_succ] at hj
      exact hj
    refine armL_ (i := 11) (N := some 7) #[true, true, true, true, true, true, false, true, true, true, true, true, false, false, false, false, false, false] rfl rfl (by kernel_rfl) (by simp) (fun K hK => ?_) ?_
    · obtain ⟨gq, Gq⟩ : ∃ g, Hid ((World.heap (wj)).size = g) := ⟨_, Lib.hid rfl⟩
      obtain ⟨v, V, -, xv, bv⟩ := allocS (wj) 0 0 (fun _ => 0) 0 ⟨#[]⟩ ⟨#[]⟩ 0 0 28 gq Gq.out
      have rg := Gq.out
      have rv := V.out
      go_simp
      clear rg rv
      refine hK.out _ _ ?_ (fun hHeld => ?_)
      · exact (hZ).1.trans xv
      clear hK K
      (try simp only [Act.put, List.setIfInBounds_toArray, List.set_cons_zero, List.set_cons_succ])
      have hj := J789ab (0, g7, g8, g9, g10, gq) v ((hZ).ins (a := [g7, g8, g9, g10]) (b := []) xv Gq.out bv)
      simp only [putAll, Act.put, List.setIfInBounds_toArray, List.set_cons_zero, List.set_cons_succ] at hj
      exact hj
    exact AllReadyL.nil
  intro J789a
  refine join_ (σ := Nat × Nat × Nat × Nat × Nat × Nat) 8 #[true, true, true, true, true, true, false, true, true, true, false, true, false, false, false, false, false, false] (fun s => [(3, .pointer (some ⟨s.2.1, 0, none⟩)), (4, .pointer (some ⟨s.2.2.1, 0, none⟩)), (5, .pointer (some ⟨s.2.2.2.1, 0, none⟩)), (7, .pointer (some ⟨s.2.2.2.2.2, 0, none⟩))]) (fun s W => Zks z1 W [s.2.1, s.2.2.1, s.2.2.2.1, s.2.2.2.2.2]) ?_ ?_
  · rintro ⟨g6, g7, g8, g9, g10, g11⟩ wj hZ
    dsimp only at hZ
    have hHeld : Ext z1 wj := hZ.1
    simp only [putAll, Act.put, List.setIfInBounds_toArray, List.set_cons_zero, List.set_cons_succ]
    refine many_ [6, 10] (by kernel_rfl) (by simp) ?_
    refine armL_ (i := 6) (N := some 2) #[true, true, true, true, true, true, true, true, true, true, false, true, false, false, false, false, false, false] rfl rfl (by kernel_rfl) (by simp) (fun K hK => ?_) ?_
    · obtain ⟨gq, Gq⟩ : ∃ g, Hid ((World.heap (wj)).size = g) := ⟨_, Lib.hid rfl⟩
      obtain ⟨v, V, -, xv, bv⟩ := allocS (wj) 0 0 (fun _ => 0) 0 ⟨#[]⟩ ⟨#[]⟩ 0 0 28 gq Gq.out
      have rg := Gq.out
      have rv := V.out
      go_simp
      clear rg rv
      refine hK.out _ _ ?_ (fun hHeld => ?_)
      · exact (hZ).1.trans xv
      clear hK K
      (try simp only [Act.put, List.setIfInBounds_toArray, List.set_cons_zero, List.set_cons_succ])
      have hj := J6789b (gq, g7, g8, g9, 0, g11) v ((hZ).ins (a := []) (b := [g7, g8, g9, g11]) xv Gq.out bv)
      simp only [putAll, Act.put, List.setIfInBounds_toArray, List.set_cons_zero, List.set_cons_succ] at hj
      exact hj
    refine armL_ (i := 10) (N := some 6) #[true, true, true, true, true, true, false, true, true, true, true, true, false, false, false, false, false, false] rfl rfl (by kernel_rfl) (by simp) (fun K hK => ?_) ?_
    · obtain ⟨gq, Gq⟩ : ∃ g, Hid ((World.heap (wj)).size = g) := ⟨_, Lib.hid rfl⟩
      obtain ⟨v, V, -, xv, bv⟩ := allocS (wj) 0 0 (fun _ => 0) 0 ⟨#[]⟩ ⟨#[]⟩ 0 0 28 gq Gq.out
      have rg := Gq.out
      have rv := V.out
      go_simp
      clear rg rv
      refine hK.out _ _ ?_ (fun hHeld => ?_)
      · exact (hZ).1.trans xv
      clear hK K
      (try simp only [Act.put, List.setIfInBounds_toArray, List.set_cons_zero, List.set_cons_succ])
      have hj := J789ab (0, g7, g8, g9, gq, g11) v ((hZ).ins (a := [g7, g8, g9]) (b := [g11]) xv Gq.out bv)
      simp only [putAll, Act.put, List.setIfInBounds_toArray, List.set_cons_zero, List.set_cons_succ] at hj
      exact hj
    exact AllReadyL.nil
  intro J789b
  refine join_ (σ := Nat × Nat × Nat × Nat × Nat × Nat) 8 #[true, true, true, true, true, true, false, true, true, false, true, true, false, false, false, false, false, false] (fun s => [(3, .pointer (some ⟨s.2.1, 0, none⟩)), (4, .pointer (some ⟨s.2.2.1, 0, none⟩)), (6, .pointer (some ⟨s.2.2.2.2.1, 0, none⟩)), (7, .pointer (some ⟨s.2.2.2.2.2, 0, none⟩))]) (fun s W => Zks z1 W [s.2.1, s.2.2.1, s.2.2.2.2.1, s.2.2.2.2.2]) ?_ ?_
  · rintro ⟨g6, g7, g8, g9, g10, g11⟩ wj hZ
    dsimp only at hZ
    have hHeld : Ext z1 wj := hZ.1
    simp only [putAll, Act.put, List.setIfInBounds_toArray, List.set_cons_zero, List.set_cons_succ]
    refine many_ [6, 9] (by kernel_rfl) (by simp) ?_
    refine armL_ (i := 6) (N := some 2) #[true, true, true, true, true, true, true, true, true, false, true, true, false, false, false, false, false, false] rfl rfl (by kernel_rfl) (by simp) (fun K hK => ?_) ?_
    · obtain ⟨gq, Gq⟩ : ∃ g, Hid ((World.heap (wj)).size = g) := ⟨_, Lib.hid rfl⟩
      obtain ⟨v, V, -, xv, bv⟩ := allocS (wj) 0 0 (fun _ => 0) 0 ⟨#[]⟩ ⟨#[]⟩ 0 0 28 gq Gq.out
      have rg := Gq.out
      have rv := V.out
      go_simp
      clear rg rv
      refine hK.out _ _ ?_ (fun hHeld => ?_)
      · exact (hZ).1.trans xv
      clear hK K
      (try simp only [Act.put, List.setIfInBounds_toArray, List.set_cons_zero, List.set_cons_succ])
      have hj := J678ab (gq, g7, g8, 0, g10, g11) v ((hZ).ins (a := []) (b := [g7, g8, g10, g11]) xv Gq.out bv)
      simp only [putAll, Act.put, List.setIfInBounds_toArray, List.set_cons_zero, List.set_cons_succ] at hj
      exact hj
    refine armL_ (i := 9) (N := some 5) #[true, true, true, true, true, true, false, true, true, true, true, true, false, false, false, false, false, false] rfl rfl (by kernel_rfl) (by simp) (fun K hK => ?_) ?_
    · obtain ⟨gq, Gq⟩ : ∃ g, Hid ((World.heap (wj)).size = g) := ⟨_, Lib.hid rfl⟩
      obtain ⟨v, V, -, xv, bv⟩ := allocS (wj) 0 0 (fun _ => 0) 0 ⟨#[]⟩ ⟨#[]⟩ 0 0 28 gq Gq.out
      have rg := Gq.out
      have rv := V.out
      go_simp
      clear rg rv
      refine hK.out _ _ ?_ (fun hHeld => ?_)
      · exact (hZ).1.trans xv
      clear hK K
      (try simp only [Act.put, List.setIfInBounds_toArray, List.set_cons_zero, List.set_cons_succ])
      have hj := J789ab (0, g7, g8, gq, g10, g11) v ((hZ).ins (a := [g7, g8]) (b := [g10, g11]) xv Gq.out bv)
      simp only [putAll, Act.put, List.setIfInBounds_toArray, List.set_cons_zero, List.set_cons_succ] at hj
      exact hj
    exact AllReadyL.nil
  intro J78ab
  refine join_ (σ := Nat × Nat × Nat × Nat × Nat × Nat) 8 #[true, true, true, true, true, true, false, true, false, true, true, true, false, false, false, false, false, false] (fun s => [(3, .pointer (some ⟨s.2.1, 0, none⟩)), (5, .pointer (some ⟨s.2.2.2.1, 0, none⟩)), (6, .pointer (some ⟨s.2.2.2.2.1, 0, none⟩)), (7, .pointer (some ⟨s.2.2.2.2.2, 0, none⟩))]) (fun s W => Zks z1 W [s.2.1, s.2.2.2.1, s.2.2.2.2.1, s.2.2.2.2.2]) ?_ ?_
  · rintro ⟨g6, g7, g8, g9, g10, g11⟩ wj hZ
    dsimp only at hZ
    have hHeld : Ext z1 wj := hZ.1
    simp only [putAll, Act.put, List.setIfInBounds_toArray, List.set_cons_zero, List.set_cons_succ]
    refine many_ [6, 8] (by kernel_rfl) (by simp) ?_
    refine armL_ (i := 6) (N := some 2) #[true, true, true, true, true, true, true, true, false, true, true, true, false, false, false, false, false, false] rfl rfl (by kernel_rfl) (by simp) (fun K hK => ?_) ?_
    · obtain ⟨gq, Gq⟩ : ∃ g, Hid ((World.heap (wj)).size = g) := ⟨_, Lib.hid rfl⟩
      obtain ⟨v, V, -, xv, bv⟩ := allocS (wj) 0 0 (fun _ => 0) 0 ⟨#[]⟩ ⟨#[]⟩ 0 0 28 gq Gq.out
      have rg := Gq.out
      have rv := V.out
      go_simp
      clear rg rv
      refine hK.out _ _ ?_ (fun hHeld => ?_)
      · exact (hZ).1.trans xv
      clear hK K
      (try simp only [Act.put, List.setIfInBounds_toArray, List.set_cons_zero, List.set_cons_succ])
      have hj := J679ab (gq, g7, 0, g9, g10, g11) v ((hZ).ins (a := []) (b := [g7, g9, g10, g11]) xv Gq.out bv)
      simp only [putAll, Act.put, List.setIfInBounds_toArray, List.set_cons_zero, List.set_cons_succ] at hj
      exact hj
    refine armL_ (i := 8) (N := some 4) #[true, true, true, true, true, true, false, true, true, true, true, true, false, false, false, false, false, false] rfl rfl (by kernel_rfl) (by simp) (fun K hK => ?_) ?_
    · obtain ⟨gq, Gq⟩ : ∃ g, Hid ((World.heap (wj)).size = g) := ⟨_, Lib.hid rfl⟩
      obtain ⟨v, V, -, xv, bv⟩ := allocS (wj) 0 0 (fun _ => 0) 0 ⟨#[]⟩ ⟨#[]⟩ 0 0 28 gq Gq.out
      have rg := Gq.out
      have rv := V.out
      go_simp
      clear rg rv
      refine hK.out _ _ ?_ (fun hHeld => ?_)
      · exact (hZ).1.trans xv
      clear hK K
      (try simp only [Act.put, List.setIfInBounds_toArray, List.set_cons_zero, List.set_cons_succ])
      have hj := J789ab (0, g7, gq, g9, g10, g11) v ((hZ).ins (a := [g7]) (b := [g9, g10, g11]) xv Gq.out bv)
      simp only [putAll, Act.put, List.setIfInBounds_toArray, List.set_cons_zero, List.set_cons_succ] at hj
      exact hj
    exact AllReadyL.nil
  intro J79ab
  refine join_ (σ := Nat × Nat × Nat × Nat × Nat × Nat) 8 #[true, true, true, true, true, true, false, false, true, true, true, true, false, false, false, false, false, false] (fun s => [(4, .pointer (some ⟨s.2.2.1, 0, none⟩)), (5, .pointer (some ⟨s.2.2.2.1, 0, none⟩)), (6, .pointer (some ⟨s.2.2.2.2.1, 0, none⟩)), (7, .pointer (some ⟨s.2.2.2.2.2, 0, none⟩))]) (fun s W => Zks z1 W [s.2.2.1, s.2.2.2.1, s.2.2.2.2.1, s.2.2.2.2.2]) ?_ ?_
  · rintro ⟨g6, g7, g8, g9, g10, g11⟩ wj hZ
    dsimp only at hZ
    have hHeld : Ext z1 wj := hZ.1
    simp only [putAll, Act.put, List.setIfInBounds_toArray, List.set_cons_zero, List.set_cons_succ]
    refine many_ [6, 7] (by kernel_rfl) (by simp) ?_
    refine armL_ (i := 6) (N := some 2) #[true, true, true, true, true, true, true, false, true, true, true, true, false, false, false, false, false, false] rfl rfl (by kernel_rfl) (by simp) (fun K hK => ?_) ?_
    · obtain ⟨gq, Gq⟩ : ∃ g, Hid ((World.heap (wj)).size = g) := ⟨_, Lib.hid rfl⟩
      obtain ⟨v, V, -, xv, bv⟩ := allocS (wj) 0 0 (fun _ => 0) 0 ⟨#[]⟩ ⟨#[]⟩ 0 0 28 gq Gq.out
      have rg := Gq.out
      have rv := V.out
      go_simp
      clear rg rv
      refine hK.out _ _ ?_ (fun hHeld => ?_)
      · exact (hZ).1.trans xv
      clear hK K
      (try simp only [Act.put, List.setIfInBounds_toArray, List.set_cons_zero, List.set_cons_succ])
      have hj := J689ab (gq, 0, g8, g9, g10, g11) v ((hZ).ins (a := []) (b := [g8, g9, g10, g11]) xv Gq.out bv)
      simp only [putAll, Act.put, List.setIfInBounds_toArray, List.set_cons_zero, List.set_cons_succ] at hj
      exact hj
    refine armL_ (i := 7) (N := some 3) #[true, true, true, true, true, true, false, true, true, true, true, true, false, false, false, false, false, false] rfl rfl (by kernel_rfl) (by simp) (fun K hK => ?_) ?_
    · obtain ⟨gq, Gq⟩ : ∃ g, Hid ((World.heap (wj)).size = g) := ⟨_, Lib.hid rfl⟩
      obtain ⟨v, V, -, xv, bv⟩ := allocS (wj) 0 0 (fun _ => 0) 0 ⟨#[]⟩ ⟨#[]⟩ 0 0 28 gq Gq.out
      have rg := Gq.out
      have rv := V.out
      go_simp
      clear rg rv
      refine hK.out _ _ ?_ (fun hHeld => ?_)
      · exact (hZ).1.trans xv
      clear hK K
      (try simp only [Act.put, List.setIfInBounds_toArray, List.set_cons_zero, List.set_cons_succ])
      have hj := J789ab (0, gq, g8, g9, g10, g11) v ((hZ).ins (a := []) (b := [g8, g9, g10, g11]) xv Gq.out bv)
      simp only [putAll, Act.put, List.setIfInBounds_toArray, List.set_cons_zero, List.set_cons_succ] at hj
      exact hj
    exact AllReadyL.nil
  intro J89ab
  refine join_ (σ := Nat × Nat × Nat × Nat × Nat × Nat) 9 #[true, true, true, true, true, true, true, true, true, false, false, false, false, false, false, false, false, false] (fun s => [(2, .pointer (some ⟨s.1, 0, none⟩)), (3, .pointer (some ⟨s.2.1, 0, none⟩)), (4, .pointer (some ⟨s.2.2.1, 0, none⟩))]) (fun s W => Zks z1 W [s.1, s.2.1, s.2.2.1]) ?_ ?_
  · rintro ⟨g6, g7, g8, g9, g10, g11⟩ wj hZ
    dsimp only at hZ
    have hHeld : Ext z1 wj := hZ.1
    simp only [putAll, Act.put, List.setIfInBounds_toArray, List.set_cons_zero, List.set_cons_succ]
    refine many_ [9, 10, 11] (by kernel_rfl) (by simp) ?_
    refine armL_ (i := 9) (N := some 5) #[true, true, true, true, true, true, true, true, true, true, false, false, false, false, false, false, false, false] rfl rfl (by kernel_rfl) (by simp) (fun K hK => ?_) ?_
    · obtain ⟨gq, Gq⟩ : ∃ g, Hid ((World.heap (wj)).size = g) := ⟨_, Lib.hid rfl⟩
      obtain ⟨v, V, -, xv, bv⟩ := allocS (wj) 0 0 (fun _ => 0) 0 ⟨#[]⟩ ⟨#[]⟩ 0 0 28 gq Gq.out
      have rg := Gq.out
      have rv := V.out
      go_simp
      clear rg rv
      refine hK.out _ _ ?_ (fun hHeld => ?_)
      · exact (hZ).1.trans xv
      clear hK K
      (try simp only [Act.put, List.setIfInBounds_toArray, List.set_cons_zero, List.set_cons_succ])
      have hj := J6789 (g6, g7, g8, gq, 0, 0) v ((hZ).ins (a := [g6, g7, g8]) (b := []) xv Gq.out bv)
      simp only [putAll, Act.put, List.setIfInBounds_toArray, List.set_cons_zero, List.set_cons_succ] at hj
      exact hj
    refine armL_ (i := 10) (N := some 6) #[true, true, true, true, true, true, true, true, true, false, true, false, false, false, false, false, false, false] rfl rfl (by kernel_rfl) (by simp) (fun K hK => ?_) ?_
    · obtain ⟨gq, Gq⟩ : ∃ g, Hid ((World.heap (wj)).size = g) := ⟨_, Lib.hid rfl⟩
      obtain ⟨v, V, -, xv, bv⟩ := allocS (wj) 0 0 (fun _ => 0) 0 ⟨#[]⟩ ⟨#[]⟩ 0 0 28 gq Gq.out
      have rg := Gq.out
      have rv := V.out
      go_simp
      clear rg rv
      refine hK.out _ _ ?_ (fun hHeld => ?_)
      · exact (hZ).1.trans xv
      clear hK K
      (try simp only [Act.put, List.setIfInBounds_toArray, List.set_cons_zero, List.set_cons_succ])
      have hj := J678a (g6, g7, g8, 0, gq, 0) v ((hZ).ins (a := [g6, g7, g8]) (b := []) xv Gq.out bv)
      simp only [putAll, Act.put, List.setIfInBounds_toArray, List.set_cons_zero, List.set_cons_succ] at hj
      exact hj
    refine armL_ (i := 11) (N := some 7) #[true, true, true, true, true, true, true, true, true, false, false, true, false, false, false, false, false, false] rfl rfl (by kernel_rfl) (by simp) (fun K hK => ?_) ?_
    · obtain ⟨gq, Gq⟩ : ∃ g, Hid ((World.heap (wj)).size = g) := ⟨_, Lib.hid rfl⟩
      obtain ⟨v, V, -, xv, bv⟩ := allocS (wj) 0 0 (fun _ => 0) 0 ⟨#[]⟩ ⟨#[]⟩ 0 0 28 gq Gq.out
      have rg := Gq.out
      have rv := V.out
      go_simp
      clear rg rv
      refine hK.out _ _ ?_ (fun hHeld => ?_)
      · exact (hZ).1.trans xv
      clear hK K
      (try simp only [Act.put, List.setIfInBounds_toArray, List.set_cons_zero, List.set_cons_succ])
      have hj := J678b (g6, g7, g8, 0, 0, gq) v ((hZ).ins (a := [g6, g7, g8]) (b := []) xv Gq.out bv)
      simp only [putAll, Act.put, List.setIfInBounds_toArray, List.set_cons_zero, List.set_cons_succ] at hj
      exact hj
    exact AllReadyL.nil
  intro J678
  refine join_ (σ := Nat × Nat × Nat × Nat × Nat × Nat) 9 #[true, true, true, true, true, true, true, true, false, true, false, false, false, false, false, false, false, false] (fun s => [(2, .pointer (some ⟨s.1, 0, none⟩)), (3, .pointer (some ⟨s.2.1, 0, none⟩)), (5, .pointer (some ⟨s.2.2.2.1, 0, none⟩))]) (fun s W => Zks z1 W [s.1, s.2.1, s.2.2.2.1]) ?_ ?_
  · rintro ⟨g6, g7, g8, g9, g10, g11⟩ wj hZ
    dsimp only at hZ
    have hHeld : Ext z1 wj := hZ.1
    simp only [putAll, Act.put, List.setIfInBounds_toArray, List.set_cons_zero, List.set_cons_succ]
    refine many_ [8, 10, 11] (by kernel_rfl) (by simp) ?_
    refine armL_ (i := 8) (N := some 4) #[true, true, true, true, true, true, true, true, true, true, false, false, false, false, false, false, false, false] rfl rfl (by kernel_rfl) (by simp) (fun K hK => ?_) ?_
    · obtain ⟨gq, Gq⟩ : ∃ g, Hid ((World.heap (wj)).size = g) := ⟨_, Lib.hid rfl⟩
      obtain ⟨v, V, -, xv, bv⟩ := allocS (wj) 0 0 (fun _ => 0) 0 ⟨#[]⟩ ⟨#[]⟩ 0 0 28 gq Gq.out
      have rg := Gq.out
      have rv := V.out
      go_simp
      clear rg rv
      refine hK.out _ _ ?_ (fun hHeld => ?_)
      · exact (hZ).1.trans xv
      clear hK K
      (try simp only [Act.put, List.setIfInBounds_toArray, List.set_cons_zero, List.set_cons_succ])
      have hj := J6789 (g6, g7, gq, g9, 0, 0) v ((hZ).ins (a := [g6, g7]) (b := [g9]) xv Gq.out bv)
      simp only [putAll, Act.put, List.setIfInBounds_toArray, List.set_cons_zero, List.set_cons_succ] at hj
      exact hj
    refine armL_ (i := 10) (N := some 6) #[true, true, true, true, true, true, true, true, false, true, true, false, false, false, false, false, false, false] rfl rfl (by kernel_rfl) (by simp) (fun K hK => ?_) ?_
    · obtain ⟨gq, Gq⟩ : ∃ g, Hid ((World.heap (wj)).size = g) := ⟨_, Lib.hid rfl⟩
      obtain ⟨v, V, -, xv, bv⟩ := allocS (wj) 0 0 (fun _ => 0) 0 ⟨#[]⟩ ⟨#[]⟩ 0 0 28 gq Gq.out
      have rg := Gq.out
      have rv := V.out
      go_simp
      clear rg rv
      refine hK.out _ _ ?_ (fun hHeld => ?_)
      · exact (hZ).1.trans xv
      clear hK K
      (try simp only [Act.put, List.setIfInBounds_toArray, List.set_cons_zero, List.set_cons_succ])
      have hj := J679a (g6, g7, 0, g9, gq, 0) v ((hZ).ins (a := [g6, g7, g9]) (b := []) xv Gq.out bv)
      simp only [putAll, Act.put, List.setIfInBounds_toArray, List.set_cons_zero, List.set_cons_succ] at hj
      exact hj
    refine armL_ (i := 11) (N := some 7) #[true, true, true, true, true, true, true, true, false, true, false, true, false, false, false, false, false, false] rfl rfl (by kernel_rfl) (by simp) (fun K hK => ?_) ?_
    · obtain ⟨gq, Gq⟩ : ∃ g, Hid ((World.heap (wj)).size = g) := ⟨_, Lib.hid rfl⟩
      obtain ⟨v, V, -, xv, bv⟩ := allocS (wj) 0 0 (fun _ => 0) 0 ⟨#[]⟩ ⟨#[]⟩ 0 0 28 gq Gq.out
      have rg := Gq.out
      have rv := V.out
      go_simp
      clear rg rv
      refine hK.out _ _ ?_ (fun hHeld => ?_)
      · exact (hZ).1.trans xv
      clear hK K
      (try simp only [Act.put, List.setIfInBounds_toArray, List.set_cons_zero, List.set_cons_succ])
      have hj := J679b (g6, g7, 0, g9, 0, gq) v ((hZ).ins (a := [g6, g7, g9]) (b := []) xv Gq.out bv)
      simp only [putAll, Act.put, List.setIfInBounds_toArray, List.set_cons_zero, List.set_cons_succ] at hj
      exact hj
    exact AllReadyL.nil
  intro J679
  refine join_ (σ := Nat × Nat × Nat × Nat × Nat × Nat) 9 #[true, true, true, true, true, true, true, true, false, false, true, false, false, false, false, false, false, false] (fun s => [(2, .pointer (some ⟨s.1, 0, none⟩)), (3, .pointer (some ⟨s.2.1, 0, none⟩)), (6, .pointer (some ⟨s.2.2.2.2.1, 0, none⟩))]) (fun s W => Zks z1 W [s.1, s.2.1, s.2.2.2.2.1]) ?_ ?_
  · rintro ⟨g6, g7, g8, g9, g10, g11⟩ wj hZ
    dsimp only at hZ
    have hHeld : Ext z1 wj := hZ.1
    simp only [putAll, Act.put, List.setIfInBounds_toArray, List.set_cons_zero, List.set_cons_succ]
    refine many_ [8, 9, 11] (by kernel_rfl) (by simp) ?_
    refine armL_ (i := 8) (N := some 4) #[true, true, true, true, true, true, true, true, true, false, true, false, false, false, false, false, false, false] rfl rfl (by kernel_rfl) (by simp) (fun K hK => ?_) ?_
    · obtain ⟨gq, Gq⟩ : ∃ g, Hid ((World.heap (wj)).size = g) := ⟨_, Lib.hid rfl⟩
      obtain ⟨v, V, -, xv, bv⟩ := allocS (wj) 0 0 (fun _ => 0) 0 ⟨#[]⟩ ⟨#[]⟩ 0 0 28 gq Gq.out
      have rg := Gq.out
      have rv := V.out
      go_simp
      clear rg rv
      refine hK.out _ _ ?_ (fun hHeld => ?_)
      · exact (hZ).1.trans xv
      clear hK K
      (try simp only [Act.put, List.setIfInBounds_toArray, List.set_cons_zero, List.set_cons_succ])
      have hj := J678a (g6, g7, gq, 0, g10, 0) v ((hZ).ins (a := [g6, g7]) (b := [g10]) xv Gq.out bv)
      simp only [putAll, Act.put, List.setIfInBounds_toArray, List.set_cons_zero, List.set_cons_succ] at hj
      exact hj
    refine armL_ (i := 9) (N := some 5) #[true, true, true, true, true, true, true, true, false, true, true, false, false, false, false, false, false, false] rfl rfl (by kernel_rfl) (by simp) (fun K hK => ?_) ?_
    · obtain ⟨gq, Gq⟩ : ∃ g, Hid ((World.heap (wj)).size = g) := ⟨_, Lib.hid rfl⟩
      obtain ⟨v, V, -, xv, bv⟩ := allocS (wj) 0 0 (fun _ => 0) 0 ⟨#[]⟩ ⟨#[]⟩ 0 0 28 gq Gq.out
      have rg := Gq.out
      have rv := V.out
      go_simp
      clear rg rv
      refine hK.out _ _ ?_ (fun hHeld => ?_)
      · exact (hZ).1.trans xv
      clear hK K
      (try simp only [Act.put, List.setIfInBounds_toArray, List.set_cons_zero, List.set_cons_succ])
      have hj := J679a (g6, g7, 0, gq, g10, 0) v ((hZ).ins (a := [g6, g7]) (b := [g10]) xv Gq.out bv)
      simp only [putAll, Act.put, List.setIfInBounds_toArray, List.set_cons_zero, List.set_cons_succ] at hj
      exact hj
    refine armL_ (i := 11) (N := some 7) #[true, true, true, true, true, true, true, true, false, false, true, true, false, false, false, false, false, false] rfl rfl (by kernel_rfl) (by simp) (fun K hK => ?_) ?_
    · obtain ⟨gq, Gq⟩ : ∃ g, Hid ((World.heap (wj)).size = g) := ⟨_, Lib.hid rfl⟩
      obtain ⟨v, V, -, xv, bv⟩ := allocS (wj) 0 0 (fun _ => 0) 0 ⟨#[]⟩ ⟨#[]⟩ 0 0 28 gq Gq.out
      have rg := Gq.out
      have rv := V.out
      go_simp
      clear rg rv
      refine hK.out _ _ ?_ (fun hHeld => ?_)
      · exact (hZ).1.trans xv
      clear hK K
      (try simp only [Act.put, List.setIfInBounds_toArray, List.set_cons_zero, List.set_cons_succ])
      have hj := J67ab (g6, g7, 0, 0, g10, gq) v ((hZ).ins (a := [g6, g7, g10]) (b := []) xv Gq.out bv)
      simp only [putAll, Act.put, List.setIfInBounds_toArray, List.set_cons_zero, List.set_cons_succ] at hj
      exact hj
    exact AllReadyL.nil
  intro J67a
  refine join_ (σ := Nat × Nat × Nat × Nat × Nat × Nat) 9 #[true, true, true, true, true, true, true, true, false, false, false, true, false, false, false, false, false, false] (fun s => [(2, .pointer (some ⟨s.1, 0, none⟩)), (3, .pointer (some ⟨s.2.1, 0, none⟩)), (7, .pointer (some ⟨s.2.2.2.2.2, 0, none⟩))]) (fun s W => Zks z1 W [s.1, s.2.1, s.2.2.2.2.2]) ?_ ?_
  · rintro ⟨g6, g7, g8, g9, g10, g11⟩ wj hZ
    dsimp only at hZ
    have hHeld : Ext z1 wj := hZ.1
    simp only [putAll, Act.put, List.setIfInBounds_toArray, List.set_cons_zero, List.set_cons_succ]
    refine many_ [8, 9, 10] (by kernel_rfl) (by simp) ?_
    refine armL_ (i := 8) (N := some 4) #[true, true, true, true, true, true, true, true, true, false, false, true, false, false, false, false, false, false] rfl rfl (by kernel_rfl) (by simp) (fun K hK => ?_) ?_
    · obtain ⟨gq, Gq⟩ : ∃ g, Hid ((World.heap (wj)).size = g) := ⟨_, Lib.hid rfl⟩
      obtain ⟨v, V, -, xv, bv⟩ := allocS (wj) 0 0 (fun _ => 0) 0 ⟨#[]⟩ ⟨#[]⟩ 0 0 28 gq Gq.out
      have rg := Gq.out
      have rv := V.out
      go_simp
      clear rg rv
      refine hK.out _ _ ?_ (fun hHeld => ?_)
      · exact (hZ).1.trans xv
      clear hK K
      (try simp only [Act.put, List.setIfInBounds_toArray, List.set_cons_zero, List.set_cons_succ])
      have hj := J678b (g6, g7, gq, 0, 0, g11) v ((hZ).ins (a := [g6, g7]) (b := [g11]) xv Gq.out bv)
      simp only [putAll, Act.put, List.setIfInBounds_toArray, List.set_cons_zero, List.set_cons_succ] at hj
      exact hj
    refine armL_ (i := 9) (N := some 5) #[true, true, true, true, true, true, true, true, false, true, false, true, false, false, false, false, false, false] rfl rfl (by kernel_rfl) (by simp) (fun K hK => ?_) ?_
    · obtain ⟨gq, Gq⟩ : ∃ g, Hid ((World.heap (wj)).size = g) := ⟨_, Lib.hid rfl⟩
      obtain ⟨v, V, -, xv, bv⟩ := allocS (wj) 0 0 (fun _ => 0) 0 ⟨#[]⟩ ⟨#[]⟩ 0 0 28 gq Gq.out
      have rg := Gq.out
      have rv := V.out
      go_simp
      clear rg rv
      refine hK.out _ _ ?_ (fun hHeld => ?_)
      · exact (hZ).1.trans xv
      clear hK K
      (try simp only [Act.put, List.setIfInBounds_toArray, List.set_cons_zero, List.set_cons_succ])
      have hj := J679b (g6, g7, 0, gq, 0, g11) v ((hZ).ins (a := [g6, g7]) (b := [g11]) xv Gq.out bv)
      simp only [putAll, Act.put, List.setIfInBounds_toArray, List.set_cons_zero, List.set_cons_succ] at hj
      exact hj
    refine armL_ (i := 10) (N := some 6) #[true, true, true, true, true, true, true, true, false, false, true, true, false, false, false, false, false, false] rfl rfl (by kernel_rfl) (by simp) (fun K hK => ?_) ?_
    · obtain ⟨gq, Gq⟩ : ∃ g, Hid ((World.heap (wj)).size = g) := ⟨_, Lib.hid rfl⟩
      obtain ⟨v, V, -, xv, bv⟩ := allocS (wj) 0 0 (fun _ => 0) 0 ⟨#[]⟩ ⟨#[]⟩ 0 0 28 gq Gq.out
      have rg := Gq.out
      have rv := V.out
      go_simp
      clear rg rv
      refine hK.out _ _ ?_ (fun hHeld => ?_)
      · exact (hZ).1.trans xv
      clear hK K
      (try simp only [Act.put, List.setIfInBounds_toArray, List.set_cons_zero, List.set_cons_succ])
      have hj := J67ab (g6, g7, 0, 0, gq, g11) v ((hZ).ins (a := [g6, g7]) (b := [g11]) xv Gq.out bv)
      simp only [putAll, Act.put, List.setIfInBounds_toArray, List.set_cons_zero, List.set_cons_succ] at hj
      exact hj
    exact AllReadyL.nil
  intro J67b
  refine join_ (σ := Nat × Nat × Nat × Nat × Nat × Nat) 9 #[true, true, true, true, true, true, true, false, true, true, false, false, false, false, false, false, false, false] (fun s => [(2, .pointer (some ⟨s.1, 0, none⟩)), (4, .pointer (some ⟨s.2.2.1, 0, none⟩)), (5, .pointer (some ⟨s.2.2.2.1, 0, none⟩))]) (fun s W => Zks z1 W [s.1, s.2.2.1, s.2.2.2.1]) ?_ ?_
  · rintro ⟨g6, g7, g8, g9, g10, g11⟩ wj hZ
    dsimp only at hZ
    have hHeld : Ext z1 wj := hZ.1
    simp only [putAll, Act.put, List.setIfInBounds_toArray, List.set_cons_zero, List.set_cons_succ]
    refine many_ [7, 10, 11] (by kernel_rfl) (by simp) ?_
    refine armL_ (i := 7) (N := some 3) #[true, true, true, true, true, true, true, true, true, true, false, false, false, false, false, false, false, false] rfl rfl (by kernel_rfl) (by simp) (fun K hK => ?_) ?_
    · obtain ⟨gq, Gq⟩ : ∃ g, Hid ((World.heap (wj)).size = g) := ⟨_, Lib.hid rfl⟩
      obtain ⟨v, V, -, xv, bv⟩ := allocS (wj) 0 0 (fun _ => 0) 0 ⟨#[]⟩ ⟨#[]⟩ 0 0 28 gq Gq.out
      have rg := Gq.out
      have rv := V.out
      go_simp
      clear rg rv
      refine hK.out _ _ ?_ (fun hHeld => ?_)
      · exact (hZ).1.trans xv
      clear hK K
      (try simp only [Act.put, List.setIfInBounds_toArray, List.set_cons_zero, List.set_cons_succ])
      have hj := J6789 (g6, gq, g8, g9, 0, 0) v ((hZ).ins (a := [g6]) (b := [g8, g9]) xv Gq.out bv)
      simp only [putAll, Act.put, List.setIfInBounds_toArray, List.set_cons_zero, List.set_cons_succ] at hj
      exact hj
    refine armL_ (i := 10) (N := some 6) #[true, true, true, true, true, true, true, false, true, true, true, false, false, false, false, false, false, false] rfl rfl (by kernel_rfl) (by simp) (fun K hK => ?_) ?_
    · obtain ⟨gq, Gq⟩ : ∃ g, Hid ((World.heap (wj)).size = g) := ⟨_, Lib.hid rfl⟩
      obtain ⟨v, V, -, xv, bv⟩ := allocS (wj) 0 0 (fun _ => 0) 0 ⟨#[]⟩ ⟨#[]⟩ 0 0 28 gq Gq.out
      have rg := Gq.out
      have rv := V.out
      go_simp
      clear rg rv
      refine hK.out _ _ ?_ (fun hHeld => ?_)
      · exact (hZ).1.trans xv
      clear hK K
      (try simp only [Act.put, List.setIfInBounds_toArray, List.set_cons_zero, List.set_cons_succ])
      have hj := J689a (g6, 0, g8, g9, gq, 0) v ((hZ).ins (a := [g6, g8, g9]) (b := []) xv Gq.out bv)
      simp only [putAll, Act.put, List.setIfInBounds_toArray, List.set_cons_zero, List.set_cons_succ] at hj
      exact hj
    refine armL_ (i := 11) (N := some 7) #[true, true, true, true, true, true, true, false, true, true, false, true, false, false, false, false, false, false] rfl rfl (by kernel_rfl) (by simp) (fun K hK => ?_) ?_
    · obtain ⟨gq, Gq⟩ : ∃ g, Hid ((World.heap (wj)).size = g) := ⟨_, Lib.hid rfl⟩
      obtain ⟨v, V, -, xv, bv⟩ := allocS (wj) 0 0 (fun _ => 0) 0 ⟨#[]⟩ ⟨#[]⟩ 0 0 28 gq Gq.out
      have rg := Gq.out
      have rv := V.out
      go_simp
      clear rg rv
      refine hK.out _ _ ?_ (fun hHeld => ?_)
      · exact (hZ).1.trans xv
      clear hK K
      (try simp only [Act.put, List.setIfInBounds_toArray, List.set_cons_zero, List.set_cons_succ])
      have hj := J689b (g6, 0, g8, g9, 0, gq) v ((hZ).ins (a := [g6, g8, g9]) (b := []) xv Gq.out bv)
      simp only [putAll, Act.put, List.setIfInBounds_toArray, List.set_cons_zero, List.set_cons_succ] at hj
      exact hj
    exact AllReadyL.nil
  intro J689
  refine join_ (σ := Nat × Nat × Nat × Nat × Nat × Nat) 9 #[true, true, true, true, true, true, true, false, true, false, true, false, false, false, false, false, false, false] (fun s => [(2, .pointer (some ⟨s.1, 0, none⟩)), (4, .pointer (some ⟨s.2.2.1, 0, none⟩)), (6, .pointer (some ⟨s.2.2.2.2.1, 0, none⟩))]) (fun s W => Zks z1 W [s.1, s.2.2.1, s.2.2.2.2.1]) ?_ ?_
  · rintro ⟨g6, g7, g8, g9, g10, g11⟩ wj hZ
    dsimp only at hZ
    have hHeld : Ext z1 wj := hZ.1
    simp only [putAll, Act.put, List.setIfInBounds_toArray, List.set_cons_zero, List.set_cons_succ]
    refine many_ [7, 9, 11] (by kernel_rfl) (by simp) ?_
    refine armL_ (i := 7) (N := some 3) #[true, true, true, true, true, true, true, true, true, false, true, false, false, false, false, false, false, false] rfl rfl (by kernel_rfl) (by simp) (fun K hK => ?_) ?_
    · obtain ⟨gq, Gq⟩ : ∃ g, Hid ((World.heap (wj)).size = g) := ⟨_, Lib.hid rfl⟩
      obtain ⟨v, V, -, xv, bv⟩ := allocS (wj) 0 0 (fun _ => 0) 0 ⟨#[]⟩ ⟨#[]⟩ 0 0 28 gq Gq.out
      have rg := Gq.out
      have rv := V.out
      go_simp
      clear rg rv
      refine hK.out _ _ ?_ (fun hHeld => ?_)
      · exact (hZ).1.trans xv
      clear hK K
      (try simp only [Act.put, List.setIfInBounds_toArray, List.set_cons_zero, List.set_cons_succ])
      have hj := J678a (g6, gq, g8, 0, g10, 0) v ((hZ).ins (a := [g6]) (b := [g8, g10]) xv Gq.out bv)
      simp only [putAll, Act.put, List.setIfInBounds_toArray, List.set_cons_zero, List.set_cons_succ] at hj
      exact hj
    refine armL_ (i := 9) (N := some 5) #[true, true, true, true, true, true, true, false, true, true, true, false, false, false, false, false, false, false] rfl rfl (by kernel_rfl) (by simp) (fun K hK => ?_) ?_
    · obtain ⟨gq, Gq⟩ : ∃ g, Hid ((World.heap (wj)).size = g) := ⟨_, Lib.hid rfl⟩
      obtain ⟨v, V, -, xv, bv⟩ := allocS (wj) 0 0 (fun _ => 0) 0 ⟨#[]⟩ ⟨#[]⟩ 0 0 28 gq Gq.out
      have rg := Gq.out
      have rv := V.out
      go_simp
      clear rg rv
      refine hK.out _ _ ?_ (fun hHeld => ?_)
      · exact (hZ).1.trans xv
      clear hK K
      (try simp only [Act.put, List.setIfInBounds_toArray, List.set_cons_zero, List.set_cons_succ])
      have hj := J689a (g6, 0, g8, gq, g10, 0) v ((hZ).ins (a := [g6, g8]) (b := [g10]) xv Gq.out bv)
      simp only [putAll, Act.put, List.setIfInBounds_toArray, List.set_cons_zero, List.set_cons_succ] at hj
      exact hj
    refine armL_ (i := 11) (N := some 7) #[true, true, true, true, true, true, true, false, true, false, true, true, false, false, false, false, false, false] rfl rfl (by kernel_rfl) (by simp) (fun K hK => ?_) ?_
    · obtain ⟨gq, Gq⟩ : ∃ g, Hid ((World.heap (wj)).size = g) := ⟨_, Lib.hid rfl⟩
      obtain ⟨v, V, -, xv, bv⟩ := allocS (wj) 0 0 (fun _ => 0) 0 ⟨#[]⟩ ⟨#[]⟩ 0 0 28 gq Gq.out
      have rg := Gq.out
      have rv := V.out
      go_simp
      clear rg rv
      refine hK.out _ _ ?_ (fun hHeld => ?_)
      · exact (hZ).1.trans xv
      clear hK K
      (try simp only [Act.put, List.setIfInBounds_toArray, List.set_cons_zero, List.set_cons_succ])
      have hj := J68ab (g6, 0, g8, 0, g10, gq) v ((hZ).ins (a := [g6, g8, g10]) (b := []) xv Gq.out bv)
      simp only [putAll, Act.put, List.setIfInBounds_toArray, List.set_cons_zero, List.set_cons_succ] at hj
      exact hj
    exact AllReadyL.nil
  intro J68a
  refine join_ (σ := Nat × Nat × Nat × Nat × Nat × Nat) 9 #[true, true, true, true, true, true, true, false, true, false, false, true, false, false, false, false, false, false] (fun s => [(2, .pointer (some ⟨s.1, 0, none⟩)), (4, .pointer (some ⟨s.2.2.1, 0, none⟩)), (7, .pointer (some ⟨s.2.2.2.2.2, 0, none⟩))]) (fun s W => Zks z1 W [s.1, s.2.2.1, s.2.2.2.2.2]) ?_ ?_
  · rintro ⟨g6, g7, g8, g9, g10, g11⟩ wj hZ
    dsimp only at hZ
    have hHeld : Ext z1 wj := hZ.1
    simp only [putAll, Act.put, List.setIfInBounds_toArray, List.set_cons_zero, List.set_cons_succ]
    refine many_ [7, 9, 10] (by kernel_rfl) (by simp) ?_
    refine armL_ (i := 7) (N := some 3) #[true, true, true, true, true, true, true, true, true, false, false, true, false, false, false, false, false, false] rfl rfl (by kernel_rfl) (by simp) (fun K hK => ?_) ?_
    · obtain ⟨gq, Gq⟩ : ∃ g, Hid ((World.heap (wj)).size = g) := ⟨_, Lib.hid rfl⟩
      obtain ⟨v, V, -, xv, bv⟩ := allocS (wj) 0 0 (fun _ => 0) 0 ⟨#[]⟩ ⟨#[]⟩ 0 0 28 gq Gq.out
      have rg := Gq.out
      have rv := V.out
      go_simp
      clear rg rv
      refine hK.out _ _ ?_ (fun hHeld => ?_)
      · exact (hZ).1.trans xv
      clear hK K
      (try simp only [Act.put, List.setIfInBounds_toArray, List.set_cons_zero, List.set_cons_succ])
      have hj := J678b (g6, gq, g8, 0, 0, g11) v ((hZ).ins (a := [g6]) (b := [g8, g11]) xv Gq.out bv)
      simp only [putAll, Act.put, List.setIfInBounds_toArray, List.set_cons_zero, List.set_cons_succ] at hj
      exact hj
    refine armL_ (i := 9) (N := some 5) #[true, true, true, true, true, true, true, false, true, true, false, true, false, false, false, false, false, false] rfl rfl (by kernel_rfl) (by simp) (fun K hK => ?_) ?_
    · obtain ⟨gq, Gq⟩ : ∃ g, Hid ((World.heap (wj)).size = g) := ⟨_, Lib.hid rfl⟩
      obtain ⟨v, V, -, xv, bv⟩ := allocS (wj) 0 0 (fun _ => 0) 0 ⟨#[]⟩ ⟨#[]⟩ 0 0 28 gq Gq.out
      have rg := Gq.out
      have rv := V.out
      go_simp
      clear rg rv
      refine hK.out _ _ ?_ (fun hHeld => ?_)
      · exact (hZ).1.trans xv
      clear hK K
      (try simp only [Act.put, List.setIfInBounds_toArray, List.set_cons_zero, List.set_cons_succ])
      have hj := J689b (g6, 0, g8, gq, 0, g11) v ((hZ).ins (a := [g6, g8]) (b := [g11]) xv Gq.out bv)
      simp only [putAll, Act.put, List.setIfInBounds_toArray, List.set_cons_zero, List.set_cons_succ] at hj
      exact hj
    refine armL_ (i := 10) (N := some 6) #[true, true, true, true, true, true, true, false, true, false, true, true, false, false, false, false, false, false] rfl rfl (by kernel_rfl) (by simp) (fun K hK => ?_) ?_
    · obtain ⟨gq, Gq⟩ : ∃ g, Hid ((World.heap (wj)).size = g) := ⟨_, Lib.hid rfl⟩
      obtain ⟨v, V, -, xv, bv⟩ := allocS (wj) 0 0 (fun _ => 0) 0 ⟨#[]⟩ ⟨#[]⟩ 0 0 28 gq Gq.out
      have rg := Gq.out
      have rv := V.out
      go_simp
      clear rg rv
      refine hK.out _ _ ?_ (fun hHeld => ?_)
      · exact (hZ).1.trans xv
      clear hK K
      (try simp only [Act.put, List.setIfInBounds_toArray, List.set_cons_zero, List.set_cons_succ])
      have hj := J68ab (g6, 0, g8, 0, gq, g11) v ((hZ).ins (a := [g6, g8]) (b := [g11]) xv Gq.out bv)
      simp only [putAll, Act.put, List.setIfInBounds_toArray, List.set_cons_zero, List.set_cons_succ] at hj
      exact hj
    exact AllReadyL.nil
  intro J68b
  refine join_ (σ := Nat × Nat × Nat × Nat × Nat × Nat) 9 #[true, true, true, true, true, true, true, false, false, true, true, false, false, false, false, false, false, false] (fun s => [(2, .pointer (some ⟨s.1, 0, none⟩)), (5, .pointer (some ⟨s.2.2.2.1, 0, none⟩)), (6, .pointer (some ⟨s.2.2.2.2.1, 0, none⟩))]) (fun s W => Zks z1 W [s.1, s.2.2.2.1, s.2.2.2.2.1]) ?_ ?_
  · rintro ⟨g6, g7, g8, g9, g10, g11⟩ wj hZ
    dsimp only at hZ
    have hHeld : Ext z1 wj := hZ.1
    simp only [putAll, Act.put, List.setIfInBounds_toArray, List.set_cons_zero, List.set_cons_succ]
    refine many_ [7, 8, 11] (by kernel_rfl) (by simp) ?_
    refine armL_ (i := 7) (N := some 3) #[true, true, true, true, true, true, true, true, false, true, true, false, false, false, false, false, false, false] rfl rfl (by kernel_rfl) (by simp) (fun K hK => ?_) ?_
    · obtain ⟨gq, Gq⟩ : ∃ g, Hid ((World.heap (wj)).size = g) := ⟨_, Lib.hid rfl⟩
      obtain ⟨v, V, -, xv, bv⟩ := allocS (wj) 0 0 (fun _ => 0) 0 ⟨#[]⟩ ⟨#[]⟩ 0 0 28 gq Gq.out
      have rg := Gq.out
      have rv := V.out
      go_simp
      clear rg rv
      refine hK.out _ _ ?_ (fun hHeld => ?_)
      · exact (hZ).1.trans xv
      clear hK K
      (try simp only [Act.put, List.setIfInBounds_toArray, List.set_cons_zero, List.set_cons_succ])
      have hj := J679a (g6, gq, 0, g9, g10, 0) v ((hZ).ins (a := [g6]) (b := [g9, g10]) xv Gq.out bv)
      simp only [putAll, Act.put, List.setIfInBounds_toArray, List.set_cons_zero, List.set_cons_succ] at hj
      exact hj
    refine armL_ (i := 8) (N := some 4) #[true, true, true, true, true, true, true, false, true, true, true, false, false, false, false, false, false, false] rfl rfl (by kernel_rfl) (by simp) (fun K hK => ?_) ?_
    · obtain ⟨gq, Gq⟩ : ∃ g, Hid ((World.heap (wj)).size = g) := ⟨_, Lib.hid rfl⟩
      obtain ⟨v, V, -, xv, bv⟩ := allocS (wj) 0 0 (fun _ => 0) 0 ⟨#[]⟩ ⟨#[]⟩ 0 0 28 gq Gq.out
      have rg := Gq.out
      have rv := V.out
      go_simp
      clear rg rv
      refine hK.out _ _ ?_ (fun hHeld => ?_)
      · exact (hZ).1.trans xv
      clear hK K
      (try simp only [Act.put, List.setIfInBounds_toArray, List.set_cons_zero, List.set_cons_succ])
      have hj := J689a (g6, 0, gq, g9, g10, 0) v ((hZ).ins (a := [g6]) (b := [g9, g10]) xv Gq.out bv)
      simp only [putAll, Act.put, List.setIfInBounds_toArray, List.set_cons_zero, List.set_cons_succ] at hj
      exact hj
    refine armL_ (i := 11) (N := some 7) #[true, true, true, true, true, true, true, false, false, true, true, true, false, false, false, false, false, false] rfl rfl (by kernel_rfl) (by simp) (fun K hK => ?_) ?_
    · obtain ⟨gq, Gq⟩ : ∃ g, Hid ((World.heap (wj)).size = g) := ⟨_, Lib.hid rfl⟩
      obtain ⟨v, V, -, xv, bv⟩ := allocS (wj) 0 0 (fun _ => 0) 0 ⟨#[]⟩ ⟨#[]⟩ 0 0 28 gq Gq.out
      have rg := Gq.out
      have rv := V.out
      go_simp
      clear rg rv
      refine hK.out _ _ ?_ (fun hHeld => ?_)
      · exact (hZ).1.trans xv
      clear hK K
      (try simp only [Act.put, List.setIfInBounds_toArray, List.set_cons_zero, List.set_cons_succ])
      have hj := J69ab (g6, 0, 0, g9, g10, gq) v ((hZ).ins (a := [g6, g9, g10]) (b := []) xv Gq.out bv)
      simp only [putAll, Act.put, List.setIfInBounds_toArray, List.set_cons_zero, List.set_cons_succ] at hj
      exact hj
    exact AllReadyL.nil
  intro J69a
  refine join_ (σ := Nat × Nat × Nat × Nat × Nat × Nat) 9 #[true, true, true, true, true, true, true, false, false, true, false, true, false, false, false, false, false, false] (fun s => [(2, .pointer (some ⟨s.1, 0, none⟩)), (5, .pointer (some ⟨s.2.2.2.1, 0, none⟩)), (7, .pointer (some ⟨s.2.2.2.2.2, 0, none⟩))]) (fun s W => Zks z1 W [s.1, s.2.2.2.1, s.2.2.2.2.2]) ?_ ?_
  · rintro ⟨g6, g7, g8, g9, g10, g11⟩ wj hZ
    dsimp only at hZ
    have hHeld : Ext z1 wj := hZ.1
    simp only [putAll, Act.put, List.setIfInBounds_toArray, List.set_cons_zero, List.set_cons_succ]
    refine many_ [7, 8, 10] (by kernel_rfl) (by simp) ?_
    refine armL_ (i := 7) (N := some 3) #[true, true, true, true, true, true, true, true, false, true, false, true, false, false, false, false, false, false] rfl rfl (by kernel_rfl) (by simp) (fun K hK => ?_) ?_
    · obtain ⟨gq, Gq⟩ : ∃ g, Hid ((World.heap (wj)).size = g) := ⟨_, Lib.hid rfl⟩
      obtain ⟨v, V, -, xv, bv⟩ := allocS (wj) 0 0 (fun _ => 0) 0 ⟨#[]⟩ ⟨#[]⟩ 0 0 28 gq Gq.out
      have rg := Gq.out
      have rv := V.out
      go_simp
      clear rg rv
      refine hK.out _ _ ?_ (fun hHeld => ?_)
      · exact (hZ).1.trans xv
      clear hK K
      (try simp only [Act.put, List.setIfInBounds_toArray, List.set_cons_zero, List.set_cons_succ])
      have hj := J679b (g6, gq, 0, g9, 0, g11) v ((hZ).ins (a := [g6]) (b := [g9, g11]) xv Gq.out bv)
      simp only [putAll, Act.put, List.setIfInBounds_toArray, List.set_cons_zero, List.set_cons_succ] at hj
      exact hj
    refine armL_ (i := 8) (N := some 4) #[true, true, true, true, true, true, true, false, true, true, false, true, false, false, false, false, false, false] rfl rfl (by kernel_rfl) (by simp) (fun K hK => ?_) ?_
    · obtain ⟨gq, Gq⟩ : ∃ g, Hid ((World.heap (wj)).size = g) := ⟨_, Lib.hid rfl⟩
      obtain ⟨v, V, -, xv, bv⟩ := allocS (wj) 0 0 (fun _ => 0) 0 ⟨#[]⟩ ⟨#[]⟩ 0 0 28 gq Gq.out
      have rg := Gq.out
      have rv := V.out
      go_simp
      clear rg rv
      refine hK.out _ _ ?_ (fun hHeld => ?_)
      · exact (hZ).1.trans xv
      clear hK K
      (try simp only [Act.put, List.setIfInBounds_toArray, List.set_cons_zero, List.set_cons_succ])
      have hj := J689b (g6, 0, gq, g9, 0, g11) v ((hZ).ins (a := [g6]) (b := [g9, g11]) xv Gq.out bv)
      simp only [putAll, Act.put, List.setIfInBounds_toArray, List.set_cons_zero, List.set_cons_succ] at hj
      exact hj
    refine armL_ (i := 10) (N := some 6) #[true, true, true, true, true, true, true, false, false, true, true, true, false, false, false, false, false, false] rfl rfl (by kernel_rfl) (by simp) (fun K hK => ?_) ?_
    · obtain ⟨gq, Gq⟩ : ∃ g, Hid ((World.heap (wj)).size = g) := ⟨_, Lib.hid rfl⟩
      obtain ⟨v, V, -, xv, bv⟩ := allocS (wj) 0 0 (fun _ => 0) 0 ⟨#[]⟩ ⟨#[]⟩ 0 0 28 gq Gq.out
      have rg := Gq.out
      have rv := V.out
      go_simp
      clear rg rv
      refine hK.out _ _ ?_ (fun hHeld => ?_)
      · exact (hZ).1.trans xv
      clear hK K
      (try simp only [Act.put, List.setIfInBounds_toArray, List.set_cons_zero, List.set_cons_succ])
      have hj := J69ab (g6, 0, 0, g9, gq, g11) v ((hZ).ins (a := [g6, g9]) (b := [g11]) xv Gq.out bv)
      simp only [putAll, Act.put, List.setIfInBounds_toArray, List.set_cons_zero, List.set_cons_succ] at hj
      exact hj
    exact AllReadyL.nil
  intro J69b
  refine join_ (σ := Nat × Nat × Nat × Nat × Nat × Nat) 9 #[true, true, true, true, true, true, true, false, false, false, true, true, false, false, false, false, false, false] (fun s => [(2, .pointer (some ⟨s.1, 0, none⟩)), (6, .pointer (some ⟨s.2.2.2.2.1, 0, none⟩)), (7, .pointer (some ⟨s.2.2.2.2.2, 0, none⟩))]) (fun s W => Zks z1 W [s.1, s.2.2.2.2.1, s.2.2.2.2.2]) ?_ ?_
  · rintro ⟨g6, g7, g8, g9, g10, g11⟩ wj hZ
    dsimp only at hZ
    have hHeld : Ext z1 wj := hZ.1
    simp only [putAll, Act.put, List.setIfInBounds_toArray, List.set_cons_zero, List.set_cons_succ]
    refine many_ [7, 8, 9] (by kernel_rfl) (by simp) ?_
    refine armL_ (i := 7) (N := some 3) #[true, true, true, true, true, true, true, true, false, false, true, true, false, false, false, false, false, false] rfl rfl (by kernel_rfl) (by simp) (fun K hK => ?_) ?_
    · obtain ⟨gq, Gq⟩ : ∃ g, Hid ((World.heap (wj)).size = g) := ⟨_, Lib.hid rfl⟩
      obtain ⟨v, V, -, xv, bv⟩ := allocS (wj) 0 0 (fun _ => 0) 0 ⟨#[]⟩ ⟨#[]⟩ 0 0 28 gq Gq.out
      have rg := Gq.out
      have rv := V.out
      go_simp
      clear rg rv
      refine hK.out _ _ ?_ (fun hHeld => ?_)
      · exact (hZ).1.trans xv
      clear hK K
      (try simp only [Act.put, List.setIfInBounds_toArray, List.set_cons_zero, List.set_cons_succ])
      have hj := J67ab (g6, gq, 0, 0, g10, g11) v ((hZ).ins (a := [g6]) (b := [g10, g11]) xv Gq.out bv)
      simp only [putAll, Act.put, List.setIfInBounds_toArray, List.set_cons_zero, List.set_cons_succ] at hj
      exact hj
    refine armL_ (i := 8) (N := some 4) #[true, true, true, true, true, true, true, false, true, false, true, true, false, false, false, false, false, false] rfl rfl (by kernel_rfl) (by simp) (fun K hK => ?_) ?_
    · obtain ⟨gq, Gq⟩ : ∃ g, Hid ((World.heap (wj)).size = g) := ⟨_, Lib.hid rfl⟩
      obtain ⟨v, V, -, xv, bv⟩ := allocS (wj) 0 0 (fun _ => 0) 0 ⟨#[]⟩ ⟨#[]⟩ 0 0 28 gq Gq.out
      have rg := Gq.out
      have rv := V.out
      go_simp
      clear rg rv
      refine hK.out _ _ ?_ (fun hHeld => ?_)
      · exact (hZ).1.trans xv
      clear hK K
      (try simp only [Act.put, List.setIfInBounds_toArray, List.set_cons_zero, List.set_cons_succ])
      have hj := J68ab (g6, 0, gq, 0, g10, g11) v ((hZ).ins (a := [g6]) (b := [g10, g11]) xv Gq.out bv)
      simp only [putAll, Act.put, List.setIfInBounds_toArray, List.set_cons_zero, List.set_cons_succ] at hj
      exact hj
    refine armL_ (i := 9) (N := some 5) #[true, true, true, true, true, true, true, false, false, true, true, true, false, false, false, false, false, false] rfl rfl (by kernel_rfl) (by simp) (fun K hK => ?_) ?_
    · obtain ⟨gq, Gq⟩ : ∃ g, Hid ((World.heap (wj)).size = g) := ⟨_, Lib.hid rfl⟩
      obtain ⟨v, V, -, xv, bv⟩ := allocS (wj) 0 0 (fun _ => 0) 0 ⟨#[]⟩ ⟨#[]⟩ 0 0 28 gq Gq.out
      have rg := Gq.out
      have rv := V.out
      go_simp
      clear rg rv
      refine hK.out _ _ ?_ (fun hHeld => ?_)
      · exact (hZ).1.trans xv
      clear hK K
      (try simp only [Act.put, List.setIfInBounds_toArray, List.set_cons_zero, List.set_cons_succ])
      have hj := J69ab (g6, 0, 0, gq, g10, g11) v ((hZ).ins (a := [g6]) (b := [g10, g11]) xv Gq.out bv)
      simp only [putAll, Act.put, List.setIfInBounds_toArray, List.set_cons_zero, List.set_cons_succ] at hj
      exact hj
    exact AllReadyL.nil
  intro J6ab
  refine join_ (σ := Nat × Nat × Nat × Nat × Nat × Nat) 9 #[true, true, true, true, true, true, false, true, true, true, false, false, false, false, false, false, false, false] (fun s => [(3, .pointer (some ⟨s.2.1, 0, none⟩)), (4, .pointer (some ⟨s.2.2.1, 0, none⟩)), (5, .pointer (some ⟨s.2.2.2.1, 0, none⟩))]) (fun s W => Zks z1 W [s.2.1, s.2.2.1, s.2.2.2.1]) ?_ ?_
  · rintro ⟨g6, g7, g8, g9, g10, g11⟩ wj hZ
    dsimp only at hZ
    have hHeld : Ext z1 wj := hZ.1
    simp only [putAll, Act.put, List.setIfInBounds_toArray, List.set_cons_zero, List.set_cons_succ]
    refine many_ [6, 10, 11] (by kernel_rfl) (by simp) ?_
    refine armL_ (i := 6) (N := some 2) #[true, true, true, true, true, true, true, true, true, true, false, false, false, false, false, false, false, false] rfl rfl (by kernel_rfl) (by simp) (fun K hK => ?_) ?_
    · obtain ⟨gq, Gq⟩ : ∃ g, Hid ((World.heap (wj)).size = g) := ⟨_, Lib.hid rfl⟩
      obtain ⟨v, V, -, xv, bv⟩ := allocS (wj) 0 0 (fun _ => 0) 0 ⟨#[]⟩ ⟨#[]⟩ 0 0 28 gq Gq.out
      have rg := Gq.out
      have rv := V.out
      go_simp
      clear rg rv
      refine hK.out _ _ ?_ (fun hHeld => ?_)
      · exact (hZ).1.trans xv
      clear hK K
      (try simp only [Act.put, List.setIfInBounds_toArray, List.set_cons_zero, List.set_cons_succ])
      have hj := J6789 (gq, g7, g8, g9, 0, 0) v ((hZ).ins (a := []) (b := [g7, g8, g9]) xv Gq.out bv)
      simp only [putAll, Act.put, List.setIfInBounds_toArray, List.set_cons_zero, List.set_cons_succ] at hj
      exact hj
    refine armL_ (i := 10) (N := some 6) #[true, true, true, true, true, true, false, true, true, true, true, false, false, false, false, false, false, false] rfl rfl (by kernel_rfl) (by simp) (fun K hK => ?_) ?_
    · obtain ⟨gq, Gq⟩ : ∃ g, Hid ((World.heap (wj)).size = g) := ⟨_, Lib.hid rfl⟩
      obtain ⟨v, V, -, xv, bv⟩ := allocS (wj) 0 0 (fun _ => 0) 0 ⟨#[]⟩ ⟨#[]⟩ 0 0 28 gq Gq.out
      have rg := Gq.out
      have rv := V.out
      go_simp
      clear rg rv
      refine hK.out _ _ ?_ (fun hHeld => ?_)
      · exact (hZ).1.trans xv
      clear hK K
      (try simp only [Act.put, List.setIfInBounds_toArray, List.set_cons_zero, List.set_cons_succ])
      have hj := J789a (0, g7, g8, g9, gq, 0) v ((hZ).ins (a := [g7, g8, g9]) (b := []) xv Gq.out bv)
      simp only [putAll, Act.put, List.setIfInBounds_toArray, List.set_cons_zero, List.set_cons_succ] at hj
      exact hj
    refine armL_ (i := 11) (N := some 7) #[true, true, true, true, true, true, false, true, true, true, false, true, false, false, false, false, false, false] rfl rfl (by kernel_rfl) (by simp) (fun K hK => ?_) ?_
    · obtain ⟨gq, Gq⟩ : ∃ g, Hid ((World.heap (wj)).size = g) := ⟨_, Lib.hid rfl⟩
      obtain ⟨v, V, -, xv, bv⟩ := allocS (wj) 0 0 (fun _ => 0) 0 ⟨#[]⟩ ⟨#[]⟩ 0 0 28 gq Gq.out
      have rg := Gq.out
      have rv := V.out
      go_simp
      clear rg rv
      refine hK.out _ _ ?_ (fun hHeld => ?_)
      · exact (hZ).1.trans xv
      clear hK K
      (try simp only [Act.put, List.setIfInBounds_toArray, List.set_cons_zero, List.set_cons_succ])
      have hj := J789b (0, g7, g8, g9, 0, gq) v ((hZ).ins (a := [g7, g8, g9]) (b := []) xv Gq.out bv)
      simp only [putAll, Act.put, List.setIfInBounds_toArray, List.set_cons_zero, List.set_cons_succ] at hj
      exact hj
    exact AllReadyL.nil
  intro J789
  refine join_ (σ := Nat × Nat × Nat × Nat × Nat × Nat) 9 #[true, true, true, true, true, true, false, true, true, false, true, false, false, false, false, false, false, false] (fun s => [(3, .pointer (some ⟨s.2.1, 0, none⟩)), (4, .pointer (some ⟨s.2.2.1, 0, none⟩)), (6, .pointer (some ⟨s.2.2.2.2.1, 0, none⟩))]) (fun s W => Zks z1 W [s.2.1, s.2.2.1, s.2.2.2.2.1]) ?_ ?_
  · rintro ⟨g6, g7, g8, g9, g10, g11⟩ wj hZ
    dsimp only at hZ
    have hHeld : Ext z1 wj := hZ.1
    simp only [putAll, Act.put, List.setIfInBounds_toArray, List.set_cons_zero, List.set_cons_succ]
    refine many_ [6, 9, 11] (by kernel_rfl) (by simp) ?_
    refine armL_ (i := 6) (N := some 2) #[true, true, true, true, true, true, true, true, true, false, true, false, false, false, false, false, false, false] rfl rfl (by kernel_rfl) (by simp) (fun K hK => ?_) ?_
    · obtain ⟨gq, Gq⟩ : ∃ g, Hid ((World.heap (wj)).size = g) := ⟨_, Lib.hid rfl⟩
      obtain ⟨v, V, -, xv, bv⟩ := allocS (wj) 0 0 (fun _ => 0) 0 ⟨#[]⟩ ⟨#[]⟩ 0 0 28 gq Gq.out
      have rg := Gq.out
      have rv := V.out
      go_simp
      clear rg rv
      refine hK.out _ _ ?_ (fun hHeld => ?_)
      · exact (hZ).1.trans xv
      clear hK K
      (try simp only [Act.put, List.setIfInBounds_toArray, List.set_cons_zero, List.set_cons_succ])
      have hj := J678a (gq, g7, g8, 0, g10, 0) v ((hZ).ins (a := []) (b := [g7, g8, g10]) xv Gq.out bv)
      simp only [putAll, Act.put, List.setIfInBounds_toArray, List.set_cons_zero, List.set_cons_succ] at hj
      exact hj
    refine armL_ (i := 9) (N := some 5) #[true, true, true, true, true, true, false, true, true, true, true, false, false, false, false, false, false, false] rfl rfl (by kernel_rfl) (by simp) (fun K hK => ?_) ?_
    · obtain ⟨gq, Gq⟩ : ∃ g, Hid ((World.heap (wj)).size = g) := ⟨_, Lib.hid rfl⟩
      obtain ⟨v, V, -, xv, bv⟩ := allocS (wj) 0 0 (fun _ => 0) 0 ⟨#[]⟩ ⟨#[]⟩ 0 0 28 gq Gq.out
      have rg := Gq.out
      have rv := V.out
      go_simp
      clear rg rv
      refine hK.out _ _ ?_ (fun hHeld => ?_)
      · exact (hZ).1.trans xv
      clear hK K
      (try simp only [Act.put, List.setIfInBounds_toArray, List.set_cons_zero, List.set_cons_succ])
      have hj := J789a (0, g7, g8, gq, g10, 0) v ((hZ).ins (a := [g7, g8]) (b := [g10]) xv Gq.out bv)
      simp only [putAll, Act.put, List.setIfInBounds_toArray, List.set_cons_zero, List.set_cons_succ] at hj
      exact hj
    refine armL_ (i := 11) (N := some 7) #[true, true, true, true, true, true, false, true, true, false, true, true, false, false, false, false, false, false] rfl rfl (by kernel_rfl) (by simp) (fun K hK => ?_) ?_
    · obtain ⟨gq, Gq⟩ : ∃ g, Hid ((World.heap (wj)).size = g) := ⟨_, Lib.hid rfl⟩
      obtain ⟨v, V, -, xv, bv⟩ := allocS (wj) 0 0 (fun _ => 0) 0 ⟨#[]⟩ ⟨#[]⟩ 0 0 28 gq Gq.out
      have rg := Gq.out
      have rv := V.out
      go_simp
      clear rg rv
      refine hK.out _ _ ?_ (fun hHeld => ?_)
      · exact (hZ).1.trans xv
      clear hK K
      (try simp only [Act.put, List.setIfInBounds_toArray, List.set_cons_zero, List.set_cons_succ])
      have hj := J78ab (0, g7, g8, 0, g10, gq) v ((hZ).ins (a := [g7, g8, g10]) (b := []) xv Gq.out bv)
      simp only [putAll, Act.put, List.setIfInBounds_toArray, List.set_cons_zero, List.set_cons_succ] at hj
      exact hj
    exact AllReadyL.nil
  intro J78a
  refine join_ (σ := Nat × Nat × Nat × Nat × Nat × Nat) 9 #[true, true, true, true, true, true, false, true, true, false, false, true, false, false, false, false, false, false] (fun s => [(3, .pointer (some ⟨s.2.1, 0, none⟩)), (4, .pointer (some ⟨s.2.2.1, 0, none⟩)), (7, .pointer (some ⟨s.2.2.2.2.2, 0, none⟩))]) (fun s W => Zks z1 W [s.2.1, s.2.2.1, s.2.2.2.2.2]) ?_ ?_
  · rintro ⟨g6, g7, g8, g9, g10, g11⟩ wj hZ
    dsimp only at hZ
    have hHeld : Ext z1 wj := hZ.1
    simp only [putAll, Act.put, List.setIfInBounds_toArray, List.set_cons_zero, List.set_cons_succ]
    refine many_ [6, 9, 10] (by kernel_rfl) (by simp) ?_
    refine armL_ (i := 6) (N := some 2) #[true, true, true, true, true, true, true, true, true, false, false, true, false, false, false, false, false, false] rfl rfl (by kernel_rfl) (by simp) (fun K hK => ?_) ?_
    · obtain ⟨gq, Gq⟩ : ∃ g, Hid ((World.heap (wj)).size = g) := ⟨_, Lib.hid rfl⟩
      obtain ⟨v, V, -, xv, bv⟩ := allocS (wj) 0 0 (fun _ => 0) 0 ⟨#[]⟩ ⟨#[]⟩ 0 0 28 gq Gq.out
      have rg := Gq.out
      have rv := V.out
      go_simp
      clear rg rv
      refine hK.out _ _ ?_ (fun hHeld => ?_)
      · exact (hZ).1.trans xv
      clear hK K
      (try simp only [Act.put, List.setIfInBounds_toArray, List.set_cons_zero, List.set_cons_succ])
      have hj := J678b (gq, g7, g8, 0, 0, g11) v ((hZ).ins (a := []) (b := [g7, g8, g11]) xv Gq.out bv)
      simp only [putAll, Act.put, List.setIfInBounds_toArray, List.set_cons_zero, List.set_cons_succ] at hj
      exact hj
    refine armL_ (i := 9) (N := some 5) #[true, true, true, true, true, true, false, true, true, true, false, true, false, false, false, false, false, false] rfl rfl (by kernel_rfl) (by simp) (fun K hK => ?_) ?_
    · obtain ⟨gq, Gq⟩ : ∃ g, Hid ((World.heap (wj)).size = g) := ⟨_, Lib.hid rfl⟩
      obtain ⟨v, V, -, xv, bv⟩ := allocS (wj) 0 0 (fun _ => 0) 0 ⟨#[]⟩ ⟨#[]⟩ 0 0 28 gq Gq.out
      have rg := Gq.out
      have rv := V.out
      go_simp
      clear rg rv
      refine hK.out _ _ ?_ (fun hHeld => ?_)
      · exact (hZ).1.trans xv
      clear hK K
      (try simp only [Act.put, List.setIfInBounds_toArray, List.set_cons_zero, List.set_cons_succ])
      have hj := J789b (0, g7, g8, gq, 0, g11) v ((hZ).ins (a := [g7, g8]) (b := [g11]) xv Gq.out bv)
      simp only [putAll, Act.put, List.setIfInBounds_toArray, List.set_cons_zero, List.set_cons_succ] at hj
      exact hj
    refine armL_ (i := 10) (N := some 6) #[true, true, true, true, true, true, false, true, true, false, true, true, false, false, false, false, false, false] rfl rfl (by kernel_rfl) (by simp) (fun K hK => ?_) ?_
    · obtain ⟨gq, Gq⟩ : ∃ g, Hid ((World.heap (wj)).size = g) := ⟨_, Lib.hid rfl⟩
      obtain ⟨v, V, -, xv, bv⟩ := allocS (wj) 0 0 (fun _ => 0) 0 ⟨#[]⟩ ⟨#[]⟩ 0 0 28 gq Gq.out
      have rg := Gq.out
      have rv := V.out
      go_simp
      clear rg rv
      refine hK.out _ _ ?_ (fun hHeld => ?_)
      · exact (hZ).1.trans xv
      clear hK K
      (try simp only [Act.put, List.setIfInBounds_toArray, List.set_cons_zero, List.set_cons_succ])
      have hj := J78ab (0, g7, g8, 0, gq, g11) v ((hZ).ins (a := [g7, g8]) (b := [g11]) xv Gq.out bv)
      simp only [putAll, Act.put, List.setIfInBounds_toArray, List.set_cons_zero, List.set_cons_succ] at hj
      exact hj
    exact AllReadyL.nil
  intro J78b
  refine join_ (σ := Nat × Nat × Nat × Nat × Nat × Nat) 9 #[true, true, true, true, true, true, false, true, false, true, true, false, false, false, false, false, false, false] (fun s => [(3, .pointer (some ⟨s.2.1, 0, none⟩)), (5, .pointer (some ⟨s.2.2.2.1, 0, none⟩)), (6, .pointer (some ⟨s.2.2.2.2.1, 0, none⟩))]) (fun s W => Zks z1 W [s.2.1, s.2.2.2.1, s.2.2.2.2.1]) ?_ ?_
  · rintro ⟨g6, g7, g8, g9, g10, g11⟩ wj hZ
    dsimp only at hZ
    have hHeld : Ext z1 wj := hZ.1
    simp only [putAll, Act.put, List.setIfInBounds_toArray, List.set_cons_zero, List.set_cons_succ]
    refine many_ [6, 8, 11] (by kernel_rfl) (by simp) ?_
    refine armL_ (i := 6) (N := some 2) #[true, true, true, true, true, true, true, true, false, true, true, false, false, false, false, false, false, false] rfl rfl (by kernel_rfl) (by simp) (fun K hK => ?_) ?_
    · obtain ⟨gq, Gq⟩ : ∃ g, Hid ((World.heap (wj)).size = g) := ⟨_, Lib.hid rfl⟩
      obtain ⟨v, V, -, xv, bv⟩ := allocS (wj) 0 0 (fun _ => 0) 0 ⟨#[]⟩ ⟨#[]⟩ 0 0 28 gq Gq.out
      have rg := Gq.out
      have rv := V.out
      go_simp
      clear rg rv
      refine hK.out _ _ ?_ (fun hHeld => ?_)
      · exact (hZ).1.trans xv
      clear hK K
      (try simp only [Act.put, List.setIfInBounds_toArray, List.set_cons_zero, List.set_cons_succ])
      have hj := J679a (gq, g7, 0, g9, g10, 0) v ((hZ).ins (a := []) (b := [g7, g9, g10]) xv Gq.out bv)
      simp only [putAll, Act.put, List.setIfInBounds_toArray, List.set_cons_zero, List.set_cons_succ] at hj
      exact hj
    refine armL_ (i := 8) (N := some 4) #[true, true, true, true, true, true, false, true, true, true, true, false, false, false, false, false, false, false] rfl rfl (by kernel_rfl) (by simp) (fun K hK => ?_) ?_
    · obtain ⟨gq, Gq⟩ : ∃ g, Hid ((World.heap (wj)).size = g) := ⟨_, Lib.hid rfl⟩
      obtain ⟨v, V, -, xv, bv⟩ := allocS (wj) 0 0 (fun _ => 0) 0 ⟨#[]⟩ ⟨#[]⟩ 0 0 28 gq Gq.out
      have rg := Gq.out
      have rv := V.out
      go_simp
      clear rg rv
      refine hK.out _ _ ?_ (fun hHeld => ?_)
      · exact (hZ).1.trans xv
      clear hK K
      (try simp only [Act.put, List.setIfInBounds_toArray, List.set_cons_zero, List.set_cons_succ])
      have hj := J789a (0, g7, gq, g9, g10, 0) v ((hZ).ins (a := [g7]) (b := [g9, g10]) xv Gq.out bv)
      simp only [putAll, Act.put, List.setIfInBounds_toArray, List.set_cons_zero, List.set_cons_succ] at hj
      exact hj
    refine armL_ (i := 11) (N := some 7) #[true, true, true, true, true, true, false, true, false, true, true, true, false, false, false, false, false, false] rfl rfl (by kernel_rfl) (by simp) (fun K hK => ?_) ?_
    · obtain ⟨gq, Gq⟩ : ∃ g, Hid ((World.heap (wj)).size = g) := ⟨_, Lib.hid rfl⟩
      obtain ⟨v, V, -, xv, bv⟩ := allocS (wj) 0 0 (fun _ => 0) 0 ⟨#[]⟩ ⟨#[]⟩ 0 0 28 gq Gq.out
      have rg := Gq.out
      have rv := V.out
      go_simp
      clear rg rv
      refine hK.out _ _ ?_ (fun hHeld => ?_)
      · exact (hZ).1.trans xv
      clear hK K
      (try simp only [Act.put, List.setIfInBounds_toArray, List.set_cons_zero, List.set_cons_succ])
      have hj := J79ab (0, g7, 0, g9, g10, gq) v ((hZ).ins (a := [g7, g9, g10]) (b := []) xv Gq.out bv)
      simp only [putAll, Act.put, List.setIfInBounds_toArray, List.set_cons_zero, List.set_cons_succ] at hj
      exact hj
    exact AllReadyL.nil
  intro J79a
  refine join_ (σ := Nat × Nat × Nat × Nat × Nat × Nat) 9 #[true, true, true, true, true, true, false, true, false, true, false, true, false, false, false, false, false, false] (fun s => [(3, .pointer (some ⟨s.2.1, 0, none⟩)), (5, .pointer (some ⟨s.2.2.2.1, 0, none⟩)), (7, .pointer (some ⟨s.2.2.2.2.2, 0, none⟩))]) (fun s W => Zks z1 W [s.2.1, s.2.2.2.1, s.2.2.2.2.2]) ?_ ?_
  · rintro ⟨g6, g7, g8, g9, g10, g11⟩ wj hZ
    dsimp only at hZ
    have hHeld : Ext z1 wj := hZ.1
    simp only [putAll, Act.put, List.setIfInBounds_toArray, List.set_cons_zero, List.set_cons_succ]
    refine many_ [6, 8, 10] (by kernel_rfl) (by simp) ?_
    refine armL_ (i := 6) (N := some 2) #[true, true, true, true, true, true, true, true, false, true, false, true, false, false, false, false, false, false] rfl rfl (by kernel_rfl) (by simp) (fun K hK => ?_) ?_
    · obtain ⟨gq, Gq⟩ : ∃ g, Hid ((World.heap (wj)).size = g) := ⟨_, Lib.hid rfl⟩
      obtain ⟨v, V, -, xv, bv⟩ := allocS (wj) 0 0 (fun _ => 0) 0 ⟨#[]⟩ ⟨#[]⟩ 0 0 28 gq Gq.out
      have rg := Gq.out
      have rv := V.out
      go_simp
      clear rg rv
      refine hK.out _ _ ?_ (fun hHeld => ?_)
      · exact (hZ).1.trans xv
      clear hK K
      (try simp only [Act.put, List.setIfInBounds_toArray, List.set_cons_zero, List.set_cons_succ])
      have hj := J679b (gq, g7, 0, g9, 0, g11) v ((hZ).ins (a := []) (b := [g7, g9, g11]) xv Gq.out bv)
      simp only [putAll, Act.put, List.setIfInBounds_toArray, List.set_cons_zero, List.set_cons_succ] at hj
      exact hj
    refine armL_ (i := 8) (N := some 4) #[true, true, true, true, true, true, false, true, true, true, false, true, false, false, false, false, false, false] rfl rfl (by kernel_rfl) (by simp) (fun K hK => ?_) ?_
    · obtain ⟨gq, Gq⟩ : ∃ g, Hid ((World.heap (wj)).size = g) := ⟨_, Lib.hid rfl⟩
      obtain ⟨v, V, -, xv, bv⟩ := allocS (wj) 0 0 (fun _ => 0) 0 ⟨#[]⟩ ⟨#[]⟩ 0 0 28 gq Gq.out
      have rg := Gq.out
      have rv := V.out
      go_simp
      clear rg rv
      refine hK.out _ _ ?_ (fun hHeld => ?_)
      · exact (hZ).1.trans xv
      clear hK K
      (try simp only [Act.put, List.setIfInBounds_toArray, List.set_cons_zero, List.set_cons_succ])
      have hj := J789b (0, g7, gq, g9, 0, g11) v ((hZ).ins (a := [g7]) (b := [g9, g11]) xv Gq.out bv)
      simp only [putAll, Act.put, List.setIfInBounds_toArray, List.set_cons_zero, List.set_cons_succ] at hj
      exact hj
    refine armL_ (i := 10) (N := some 6) #[true, true, true, true, true, true, false, true, false, true, true, true, false, false, false, false, false, false] rfl rfl (by kernel_rfl) (by simp) (fun K hK => ?_) ?_
    · obtain ⟨gq, Gq⟩ : ∃ g, Hid ((World.heap (wj)).size = g) := ⟨_, Lib.hid rfl⟩
      obtain ⟨v, V, -, xv, bv⟩ := allocS (wj) 0 0 (fun _ => 0) 0 ⟨#[]⟩ ⟨#[]⟩ 0 0 28 gq Gq.out
      have rg := Gq.out
      have rv := V.out
      go_simp
      clear rg rv
      refine hK.out _ _ ?_ (fun hHeld => ?_)
      · exact (hZ).1.trans xv
      clear hK K
      (try simp only [Act.put, List.setIfInBounds_toArray, List.set_cons_zero, List.set_cons_succ])
      have hj := J79ab (0, g7, 0, g9, gq, g11) v ((hZ).ins (a := [g7, g9]) (b := [g11]) xv Gq.out bv)
      simp only [putAll, Act.put, List.setIfInBounds_toArray, List.set_cons_zero, List.set_cons_succ] at hj
      exact hj
    exact AllReadyL.nil
  intro J79b
  refine join_ (σ := Nat × Nat × Nat × Nat × Nat × Nat) 9 #[true, true, true, true, true, true, false, true, false, false, true, true, false, false, false, false, false, false] (fun s => [(3, .pointer (some ⟨s.2.1, 0, none⟩)), (6, .pointer (some ⟨s.2.2.2.2.1, 0, none⟩)), (7, .pointer (some ⟨s.2.2.2.2.2, 0, none⟩))]) (fun s W => Zks z1 W [s.2.1, s.2.2.2.2.1, s.2.2.2.2.2]) ?_ ?_
  · rintro ⟨g6, g7, g8, g9, g10, g11⟩ wj hZ
    dsimp only at hZ
    have hHeld : Ext z1 wj := hZ.1
    simp only [putAll, Act.put, List.setIfInBounds_toArray, List.set_cons_zero, List.set_cons_succ]
    refine many_ [6, 8, 9] (by kernel_rfl) (by simp) ?_
    refine armL_ (i := 6) (N := some 2) #[true, true, true, true, true, true, true, true, false, false, true, true, false, false, false, false, false, false] rfl rfl (by kernel_rfl) (by simp) (fun K hK => ?_) ?_
    · obtain ⟨gq, Gq⟩ : ∃ g, Hid ((World.heap (wj)).size = g) := ⟨_, Lib.hid rfl⟩
      obtain ⟨v, V, -, xv, bv⟩ := allocS (wj) 0 0 (fun _ => 0) 0 ⟨#[]⟩ ⟨#[]⟩ 0 0 28 gq Gq.out
      have rg := Gq.out
      have rv := V.out
      go_simp
      clear rg rv
      refine hK.out _ _ ?_ (fun hHeld => ?_)
      · exact (hZ).1.trans xv
      clear hK K
      (try simp only [Act.put, List.setIfInBounds_toArray, List.set_cons_zero, List.set_cons_succ])
      have hj := J67ab (gq, g7, 0, 0, g10, g11) v ((hZ).ins (a := []) (b := [g7, g10, g11]) xv Gq.out bv)
      simp only [putAll, Act.put, List.setIfInBounds_toArray, List.set_cons_zero, List.set_cons_succ] at hj
      exact hj
    refine armL_ (i := 8) (N := some 4) #[true, true, true, true, true, true, false, true, true, false, true, true, false, false, false, false, false, false] rfl rfl (by kernel_rfl) (by simp) (fun K hK => ?_) ?_
    · obtain ⟨gq, Gq⟩ : ∃ g, Hid ((World.heap (wj)).size = g) := ⟨_, Lib.hid rfl⟩
      obtain ⟨v, V, -, xv, bv⟩ := allocS (wj) 0 0 (fun _ => 0) 0 ⟨#[]⟩ ⟨#[]⟩ 0 0 28 gq Gq.out
      have rg := Gq.out
      have rv := V.out
      go_simp
      clear rg rv
      refine hK.out _ _ ?_ (fun hHeld => ?_)
      · exact (hZ).1.trans xv
      clear hK K
      (try simp only [Act.put, List.setIfInBounds_toArray, List.set_cons_zero, List.set_cons_succ])
      have hj := J78ab (0, g7, gq, 0, g10, g11) v ((hZ).ins (a := [g7]) (b := [g10, g11]) xv Gq.out bv)
      simp only [putAll, Act.put, List.setIfInBounds_toArray, List.set_cons_zero, List.set_cons_succ] at hj
      exact hj
    refine armL_ (i := 9) (N := some 5) #[true, true, true, true, true, true, false, true, false, true, true, true, false, false, false, false, false, false] rfl rfl (by kernel_rfl) (by simp) (fun K hK => ?_) ?_
    · obtain ⟨gq, Gq⟩ : ∃ g, Hid ((World.heap (wj)).size = g) := ⟨_, Lib.hid rfl⟩
      obtain ⟨v, V, -, xv, bv⟩ := allocS (wj) 0 0 (fun _ => 0) 0 ⟨#[]⟩ ⟨#[]⟩ 0 0 28 gq Gq.out
      have rg := Gq.out
      have rv := V.out
      go_simp
      clear rg rv
      refine hK.out _ _ ?_ (fun hHeld => ?_)
      · exact (hZ).1.trans xv
      clear hK K
      (try simp only [Act.put, List.setIfInBounds_toArray, List.set_cons_zero, List.set_cons_succ])
      have hj := J79ab (0, g7, 0, gq, g10, g11) v ((hZ).ins (a := [g7]) (b := [g10, g11]) xv Gq.out bv)
      simp only [putAll, Act.put, List.setIfInBounds_toArray, List.set_cons_zero, List.set_cons_succ] at hj
      exact hj
    exact AllReadyL.nil
  intro J7ab
  refine join_ (σ := Nat × Nat × Nat × Nat × Nat × Nat) 9 #[true, true, true, true, true, true, false, false, true, true, true, false, false, false, false, false, false, false] (fun s => [(4, .pointer (some ⟨s.2.2.1, 0, none⟩)), (5, .pointer (some ⟨s.2.2.2.1, 0, none⟩)), (6, .pointer (some ⟨s.2.2.2.2.1, 0, none⟩))]) (fun s W => Zks z1 W [s.2.2.1, s.2.2.2.1, s.2.2.2.2.1]) ?_ ?_
  · rintro ⟨g6, g7, g8, g9, g10, g11⟩ wj hZ
    dsimp only at hZ
    have hHeld : Ext z1 wj := hZ.1
    simp only [putAll, Act.put, List.setIfInBounds_toArray, List.set_cons_zero, List.set_cons_succ]
    refine many_ [6, 7, 11] (by kernel_rfl) (by simp) ?_
    refine armL_ (i := 6) (N := some 2) #[true, true, true, true, true, true, true, false, true, true, true, false, false, false, false, false, false, false] rfl rfl (by kernel_rfl) (by simp) (fun K hK => ?_) ?_
    · obtain ⟨gq, Gq⟩ : ∃ g, Hid ((World.heap (wj)).size = g) := ⟨_, Lib.hid rfl⟩
      obtain ⟨v, V, -, xv, bv⟩ := allocS (wj) 0 0 (fun _ => 0) 0 ⟨#[]⟩ ⟨#[]⟩ 0 0 28 gq Gq.out
      have rg := Gq.out
      have rv := V.out
      go_simp
      clear rg rv
      refine hK.out _ _ ?_ (fun hHeld => ?_)
      · exact (hZ).1.trans xv
      clear hK K
      (try simp only [Act.put, List.setIfInBounds_toArray, List.set_cons_zero, List.set_cons_succ])
      have hj := J689a (gq, 0, g8, g9, g10, 0) v ((hZ).ins (a := []) (b := [g8, g9, g10]) xv Gq.out bv)
      simp only [putAll, Act.put, List.setIfInBounds_toArray, List.set_cons_zero, List.set_cons_succ] at hj
      exact hj
    refine armL_ (i := 7) (N := some 3) #[true, true, true, true, true, true, false, true, true, true, true, false, false, false, false, false, false, false] rfl rfl (by kernel_rfl) (by simp) (fun K hK => ?_) ?_
    · obtain ⟨gq, Gq⟩ : ∃ g, Hid ((World.heap (wj)).size = g) := ⟨_, Lib.hid rfl⟩
      obtain ⟨v, V, -, xv, bv⟩ := allocS (wj) 0 0 (fun _ => 0) 0 ⟨#[]⟩ ⟨#[]⟩ 0 0 28 gq Gq.out
      have rg := Gq.out
      have rv := V.out
      go_simp
      clear rg rv
      refine hK.out _ _ ?_ (fun hHeld => ?_)
      · exact (hZ).1.trans xv
      clear hK K
      (try simp only [Act.put, List.setIfInBounds_toArray, List.set_cons_zero, List.set_cons_succ])
      have hj := J789a (0, gq, g8, g9, g10, 0) v ((hZ).ins (a := []) (b := [g8, g9, g10]) xv Gq.out bv)
      simp only [putAll, Act.put, List.setIfInBounds_toArray, List.set_cons_zero, List.set_cons_succ] at hj
      exact hj
    refine armL_ (i := 11) (N := some 7) #[true, true, true, true, true, true, false, false, true, true, true, true, false, false, false, false, false, false] rfl rfl (by kernel_rfl) (by simp) (fun K hK => ?_) ?_
    · obtain ⟨gq, Gq⟩ : ∃ g, Hid ((World.heap (wj)).size = g) := ⟨_, Lib.hid rfl⟩
      obtain ⟨v, V, -, xv, bv⟩ := allocS (wj) 0 0 (fun _ => 0) 0 ⟨#[]⟩ ⟨#[]⟩ 0 0 28 gq Gq.out
      have rg := Gq.out
      have rv := V.out
      go_simp
      clear rg rv
      refine hK.out _ _ ?_ (fun hHeld => ?_)
      · exact (hZ).1.trans xv
      clear hK K
      (try simp only [Act.put, List.setIfInBounds_toArray, List.set_cons_zero, List.set_cons_succ])
      have hj := J89ab (0, 0, g8, g9, g10, gq) v ((hZ).ins (a := [g8, g9, g10]) (b := []) xv Gq.out bv)
      simp only [putAll, Act.put, List.setIfInBounds_toArray, List.set_cons_zero, List.set_cons_succ] at hj
      exact hj
    exact AllReadyL.nil
  intro J89a
  refine join_ (σ := Nat × Nat × Nat × Nat × Nat × Nat) 9 #[true, true, true, true, true, true, false, false, true, true, false, true, false, false, false, false, false, false] (fun s => [(4, .pointer (some ⟨s.2.2.1, 0, none⟩)), (5, .pointer (some ⟨s.2.2.2.1, 0, none⟩)), (7, .pointer (some ⟨s.2.2.2.2.2, 0, none⟩))]) (fun s W => Zks z1 W [s.2.2.1, s.2.2.2.1, s.2.2.2.2.2]) ?_ ?_
  · rintro ⟨g6, g7, g8, g9, g10, g11⟩ wj hZ
    dsimp only at hZ
    have hHeld : Ext z1 wj := hZ.1
    simp only [putAll, Act.put, List.setIfInBounds_toArray, List.set_cons_zero, List.set_cons_succ]
    refine many_ [6, 7, 10] (by kernel_rfl) (by simp) ?_
    refine armL_ (i := 6) (N := some 2) #[true, true, true, true, true, true, true, false, true, true, false, true, false, false, false, false, false, false] rfl rfl (by kernel_rfl) (by simp) (fun K hK => ?_) ?_
    · obtain ⟨gq, Gq⟩ : ∃ g, Hid ((World.heap (wj)).size = g) := ⟨_, Lib.hid rfl⟩
      obtain ⟨v, V, -, xv, bv⟩ := allocS (wj) 0 0 (fun _ => 0) 0 ⟨#[]⟩ ⟨#[]⟩ 0 0 28 gq Gq.out
      have rg := Gq.out
      have rv := V.out
      go_simp
      clear rg rv
      refine hK.out _ _ ?_ (fun hHeld => ?_)
      · exact (hZ).1.trans xv
      clear hK K
      (try simp only [Act.put, List.setIfInBounds_toArray, List.set_cons_zero, List.set_cons_succ])
      have hj := J689b (gq, 0, g8, g9, 0, g11) v ((hZ).ins (a := []) (b := [g8, g9, g11]) xv Gq.out bv)
      simp only [putAll, Act.put, List.setIfInBounds_toArray, List.set_cons_zero, List.set_cons_succ] at hj
      exact hj
    refine armL_ (i := 7) (N := some 3) #[true, true, true, true, true, true, false, true, true, true, false, true, false, false, false, false, false, false] rfl rfl (by kernel_rfl) (by simp) (fun K hK => ?_) ?_
    · obtain ⟨gq, Gq⟩ : ∃ g, Hid ((World.heap (wj)).size = g) := ⟨_, Lib.hid rfl⟩
      obtain ⟨v, V, -, xv, bv⟩ := allocS (wj) 0 0 (fun _ => 0) 0 ⟨#[]⟩ ⟨#[]⟩ 0 0 28 gq Gq.out
      have rg := Gq.out
      have rv := V.out
      go_simp
      clear rg rv
      refine hK.out _ _ ?_ (fun hHeld => ?_)
      · exact (hZ).1.trans xv
      clear hK K
      (try simp only [Act.put, List.setIfInBounds_toArray, List.set_cons_zero, List.set_cons_succ])
      have hj := J789b (0, gq, g8, g9, 0, g11) v ((hZ).ins (a := []) (b := [g8, g9, g11]) xv Gq.out bv)
      simp only [putAll, Act.put, List.setIfInBounds_toArray, List.set_cons_zero, List.set_cons_succ] at hj
      exact hj
    refine armL_ (i := 10) (N := some 6) #[true, true, true, true, true, true, false, false, true, true, true, true, false, false, false, false, false, false] rfl rfl (by kernel_rfl) (by simp) (fun K hK => ?_) ?_
    · obtain ⟨gq, Gq⟩ : ∃ g, Hid ((World.heap (wj)).size = g) := ⟨_, Lib.hid rfl⟩
      obtain ⟨v, V, -, xv, bv⟩ := allocS (wj) 0 0 (fun _ => 0) 0 ⟨#[]⟩ ⟨#[]⟩ 0 0 28 gq Gq.out
      have rg := Gq.out
      have rv := V.out
      go_simp
      clear rg rv
      refine hK.out _ _ ?_ (fun hHeld => ?_)
      · exact (hZ).1.trans xv
      clear hK K
      (try simp only [Act.put, List.setIfInBounds_toArray, List.set_cons_zero, List.set_cons_succ])
      have hj := J89ab (0, 0, g8, g9, gq, g11) v ((hZ).ins (a := [g8, g9]) (b := [g11]) xv Gq.out bv)
      simp only [putAll, Act.put, List.setIfInBounds_toArray, List.set_cons_zero, List.set_cons_succ] at hj
      exact hj
    exact AllReadyL.nil
  intro J89b
  refine join_ (σ := Nat × Nat × Nat × Nat × Nat × Nat) 9 #[true, true, true, true, true, true, false, false, true, false, true, true, false, false, false, false, false, false] (fun s => [(4, .pointer (some ⟨s.2.2.1, 0, none⟩)), (6, .pointer (some ⟨s.2.2.2.2.1, 0, none⟩)), (7, .pointer (some ⟨s.2.2.2.2.2, 0, none⟩))]) (fun s W => Zks z1 W [s.2.2.1, s.2.2.2.2.1, s.2.2.2.2.2]) ?_ ?_
  · rintro ⟨g6, g7, g8, g9, g10, g11⟩ wj hZ
    dsimp only at hZ
    have hHeld : Ext z1 wj := hZ.1
    simp only [putAll, Act.put, List.setIfInBounds_toArray, List.set_cons_zero, List.set_cons_succ]
    refine many_ [6, 7, 9] (by kernel_rfl) (by simp) ?_
    refine armL_ (i := 6) (N := some 2) #[true, true, true, true, true, true, true, false, true, false, true, true, false, false, false, false, false, false] rfl rfl (by kernel_rfl) (by simp) (fun K hK => ?_) ?_
    · obtain ⟨gq, Gq⟩ : ∃ g, Hid ((World.heap (wj)).size = g) := ⟨_, Lib.hid rfl⟩
      obtain ⟨v, V, -, xv, bv⟩ := allocS (wj) 0 0 (fun _ => 0) 0 ⟨#[]⟩ ⟨#[]⟩ 0 0 28 gq Gq.out
      have rg := Gq.out
      have rv := V.out
      go_simp
      clear rg rv
      refine hK.out _ _ ?_ (fun hHeld => ?_)
      · exact (hZ).1.trans xv
      clear hK K
      (try simp only [Act.put, List.setIfInBounds_toArray, List.set_cons_zero, List.set_cons_succ])
      have hj := J68ab (gq, 0, g8, 0, g10, g11) v ((hZ).ins (a := []) (b := [g8, g10, g11]) xv Gq.out bv)
      simp only [putAll, Act.put, List.setIfInBounds_toArray, List.set_cons_zero, List.set_cons_succ] at hj
      exact hj
    refine armL_ (i := 7) (N := some 3) #[true, true, true, true, true, true, false, true, true, false, true, true, false, false, false, false, false, false] rfl rfl (by kernel_rfl) (by simp) (fun K hK => ?_) ?_
    · obtain ⟨gq, Gq⟩ : ∃ g, Hid ((World.heap (wj)).size = g) := ⟨_, Lib.hid rfl⟩
      obtain ⟨v, V, -, xv, bv⟩ := allocS (wj) 0 0 (fun _ => 0) 0 ⟨#[]⟩ ⟨#[]⟩ 0 0 28 gq Gq.out
      have rg := Gq.out
      have rv := V.out
      go_simp
      clear rg rv
      refine hK.out _ _ ?_ (fun hHeld => ?_)
      · exact (hZ).1.trans xv
      clear hK K
      (try simp only [Act.put, List.setIfInBounds_toArray, List.set_cons_zero, List.set_cons_succ])
      have hj := J78ab (0, gq, g8, 0, g10, g11) v ((hZ).ins (a := []) (b := [g8, g10, g11]) xv Gq.out bv)
      simp only [putAll, Act.put, List.setIfInBounds_toArray, List.set_cons_zero, List.set_cons_succ] at hj
      exact hj
    refine armL_ (i := 9) (N := some 5) #[true, true, true, true, true, true, false, false, true, true, true, true, false, false, false, false, false, false] rfl rfl (by kernel_rfl) (by simp) (fun K hK => ?_) ?_
    · obtain ⟨gq, Gq⟩ : ∃ g, Hid ((World.heap (wj)).size = g) := ⟨_, Lib.hid rfl⟩
      obtain ⟨v, V, -, xv, bv⟩ := allocS (wj) 0 0 (fun _ => 0) 0 ⟨#[]⟩ ⟨#[]⟩ 0 0 28 gq Gq.out
      have rg := Gq.out
      have rv := V.out
      go_simp
      clear rg rv
      refine hK.out _ _ ?_ (fun hHeld => ?_)
      · exact (hZ).1.trans xv
      clear hK K
      (try simp only [Act.put, List.setIfInBounds_toArray, List.set_cons_zero, List.set_cons_succ])
      have hj := J89ab (0, 0, g8, gq, g10, g11) v ((hZ).ins (a := [g8]) (b := [g10, g11]) xv Gq.out bv)
      simp only [putAll, Act.put, List.setIfInBounds_toArray, List.set_cons_zero, List.set_cons_succ] at hj
      exact hj
    exact AllReadyL.nil
  intro J8ab
  refine join_ (σ := Nat × Nat × Nat × Nat × Nat × Nat) 9 #[true, true, true, true, true, true, false, false, false, true, true, true, false, false, false, false, false, false] (fun s => [(5, .pointer (some ⟨s.2.2.2.1, 0, none⟩)), (6, .pointer (some ⟨s.2.2.2.2.1, 0, none⟩)), (7, .pointer (some ⟨s.2.2.2.2.2, 0, none⟩))]) (fun s W => Zks z1 W [s.2.2.2.1, s.2.2.2.2.1, s.2.2.2.2.2]) ?_ ?_
  · rintro ⟨g6, g7, g8, g9, g10, g11⟩ wj hZ
    dsimp only at hZ
    have hHeld : Ext z1 wj := hZ.1
    simp only [putAll, Act.put, List.setIfInBounds_toArray, List.set_cons_zero, List.set_cons_succ]
    refine many_ [6, 7, 8] (by kernel_rfl) (by simp) ?_
    refine armL_ (i := 6) (N := some 2) #[true, true, true, true, true, true, true, false, false, true, true, true, false, false, false, false, false, false] rfl rfl (by kernel_rfl) (by simp) (fun K hK => ?_) ?_
    · obtain ⟨gq, Gq⟩ : ∃ g, Hid ((World.heap (wj)).size = g) := ⟨_, Lib.hid rfl⟩
      obtain ⟨v, V, -, xv, bv⟩ := allocS (wj) 0 0 (fun _ => 0) 0 ⟨#[]⟩ ⟨#[]⟩ 0 0 28 gq Gq.out
      have rg := Gq.out
      have rv := V.out
      go_simp
      clear rg rv
      refine hK.out _ _ ?_ (fun hHeld => ?_)
      · exact (hZ).1.trans xv
      clear hK K
      (try simp only [Act.put, List.setIfInBounds_toArray, List.set_cons_zero, List.set_cons_succ])
      have hj := J69ab (gq, 0, 0, g9, g10, g11) v ((hZ).ins (a := []) (b := [g9, g10, g11]) xv Gq.out bv)
      simp only [putAll, Act.put, List.setIfInBounds_toArray, List.set_cons_zero, List.set_cons_succ] at hj
      exact hj
    refine armL_ (i := 7) (N := some 3) #[true, true, true, true, true, true, false, true, false, true, true, true, false, false, false, false, false, false] rfl rfl (by kernel_rfl) (by simp) (fun K hK => ?_) ?_
    · obtain ⟨gq, Gq⟩ : ∃ g, Hid ((World.heap (wj)).size = g) := ⟨_, Lib.hid rfl⟩
      obtain ⟨v, V, -, xv, bv⟩ := allocS (wj) 0 0 (fun _ => 0) 0 ⟨#[]⟩ ⟨#[]⟩ 0 0 28 gq Gq.out
      have rg := Gq.out
      have rv := V.out
      go_simp
      clear rg rv
      refine hK.out _ _ ?_ (fun hHeld => ?_)
      · exact (hZ).1.trans xv
      clear hK K
      (try simp only [Act.put, List.setIfInBounds_toArray, List.set_cons_zero, List.set_cons_succ])
      have hj := J79ab (0, gq, 0, g9, g10, g11) v ((hZ).ins (a := []) (b := [g9, g10, g11]) xv Gq.out bv)
      simp only [putAll, Act.put, List.setIfInBounds_toArray, List.set_cons_zero, List.set_cons_succ] at hj
      exact hj
    refine armL_ (i := 8) (N := some 4) #[true, true, true, true, true, true, false, false, true, true, true, true, false, false, false, false, false, false] rfl rfl (by kernel_rfl) (by simp) (fun K hK => ?_) ?_
    · obtain ⟨gq, Gq⟩ : ∃ g, Hid ((World.heap (wj)).size = g) := ⟨_, Lib.hid rfl⟩
      obtain ⟨v, V, -, xv, bv⟩ := allocS (wj) 0 0 (fun _ => 0) 0 ⟨#[]⟩ ⟨#[]⟩ 0 0 28 gq Gq.out
      have rg := Gq.out
      have rv := V.out
      go_simp
      clear rg rv
      refine hK.out _ _ ?_ (fun hHeld => ?_)
      · exact (hZ).1.trans xv
      clear hK K
      (try simp only [Act.put, List.setIfInBounds_toArray, List.set_cons_zero, List.set_cons_succ])
      have hj := J89ab (0, 0, gq, g9, g10, g11) v ((hZ).ins (a := []) (b := [g9, g10, g11]) xv Gq.out bv)
      simp only [putAll, Act.put, List.setIfInBounds_toArray, List.set_cons_zero, List.set_cons_succ] at hj
      exact hj
    exact AllReadyL.nil
  intro J9ab
  refine join_ (σ := Nat × Nat × Nat × Nat × Nat × Nat) 10 #[true, true, true, true, true, true, true, true, false, false, false, false, false, false, false, false, false, false] (fun s => [(2, .pointer (some ⟨s.1, 0, none⟩)), (3, .pointer (some ⟨s.2.1, 0, none⟩))]) (fun s W => Zks z1 W [s.1, s.2.1]) ?_ ?_
  · rintro ⟨g6, g7, g8, g9, g10, g11⟩ wj hZ
    dsimp only at hZ
    have hHeld : Ext z1 wj := hZ.1
    simp only [putAll, Act.put, List.setIfInBounds_toArray, List.set_cons_zero, List.set_cons_succ]
    refine many_ [8, 9, 10, 11] (by kernel_rfl) (by simp) ?_
    refine armL_ (i := 8) (N := some 4) #[true, true, true, true, true, true, true, true, true, false, false, false, false, false, false, false, false, false] rfl rfl (by kernel_rfl) (by simp) (fun K hK => ?_) ?_
    · obtain ⟨gq, Gq⟩ : ∃ g, Hid ((World.heap (wj)).size = g) := ⟨_, Lib.hid rfl⟩
      obtain ⟨v, V, -, xv, bv⟩ := allocS (wj) 0 0 (fun _ => 0) 0 ⟨#[]⟩ ⟨#[]⟩ 0 0 28 gq Gq.out
      have rg := Gq.out
      have rv := V.out
      go_simp
      clear rg rv
      refine hK.out _ _ ?_ (fun hHeld => ?_)
      · exact (hZ).1.trans xv
      clear hK K
      (try simp only [Act.put, List.setIfInBounds_toArray, List.set_cons_zero, List.set_cons_succ])
      have hj := J678 (g6, g7, gq, 0, 0, 0) v ((hZ).ins (a := [g6, g7]) (b := []) xv Gq.out bv)
      simp only [putAll, Act.put, List.setIfInBounds_toArray, List.set_cons_zero, List.set_cons_succ] at hj
      exact hj
    refine armL_ (i := 9) (N := some 5) #[true, true, true, true, true, true, true, true, false, true, false, false, false, false, false, false, false, false] rfl rfl (by kernel_rfl) (by simp) (fun K hK => ?_) ?_
    · obtain ⟨gq, Gq⟩ : ∃ g, Hid ((World.heap (wj)).size = g) := ⟨_, Lib.hid rfl⟩
      obtain ⟨v, V, -, xv, bv⟩ := allocS (wj) 0 0 (fun _ => 0) 0 ⟨#[]⟩ ⟨#[]⟩ 0 0 28 gq Gq.out
      have rg := Gq.out
      have rv := V.out
      go_simp
      clear rg rv
      refine hK.out _ _ ?_ (fun hHeld => ?_)
      · exact (hZ).1.trans xv
      clear hK K
      (try simp only [Act.put, List.setIfInBounds_toArray, List.set_cons_zero, List.set_cons_succ])
      have hj := J679 (g6, g7, 0, gq, 0, 0) v ((hZ).ins (a := [g6, g7]) (b := []) xv Gq.out bv)
      simp only [putAll, Act.put, List.setIfInBounds_toArray, List.set_cons_zero, List.set_cons_succ] at hj
      exact hj
    refine armL_ (i := 10) (N := some 6) #[true, true, true, true, true, true, true, true, false, false, true, false, false, false, false, false, false, false] rfl rfl (by kernel_rfl) (by simp) (fun K hK => ?_) ?_
    · obtain ⟨gq, Gq⟩ : ∃ g, Hid ((World.heap (wj)).size = g) := ⟨_, Lib.hid rfl⟩
      obtain ⟨v, V, -, xv, bv⟩ := allocS (wj) 0 0 (fun _ => 0) 0 ⟨#[]⟩ ⟨#[]⟩ 0 0 28 gq Gq.out
      have rg := Gq.out
      have rv := V.out
      go_simp
      clear rg rv
      refine hK.out _ _ ?_ (fun hHeld => ?_)
      · exact (hZ).1.trans xv
      clear hK K
      (try simp only [Act.put, List.setIfInBounds_toArray, List.set_cons_zero, List.set_cons_succ])
      have hj := J67a (g6, g7, 0, 0, gq, 0) v ((hZ).ins (a := [g6, g7]) (b := []) xv Gq.out bv)
      simp only [putAll, Act.put, List.setIfInBounds_toArray, List.set_cons_zero, List.set_cons_succ] at hj
      exact hj
    refine armL_ (i := 11) (N := some 7) #[true, true, true, true, true, true, true, true, false, false, false, true, false, false, false, false, false, false] rfl rfl (by kernel_rfl) (by simp) (fun K hK => ?_) ?_
    · obtain ⟨gq, Gq⟩ : ∃ g, Hid ((World.heap (wj)).size = g) := ⟨_, Lib.hid rfl⟩
      obtain ⟨v, V, -, xv, bv⟩ := allocS (wj) 0 0 (fun _ => 0) 0 ⟨#[]⟩ ⟨#[]⟩ 0 0 28 gq Gq.out
      have rg := Gq.out
      have rv := V.out
      go_simp
      clear rg rv
      refine hK.out _ _ ?_ (fun hHeld => ?_)
      · exact (hZ).1.trans xv
      clear hK K
      (try simp only [Act.put, List.setIfInBounds_toArray, List.set_cons_zero, List.set_cons_succ])
      have hj := J67b (g6, g7, 0, 0, 0, gq) v ((hZ).ins (a := [g6, g7]) (b := []) xv Gq.out bv)
      simp only [putAll, Act.put, List.setIfInBounds_toArray, List.set_cons_zero, List.set_cons_succ] at hj
      exact hj
    exact AllReadyL.nil
  intro J67
  refine join_ (σ := Nat × Nat × Nat × Nat × Nat × Nat) 10 #[true, true, true, true, true, true, true, false, true, false, false, false, false, false, false, false, false, false] (fun s => [(2, .pointer (some ⟨s.1, 0, none⟩)), (4, .pointer (some ⟨s.2.2.1, 0, none⟩))]) (fun s W => Zks z1 W [s.1, s.2.2.1]) ?_ ?_
  · rintro ⟨g6, g7, g8, g9, g10, g11⟩ wj hZ
    dsimp only at hZ
    have hHeld : Ext z1 wj := hZ.1
    simp only [putAll, Act.put, List.setIfInBounds_toArray, List.set_cons_zero, List.set_cons_succ]
    refine many_ [7, 9, 10, 11] (by kernel_rfl) (by simp) ?_
    refine armL_ (i := 7) (N := some 3) #[true, true, true, true, true, true, true, true, true, false, false, false, false, false, false, false, false, false] rfl rfl (by kernel_rfl) (by simp) (fun K hK => ?_) ?_
    · obtain ⟨gq, Gq⟩ : ∃ g, Hid ((World.heap (wj)).size = g) := ⟨_, Lib.hid rfl⟩
      obtain ⟨v, V, -, xv, bv⟩ := allocS (wj) 0 0 (fun _ => 0) 0 ⟨#[]⟩ ⟨#[]⟩ 0 0 28 gq Gq.out
      have rg := Gq.out
      have rv := V.out
      go_simp
      clear rg rv
      refine hK.out _ _ ?_ (fun hHeld => ?_)
      · exact (hZ).1.trans xv
      clear hK K
      (try simp only [Act.put, List.setIfInBounds_toArray, List.set_cons_zero, List.set_cons_succ])
      have hj := J678 (g6, gq, g8, 0, 0, 0) v ((hZ).ins (a := [g6]) (b := [g8]) xv Gq.out bv)
      simp only [putAll, Act.put, List.setIfInBounds_toArray, List.set_cons_zero, List.set_cons_succ] at hj
      exact hj
    refine armL_ (i := 9) (N := some 5) #[true, true, true, true, true, true, true, false, true, true, false, false, false, false, false, false, false, false] rfl rfl (by kernel_rfl) (by simp) (fun K hK => ?_) ?_
    · obtain ⟨gq, Gq⟩ : ∃ g, Hid ((World.heap (wj)).size = g) := ⟨_, Lib.hid rfl⟩
      obtain ⟨v, V, -, xv, bv⟩ := allocS (wj) 0 0 (fun _ => 0) 0 ⟨#[]⟩ ⟨#[]⟩ 0 0 28 gq Gq.out
      have rg := Gq.out
      have rv := V.out
      go_simp
      clear rg rv
      refine hK.out _ _ ?_ (fun hHeld => ?_)
      · exact (hZ).1.trans xv
      clear hK K
      (try simp only [Act.put, List.setIfInBounds_toArray, List.set_cons_zero, List.set_cons_succ])
      have hj := J689 (g6, 0, g8, gq, 0, 0) v ((hZ).ins (a := [g6, g8]) (b := []) xv Gq.out bv)
      simp only [putAll, Act.put, List.setIfInBounds_toArray, List.set_cons_zero, List.set_cons_succ] at hj
      exact hj
    refine armL_ (i := 10) (N := some 6) #[true, true, true, true, true, true, true, false, true, false, true, false, false, false, false, false, false, false] rfl rfl (by kernel_rfl) (by simp) (fun K hK => ?_) ?_
    · obtain ⟨gq, Gq⟩ : ∃ g, Hid ((World.heap (wj)).size = g) := ⟨_, Lib.hid rfl⟩
      obtain ⟨v, V, -, xv, bv⟩ := allocS (wj) 0 0 (fun _ => 0) 0 ⟨#[]⟩ ⟨#[]⟩ 0 0 28 gq Gq.out
      have rg := Gq.out
      have rv := V.out
      go_simp
      clear rg rv
      refine hK.out _ _ ?_ (fun hHeld => ?_)
      · exact (hZ).1.trans xv
      clear hK K
      (try simp only [Act.put, List.setIfInBounds_toArray, List.set_cons_zero, List.set_cons_succ])
      have hj := J68a (g6, 0, g8, 0, gq, 0) v ((hZ).ins (a := [g6, g8]) (b := []) xv Gq.out bv)
      simp only [putAll, Act.put, List.setIfInBounds_toArray, List.set_cons_zero, List.set_cons_succ] at hj
      exact hj
    refine armL_ (i := 11) (N := some 7) #[true, true, true, true, true, true, true, false, true, false, false, true, false, false, false, false, false, false] rfl rfl (by kernel_rfl) (by simp) (fun K hK => ?_) ?_
    · obtain ⟨gq, Gq⟩ : ∃ g, Hid ((World.heap (wj)).size = g) := ⟨_, Lib.hid rfl⟩
      obtain ⟨v, V, -, xv, bv⟩ := allocS (wj) 0 0 (fun _ => 0) 0 ⟨#[]⟩ ⟨#[]⟩ 0 0 28 gq Gq.out
      have rg := Gq.out
      have rv := V.out
      go_simp
      clear rg rv
      refine hK.out _ _ ?_ (fun hHeld => ?_)
      · exact (hZ).1.trans xv
      clear hK K
      (try simp only [Act.put, List.setIfInBounds_toArray, List.set_cons_zero, List.set_cons_succ])
      have hj := J68b (g6, 0, g8, 0, 0, gq) v ((hZ).ins (a := [g6, g8]) (b := []) xv Gq.out bv)
      simp only [putAll, Act.put, List.setIfInBounds_toArray, List.set_cons_zero, List.set_cons_succ] at hj
      exact hj
    exact AllReadyL.nil
  intro J68
  refine join_ (σ := Nat × Nat × Nat × Nat × Nat × Nat) 10 #[true, true, true, true, true, true, true, false, false, true, false, false, false, false, false, false, false, false] (fun s => [(2, .pointer (some ⟨s.1, 0, none⟩)), (5, .pointer (some ⟨s.2.2.2.1, 0, none⟩))]) (fun s W => Zks z1 W [s.1, s.2.2.2.1]) ?_ ?_
  · rintro ⟨g6, g7, g8, g9, g10, g11⟩ wj hZ
    dsimp only at hZ
    have hHeld : Ext z1 wj := hZ.1
    simp only [putAll, Act.put, List.setIfInBounds_toArray, List.set_cons_zero, List.set_cons_succ]
    refine many_ [7, 8, 10, 11] (by kernel_rfl) (by simp) ?_
    refine armL_ (i := 7) (N := some 3) #[true, true, true, true, true, true, true, true, false, true, false, false, false, false, false, false, false, false] rfl rfl (by kernel_rfl) (by simp) (fun K hK => ?_) ?_
    · obtain ⟨gq, Gq⟩ : ∃ g, Hid ((World.heap (wj)).size = g) := ⟨_, Lib.hid rfl⟩
      obtain ⟨v, V, -, xv, bv⟩ := allocS (wj) 0 0 (fun _ => 0) 0 ⟨#[]⟩ ⟨#[]⟩ 0 0 28 gq Gq.out
      have rg := Gq.out
      have rv := V.out
      go_simp
      clear rg rv
      refine hK.out _ _ ?_ (fun hHeld => ?_)
      · exact (hZ).1.trans xv
      clear hK K
      (try simp only [Act.put, List.setIfInBounds_toArray, List.set_cons_zero, List.set_cons_succ])
      have hj := J679 (g6, gq, 0, g9, 0, 0) v ((hZ).ins (a := [g6]) (b := [g9]) xv Gq.out bv)
      simp only [putAll, Act.put, List.setIfInBounds_toArray, List.set_cons_zero, List.set_cons_succ] at hj
      exact hj
    refine armL_ (i := 8) (N := some 4) #[true, true, true, true, true, true, true, false, true, true, false, false, false, false, false, false, false, false] rfl rfl (by kernel_rfl) (by simp) (fun K hK => ?_) ?_
    · obtain ⟨gq, Gq⟩ : ∃ g, Hid ((World.heap (wj)).size = g) := ⟨_, Lib.hid rfl⟩
      obtain ⟨v, V, -, xv, bv⟩ := allocS (wj) 0 0 (fun _ => 0) 0 ⟨#[]⟩ ⟨#[]⟩ 0 0 28 gq Gq.out
      have rg := Gq.out
      have rv := V.out
      go_simp
      clear rg rv
      refine hK.out _ _ ?_ (fun hHeld => ?_)
      · exact (hZ).1.trans xv
      clear hK K
      (try simp only [Act.put, List.setIfInBounds_toArray, List.set_cons_zero, List.set_cons_succ])
      have hj := J689 (g6, 0, gq, g9, 0, 0) v ((hZ).ins (a := [g6]) (b := [g9]) xv Gq.out bv)
      simp only [putAll, Act.put, List.setIfInBounds_toArray, List.set_cons_zero, List.set_cons_succ] at hj
      exact hj
    refine armL_ (i := 10) (N := some 6) #[true, true, true, true, true, true, true, false, false, true, true, false, false, false, false, false, false, false] rfl rfl (by kernel_rfl) (by simp) (fun K hK => ?_) ?_
    · obtain ⟨gq, Gq⟩ : ∃ g, Hid ((World.heap (wj)).size = g) := ⟨_, Lib.hid rfl⟩
      obtain ⟨v, V, -, xv, bv⟩ := allocS (wj) 0 0 (fun _ => 0) 0 ⟨#[]⟩ ⟨#[]⟩ 0 0 28 gq Gq.out
      have rg := Gq.out
      have rv := V.out
      go_simp
      clear rg rv
      refine hK.out _ _ ?_ (fun hHeld => ?_)
      · exact (hZ).1.trans xv
      clear hK K
      (try simp only [Act.put, List.setIfInBounds_toArray, List.set_cons_zero, List.set_cons_succ])
      have hj := J69a (g6, 0, 0, g9, gq, 0) v ((hZ).ins (a := [g6, g9]) (b := []) xv Gq.out bv)
      simp only [putAll, Act.put, List.setIfInBounds_toArray, List.set_cons_zero, List.set_cons_succ] at hj
      exact hj
    refine armL_ (i := 11) (N := some 7) #[true, true, true, true, true, true, true, false, false, true, false, true, false, false, false, false, false, false] rfl rfl (by kernel_rfl) (by simp) (fun K hK => ?_) ?_
    · obtain ⟨gq, Gq⟩ : ∃ g, Hid ((World.heap (wj)).size = g) := ⟨_, Lib.hid rfl⟩
      obtain ⟨v, V, -, xv, bv⟩ := allocS (wj) 0 0 (fun _ => 0) 0 ⟨#[]⟩ ⟨#[]⟩ 0 0 28 gq Gq.out
      have rg := Gq.out
      have rv := V.out
      go_simp
      clear rg rv
      refine hK.out _ _ ?_ (fun hHeld => ?_)
      · exact (hZ).1.trans xv
      clear hK K
      (try simp only [Act.put, List.setIfInBounds_toArray, List.set_cons_zero, List.set_cons_succ])
      have hj := J69b (g6, 0, 0, g9, 0, gq) v ((hZ).ins (a := [g6, g9]) (b := []) xv Gq.out bv)
      simp only [putAll, Act.put, List.setIfInBounds_toArray, List.set_cons_zero, List.set_cons_succ] at hj
      exact hj
    exact AllReadyL.nil
  intro J69
  refine join_ (σ := Nat × Nat × Nat × Nat × Nat × Nat) 10 #[true, true, true, true, true, true, true, false, false, false, true, false, false, false, false, false, false, false] (fun s => [(2, .pointer (some ⟨s.1, 0, none⟩)), (6, .pointer (some ⟨s.2.2.2.2.1, 0, none⟩))]) (fun s W => Zks z1 W [s.1, s.2.2.2.2.1]) ?_ ?_
  · rintro ⟨g6, g7, g8, g9, g10, g11⟩ wj hZ
    dsimp only at hZ
    have hHeld : Ext z1 wj := hZ.1
    simp only [putAll, Act.put, List.setIfInBounds_toArray, List.set_cons_zero, List.set_cons_succ]
    refine many_ [7, 8, 9, 11] (by kernel_rfl) (by simp) ?_
    refine armL_ (i := 7) (N := some 3) #[true, true, true, true, true, true, true, true, false, false, true, false, false, false, false, false, false, false] rfl rfl (by kernel_rfl) (by simp) (fun K hK => ?_) ?_
    · obtain ⟨gq, Gq⟩ : ∃ g, Hid ((World.heap (wj)).size = g) := ⟨_, Lib.hid rfl⟩
      obtain ⟨v, V, -, xv, bv⟩ := allocS (wj) 0 0 (fun _ => 0) 0 ⟨#[]⟩ ⟨#[]⟩ 0 0 28 gq Gq.out
      have rg := Gq.out
      have rv := V.out
      go_simp
      clear rg rv
      refine hK.out _ _ ?_ (fun hHeld => ?_)
      · exact (hZ).1.trans xv
      clear hK K
      (try simp only [Act.put, List.setIfInBounds_toArray, List.set_cons_zero, List.set_cons_succ])
      have hj := J67a (g6, gq, 0, 0, g10, 0) v ((hZ).ins (a := [g6]) (b := [g10]) xv Gq.out bv)
      simp only [putAll, Act.put, List.setIfInBounds_toArray, List.set_cons_zero, List.set_cons_succ] at hj
      exact hj
    refine armL_ (i := 8) (N := some 4) #[true, true, true, true, true, true, true, false, true, false, true, false, false, false, false, false, false, false] rfl rfl (by kernel_rfl) (by simp) (fun K hK => ?_) ?_
    · obtain ⟨gq, Gq⟩ : ∃ g, Hid ((World.heap (wj)).size = g) := ⟨_, Lib.hid rfl⟩
      obtain ⟨v, V, -, xv, bv⟩ := allocS (wj) 0 0 (fun _ => 0) 0 ⟨#[]⟩ ⟨#[]⟩ 0 0 28 gq Gq.out
      have rg := Gq.out
      have rv := V.out
      go_simp
      clear rg rv
      refine hK.out _ _ ?_ (fun hHeld => ?_)
      · exact (hZ).1.trans xv
      clear hK K
      (try simp only [Act.put, List.setIfInBounds_toArray, List.set_cons_zero, List.set_cons_succ])
      have hj := J68a (g6, 0, gq, 0, g10, 0) v ((hZ).ins (a := [g6]) (b := [g10]) xv Gq.out bv)
      simp only [putAll, Act.put, List.setIfInBounds_toArray, List.set_cons_zero, List.set_cons_succ] at hj
      exact hj
    refine armL_ (i := 9) (N := some 5) #[true, true, true, true, true, true, true, false, false, true, true, false, false, false, false, false, false, false] rfl rfl (by kernel_rfl) (by simp) (fun K hK => ?_) ?_
    · obtain ⟨gq, Gq⟩ : ∃ g, Hid ((World.heap (wj)).size = g) := ⟨_, Lib.hid rfl⟩
      obtain ⟨v, V, -, xv, bv⟩ := allocS (wj) 0 0 (fun _ => 0) 0 ⟨#[]⟩ ⟨#[]⟩ 0 0 28 gq Gq.out
      have rg := Gq.out
      have rv := V.out
      go_simp
      clear rg rv
      refine hK.out _ _ ?_ (fun hHeld => ?_)
      · exact (hZ).1.trans xv
      clear hK K
      (try simp only [Act.put, List.setIfInBounds_toArray, List.set_cons_zero, List.set_cons_succ])
      have hj := J69a (g6, 0, 0, gq, g10, 0) v ((hZ).ins (a := [g6]) (b := [g10]) xv Gq.out bv)
      simp only [putAll, Act.put, List.setIfInBounds_toArray, List.set_cons_zero, List.set_cons_succ] at hj
      exact hj
    refine armL_ (i := 11) (N := some 7) #[true, true, true, true, true, true, true, false, false, false, true, true, false, false, false, false, false, false] rfl rfl (by kernel_rfl) (by simp) (fun K hK => ?_) ?_
    · obtain ⟨gq, Gq⟩ : ∃ g, Hid ((World.heap (wj)).size = g) := ⟨_, Lib.hid rfl⟩
      obtain ⟨v, V, -, xv, bv⟩ := allocS (wj) 0 0 (fun _ => 0) 0 ⟨#[]⟩ ⟨#[]⟩ 0 0 28 gq Gq.out
      have rg := Gq.out
      have rv := V.out
      go_simp
      clear rg rv
      refine hK.out _ _ ?_ (fun hHeld => ?_)
      · exact (hZ).1.trans xv
      clear hK K
      (try simp only [Act.put, List.setIfInBounds_toArray, List.set_cons_zero, List.set_cons_succ])
      have hj := J6ab (g6, 0, 0, 0, g10, gq) v ((hZ).ins (a := [g6, g10]) (b := []) xv Gq.out bv)
      simp only [putAll, Act.put, List.setIfInBounds_toArray, List.set_cons_zero, List.set_cons_succ] at hj
      exact hj
    exact AllReadyL.nil
  intro J6a
  refine join_ (σ := Nat × Nat × Nat × Nat × Nat × Nat) 10 #[true, true, true, true, true, true, true, false, false, false, false, true, false, false, false, false, false, false] (fun s => [(2, .pointer (some ⟨s.1, 0, none⟩)), (7, .pointer (some ⟨s.2.2.2.2.2, 0, none⟩))]) (fun s W => Zks z1 W [s.1, s.2.2.2.2.2]) ?_ ?_
  · rintro ⟨g6, g7, g8, g9, g10, g11⟩ wj hZ
    dsimp only at hZ
    have hHeld : Ext z1 wj := hZ.1
    simp only [putAll, Act.put, List.setIfInBounds_toArray, List.set_cons_zero, List.set_cons_succ]
    refine many_ [7, 8, 9, 10] (by kernel_rfl) (by simp) ?_
    refine armL_ (i := 7) (N := some 3) #[true, true, true, true, true, true, true, true, false, false, false, true, false, false, false, false, false, false] rfl rfl (by kernel_rfl) (by simp) (fun K hK => ?_) ?_
    · obtain ⟨gq, Gq⟩ : ∃ g, Hid ((World.heap (wj)).size = g) := ⟨_, Lib.hid rfl⟩
      obtain ⟨v, V, -, xv, bv⟩ := allocS (wj) 0 0 (fun _ => 0) 0 ⟨#[]⟩ ⟨#[]⟩ 0 0 28 gq Gq.out
      have rg := Gq.out
      have rv := V.out
      go_simp
      clear rg rv
      refine hK.out _ _ ?_ (fun hHeld => ?_)
      · exact (hZ).1.trans xv
      clear hK K
      (try simp only [Act.put, List.setIfInBounds_toArray, List.set_cons_zero, List.set_cons_succ])
      have hj := J67b (g6, gq, 0, 0, 0, g11) v ((hZ).ins (a := [g6]) (b := [g11]) xv Gq.out bv)
      simp only [putAll, Act.put, List.setIfInBounds_toArray, List.set_cons_zero, List.set_cons_succ] at hj
      exact hj
    refine armL_ (i := 8) (N := some 4) #[true, true, true, true, true, true, true, false, true, false, false, true, false, false, false, false, false, false] rfl rfl (by kernel_rfl) (by simp) (fun K hK => ?_) ?_
    · obtain ⟨gq, Gq⟩ : ∃ g, Hid ((World.heap (wj)).size = g) := ⟨_, Lib.hid rfl⟩
      obtain ⟨v, V, -, xv, bv⟩ := allocS (wj) 0 0 (fun _ => 0) 0 ⟨#[]⟩ ⟨#[]⟩ 0 0 28 gq Gq.out
      have rg := Gq.out
      have rv := V.out
      go_simp
      clear rg rv
      refine hK.out _ _ ?_ (fun hHeld => ?_)
      · exact (hZ).1.trans xv
      clear hK K
      (try simp only [Act.put, List.setIfInBounds_toArray, List.set_cons_zero, List.set_cons_succ])
      have hj := J68b (g6, 0, gq, 0, 0, g11) v ((hZ).ins (a := [g6]) (b := [g11]) xv Gq.out bv)
      simp only [putAll, Act.put, List.setIfInBounds_toArray, List.set_cons_zero, List.set_cons_succ] at hj
      exact hj
    refine armL_ (i := 9) (N := some 5) #[true, true, true, true, true, true, true, false, false, true, false, true, false, false, false, false, false, false] rfl rfl (by kernel_rfl) (by simp) (fun K hK => ?_) ?_
    · obtain ⟨gq, Gq⟩ : ∃ g, Hid ((World.heap (wj)).size = g) := ⟨_, Lib.hid rfl⟩
      obtain ⟨v, V, -, xv, bv⟩ := allocS (wj) 0 0 (fun _ => 0) 0 ⟨#[]⟩ ⟨#[]⟩ 0 0 28 gq Gq.out
      have rg := Gq.out
      have rv := V.out
      go_simp
      clear rg rv
      refine hK.out _ _ ?_ (fun hHeld => ?_)
      · exact (hZ).1.trans xv
      clear hK K
      (try simp only [Act.put, List.setIfInBounds_toArray, List.set_cons_zero, List.set_cons_succ])
      have hj := J69b (g6, 0, 0, gq, 0, g11) v ((hZ).ins (a := [g6]) (b := [g11]) xv Gq.out bv)
      simp only [putAll, Act.put, List.setIfInBounds_toArray, List.set_cons_zero, List.set_cons_succ] at hj
      exact hj
    refine armL_ (i := 10) (N := some 6) #[true, true, true, true, true, true, true, false, false, false, true, true, false, false, false, false, false, false] rfl rfl (by kernel_rfl) (by simp) (fun K hK => ?_) ?_
    · obtain ⟨gq, Gq⟩ : ∃ g, Hid ((World.heap (wj)).size = g) := ⟨_, Lib.hid rfl⟩
      obtain ⟨v, V, -, xv, bv⟩ := allocS (wj) 0 0 (fun _ => 0) 0 ⟨#[]⟩ ⟨#[]⟩ 0 0 28 gq Gq.out
      have rg := Gq.out
      have rv := V.out
      go_simp
      clear rg rv
      refine hK.out _ _ ?_ (fun hHeld => ?_)
      · exact (hZ).1.trans xv
      clear hK K
      (try simp only [Act.put, List.setIfInBounds_toArray, List.set_cons_zero, List.set_cons_succ])
      have hj := J6ab (g6, 0, 0, 0, gq, g11) v ((hZ).ins (a := [g6]) (b := [g11]) xv Gq.out bv)
      simp only [putAll, Act.put, List.setIfInBounds_toArray, List.set_cons_zero, List.set_cons_succ] at hj
      exact hj
    exact AllReadyL.nil
  intro J6b
  refine join_ (σ := Nat × Nat × Nat × Nat × Nat × Nat) 10 #[true, true, true, true, true, true, false, true, true, false, false, false, false, false, false, false, false, false] (fun s => [(3, .pointer (some ⟨s.2.1, 0, none⟩)), (4, .pointer (some ⟨s.2.2.1, 0, none⟩))]) (fun s W => Zks z1 W [s.2.1, s.2.2.1]) ?_ ?_
  · rintro ⟨g6, g7, g8, g9, g10, g11⟩ wj hZ
    dsimp only at hZ
    have hHeld : Ext z1 wj := hZ.1
    simp only [putAll, Act.put, List.setIfInBounds_toArray, List.set_cons_zero, List.set_cons_succ]
    refine many_ [6, 9, 10, 11] (by kernel_rfl) (by simp) ?_
    refine armL_ (i := 6) (N := some 2) #[true, true, true, true, true, true, true, true, true, false, false, false, false, false, false, false, false, false] rfl rfl (by kernel_rfl) (by simp) (fun K hK => ?_) ?_
    · obtain ⟨gq, Gq⟩ : ∃ g, Hid ((World.heap (wj)).size = g) := ⟨_, Lib.hid rfl⟩
      obtain ⟨v, V, -, xv, bv⟩ := allocS (wj) 0 0 (fun _ => 0) 0 ⟨#[]⟩ ⟨#[]⟩ 0 0 28 gq Gq.out
      have rg := Gq.out
      have rv := V.out
      go_simp
      clear rg rv
      refine hK.out _ _ ?_ (fun hHeld => ?_)
      · exact (hZ).1.trans xv
      clear hK K
      (try simp only [Act.put, List.setIfInBounds_toArray, List.set_cons_zero, List.set_cons_succ])
      have hj := J678 (gq, g7, g8, 0, 0, 0) v ((hZ).ins (a := []) (b := [g7, g8]) xv Gq.out bv)
      simp only [putAll, Act.put, List.setIfInBounds_toArray, List.set_cons_zero, List.set_cons_succ] at hj
      exact hj
    refine armL_ (i := 9) (N := some 5) #[true, true, true, true, true, true, false, true, true, true, false, false, false, false, false, false, false, false] rfl rfl (by kernel_rfl) (by simp) (fun K hK => ?_) ?_
    · obtain ⟨gq, Gq⟩ : ∃ g, Hid ((World.heap (wj)).size = g) := ⟨_, Lib.hid rfl⟩
      obtain ⟨v, V, -, xv, bv⟩ := allocS (wj) 0 0 (fun _ => 0) 0 ⟨#[]⟩ ⟨#[]⟩ 0 0 28 gq Gq.out
      have rg := Gq.out
      have rv := V.out
      go_simp
      clear rg rv
      refine hK.out _ _ ?_ (fun hHeld => ?_)
      · exact (hZ).1.trans xv
      clear hK K
      (try simp only [Act.put, List.setIfInBounds_toArray, List.set_cons_zero, List.set_cons_succ])
      have hj := J789 (0, g7, g8, gq, 0, 0) v ((hZ).ins (a := [g7, g8]) (b := []) xv Gq.out bv)
      simp only [putAll, Act.put, List.setIfInBounds_toArray, List.set_cons_zero, List.set_cons_succ] at hj
      exact hj
    refine armL_ (i := 10) (N := some 6) #[true, true, true, true, true, true, false, true, true, false, true, false, false, false, false, false, false, false] rfl rfl (by kernel_rfl) (by simp) (fun K hK => ?_) ?_
    · obtain ⟨gq, Gq⟩ : ∃ g, Hid ((World.heap (wj)).size = g) := ⟨_, Lib.hid rfl⟩
      obtain ⟨v, V, -, xv, bv⟩ := allocS (wj) 0 0 (fun _ => 0) 0 ⟨#[]⟩ ⟨#[]⟩ 0 0 28 gq Gq.out
      have rg := Gq.out
      have rv := V.out
      go_simp
      clear rg rv
      refine hK.out _ _ ?_ (fun hHeld => ?_)
      · exact (hZ).1.trans xv
      clear hK K
      (try simp only [Act.put, List.setIfInBounds_toArray, List.set_cons_zero, List.set_cons_succ])
      have hj := J78a (0, g7, g8, 0, gq, 0) v ((hZ).ins (a := [g7, g8]) (b := []) xv Gq.out bv)
      simp only [putAll, Act.put, List.setIfInBounds_toArray, List.set_cons_zero, List.set_cons_succ] at hj
      exact hj
    refine armL_ (i := 11) (N := some 7) #[true, true, true, true, true, true, false, true, true, false, false, true, false, false, false, false, false, false] rfl rfl (by kernel_rfl) (by simp) (fun K hK => ?_) ?_
    · obtain ⟨gq, Gq⟩ : ∃ g, Hid ((World.heap (wj)).size = g) := ⟨_, Lib.hid rfl⟩
      obtain ⟨v, V, -, xv, bv⟩ := allocS (wj) 0 0 (fun _ => 0) 0 ⟨#[]⟩ ⟨#[]⟩ 0 0 28 gq Gq.out
      have rg := Gq.out
      have rv := V.out
      go_simp
      clear rg rv
      refine hK.out _ _ ?_ (fun hHeld => ?_)
      · exact (hZ).1.trans xv
      clear hK K
      (try simp only [Act.put, List.setIfInBounds_toArray, List.set_cons_zero, List.set_cons_succ])
      have hj := J78b (0, g7, g8, 0, 0, gq) v ((hZ).ins (a := [g7, g8]) (b := []) xv Gq.out bv)
      simp only [putAll, Act.put, List.setIfInBounds_toArray, List.set_cons_zero, List.set_cons_succ] at hj
      exact hj
    exact AllReadyL.nil
  intro J78
  refine join_ (σ := Nat × Nat × Nat × Nat × Nat × Nat) 10 #[true, true, true, true, true, true, false, true, false, true, false, false, false, false, false, false, false, false] (fun s => [(3, .pointer (some ⟨s.2.1, 0, none⟩)), (5, .pointer (some ⟨s.2.2.2.1, 0, none⟩))]) (fun s W => Zks z1 W [s.2.1, s.2.2.2.1]) ?_ ?_
  · rintro ⟨g6, g7, g8, g9, g10, g11⟩ wj hZ
    dsimp only at hZ
    have hHeld : Ext z1 wj := hZ.1
    simp only [putAll, Act.put, List.setIfInBounds_toArray, List.set_cons_zero, List.set_cons_succ]
    refine many_ [6, 8, 10, 11] (by kernel_rfl) (by simp) ?_
    refine armL_ (i := 6) (N := some 2) #[true, true, true, true, true, true, true, true, false, true, false, false, false, false, false, false, false, false] rfl rfl (by kernel_rfl) (by simp) (fun K hK => ?_) ?_
    · obtain ⟨gq, Gq⟩ : ∃ g, Hid ((World.heap (wj)).size = g) := ⟨_, Lib.hid rfl⟩
      obtain ⟨v, V, -, xv, bv⟩ := allocS (wj) 0 0 (fun _ => 0) 0 ⟨#[]⟩ ⟨#[]⟩ 0 0 28 gq Gq.out
      have rg := Gq.out
      have rv := V.out
      go_simp
      clear rg rv
      refine hK.out _ _ ?_ (fun hHeld => ?_)
      · exact (hZ).1.trans xv
      clear hK K
      (try simp only [Act.put, List.setIfInBounds_toArray, List.set_cons_zero, List.set_cons_succ])
      have hj := J679 (gq, g7, 0, g9, 0, 0) v ((hZ).ins (a := []) (b := [g7, g9]) xv Gq.out bv)
      simp only [putAll, Act.put, List.setIfInBounds_toArray, List.set_cons_zero, List.set_cons_succ] at hj
      exact hj
    refine armL_ (i := 8) (N := some 4) #[true, true, true, true, true, true, false, true, true, true, false, false, false, false, false, false, false, false] rfl rfl (by kernel_rfl) (by simp) (fun K hK => ?_) ?_
    · obtain ⟨gq, Gq⟩ : ∃ g, Hid ((World.heap (wj)).size = g) := ⟨_, Lib.hid rfl⟩
      obtain ⟨v, V, -, xv, bv⟩ := allocS (wj) 0 0 (fun _ => 0) 0 ⟨#[]⟩ ⟨#[]⟩ 0 0 28 gq Gq.out
      have rg := Gq.out
      have rv := V.out
      go_simp
      clear rg rv
      refine hK.out _ _ ?_ (fun hHeld => ?_)
      · exact (hZ).1.trans xv
      clear hK K
      (try simp only [Act.put, List.setIfInBounds_toArray, List.set_cons_zero, List.set_cons_succ])
      have hj := J789 (0, g7, gq, g9, 0, 0) v ((hZ).ins (a := [g7]) (b := [g9]) xv Gq.out bv)
      simp only [putAll, Act.put, List.setIfInBounds_toArray, List.set_cons_zero, List.set_cons_succ] at hj
      exact hj
    refine armL_ (i := 10) (N := some 6) #[true, true, true, true, true, true, false, true, false, true, true, false, false, false, false, false, false, false] rfl rfl (by kernel_rfl) (by simp) (fun K hK => ?_) ?_
    · obtain ⟨gq, Gq⟩ : ∃ g, Hid ((World.heap (wj)).size = g) := ⟨_, Lib.hid rfl⟩
      obtain ⟨v, V, -, xv, bv⟩ := allocS (wj) 0 0 (fun _ => 0) 0 ⟨#[]⟩ ⟨#[]⟩ 0 0 28 gq Gq.out
      have rg := Gq.out
      have rv := V.out
      go_simp
      clear rg rv
      refine hK.out _ _ ?_ (fun hHeld => ?_)
      · exact (hZ).1.trans xv
      clear hK K
      (try simp only [Act.put, List.setIfInBounds_toArray, List.set_cons_zero, List.set_cons_succ])
      have hj := J79a (0, g7, 0, g9, gq, 0) v ((hZ).ins (a := [g7, g9]) (b := []) xv Gq.out bv)
      simp only [putAll, Act.put, List.setIfInBounds_toArray, List.set_cons_zero, List.set_cons_succ] at hj
      exact hj
    refine armL_ (i := 11) (N := some 7) #[true, true, true, true, true, true, false, true, false, true, false, true, false, false, false, false, false, false] rfl rfl (by kernel_rfl) (by simp) (fun K hK => ?_) ?_
    · obtain ⟨gq, Gq⟩ : ∃ g, Hid ((World.heap (wj)).size = g) := ⟨_, Lib.hid rfl⟩
      obtain ⟨v, V, -, xv, bv⟩ := allocS (wj) 0 0 (fun _ => 0) 0 ⟨#[]⟩ ⟨#[]⟩ 0 0 28 gq Gq.out
      have rg := Gq.out
      have rv := V.out
      go_simp
      clear rg rv
      refine hK.out _ _ ?_ (fun hHeld => ?_)
      · exact (hZ).1.trans xv
      clear hK K
      (try simp only [Act.put, List.setIfInBounds_toArray, List.set_cons_zero, List.set_cons_succ])
      have hj := J79b (0, g7, 0, g9, 0, gq) v ((hZ).ins (a := [g7, g9]) (b := []) xv Gq.out bv)
      simp only [putAll, Act.put, List.setIfInBounds_toArray, List.set_cons_zero, List.set_cons_succ] at hj
      exact hj
    exact AllReadyL.nil
  intro J79
  refine join_ (σ := Nat × Nat × Nat × Nat × Nat × Nat) 10 #[true, true, true, true, true, true, false, true, false, false, true, false, false, false, false, false, false, false] (fun s => [(3, .pointer (some ⟨s.2.1, 0, none⟩)), (6, .pointer (some ⟨s.2.2.2.2.1, 0, none⟩))]) (fun s W => Zks z1 W [s.2.1, s.2.2.2.2.1]) ?_ ?_
  · rintro ⟨g6, g7, g8, g9, g10, g11⟩ wj hZ
    dsimp only at hZ
    have hHeld : Ext z1 wj := hZ.1
    simp only [putAll, Act.put, List.setIfInBounds_toArray, List.set_cons_zero, List.set_cons_succ]
    refine many_ [6, 8, 9, 11] (by kernel_rfl) (by simp) ?_
    refine armL_ (i := 6) (N := some 2) #[true, true, true, true, true, true, true, true, false, false, true, false, false, false, false, false, false, false] rfl rfl (by kernel_rfl) (by simp) (fun K hK => ?_) ?_
    · obtain ⟨gq, Gq⟩ : ∃ g, Hid ((World.heap (wj)).size = g) := ⟨_, Lib.hid rfl⟩
      obtain ⟨v, V, -, xv, bv⟩ := allocS (wj) 0 0 (fun _ => 0) 0 ⟨#[]⟩ ⟨#[]⟩ 0 0 28 gq Gq.out
      have rg := Gq.out
      have rv := V.out
      go_simp
      clear rg rv
      refine hK.out _ _ ?_ (fun hHeld => ?_)
      · exact (hZ).1.trans xv
      clear hK K
      (try simp only [Act.put, List.setIfInBounds_toArray, List.set_cons_zero, List.set_cons_succ])
      have hj := J67a (gq, g7, 0, 0, g10, 0) v ((hZ).ins (a := []) (b := [g7, g10]) xv Gq.out bv)
      simp only [putAll, Act.put, List.setIfInBounds_toArray, List.set_cons_zero, List.set_cons_succ] at hj
      exact hj
    refine armL_ (i := 8) (N := some 4) #[true, true, true, true, true, true, false, true, true, false, true, false, false, false, false, false, false, false] rfl rfl (by kernel_rfl) (by simp) (fun K hK => ?_) ?_
    · obtain ⟨gq, Gq⟩ : ∃ g, Hid ((World.heap (wj)).size = g) := ⟨_, Lib.hid rfl⟩
      obtain ⟨v, V, -, xv, bv⟩ := allocS (wj) 0 0 (fun _ => 0) 0 ⟨#[]⟩ ⟨#[]⟩ 0 0 28 gq Gq.out
      have rg := Gq.out
      have rv := V.out
      go_simp
      clear rg rv
      refine hK.out _ _ ?_ (fun hHeld => ?_)
      · exact (hZ).1.trans xv
      clear hK K
      (try simp only [Act.put, List.setIfInBounds_toArray, List.set_cons_zero, List.set_cons_succ])
      have hj := J78a (0, g7, gq, 0, g10, 0) v ((hZ).ins (a := [g7]) (b := [g10]) xv Gq.out bv)
      simp only [putAll, Act.put, List.setIfInBounds_toArray, List.set_cons_zero, List.set_cons_succ] at hj
      exact hj
    refine armL_ (i := 9) (N := some 5) #[true, true, true, true, true, true, false, true, false, true, true, false, false, false, false, false, false, false] rfl rfl (by kernel_rfl) (by simp) (fun K hK => ?_) ?_
    · obtain ⟨gq, Gq⟩ : ∃ g, Hid ((World.heap (wj)).size = g) := ⟨_, Lib.hid rfl⟩
      obtain ⟨v, V, -, xv, bv⟩ := allocS (wj) 0 0 (fun _ => 0) 0 ⟨#[]⟩ ⟨#[]⟩ 0 0 28 gq Gq.out
      have rg := Gq.out
      have rv := V.out
      go_simp
      clear rg rv
      refine hK.out _ _ ?_ (fun hHeld => ?_)
      · exact (hZ).1.trans xv
      clear hK K
      (try simp only [Act.put, List.setIfInBounds_toArray, List.set_cons_zero, List.set_cons_succ])
      have hj := J79a (0, g7, 0, gq, g10, 0) v ((hZ).ins (a := [g7]) (b := [g10]) xv Gq.out bv)
      simp only [putAll, Act.put, List.setIfInBounds_toArray, List.set_cons_zero, List.set_cons_succ] at hj
      exact hj
    refine armL_ (i := 11) (N := some 7) #[true, true, true, true, true, true, false, true, false, false, true, true, false, false, false, false, false, false] rfl rfl (by kernel_rfl) (by simp) (fun K hK => ?_) ?_
    · obtain ⟨gq, Gq⟩ : ∃ g, Hid ((World.heap (wj)).size = g) := ⟨_, Lib.hid rfl⟩
      obtain ⟨v, V, -, xv, bv⟩ := allocS (wj) 0 0 (fun _ => 0) 0 ⟨#[]⟩ ⟨#[]⟩ 0 0 28 gq Gq.out
      have rg := Gq.out
      have rv := V.out
      go_simp
      clear rg rv
      refine hK.out _ _ ?_ (fun hHeld => ?_)
      · exact (hZ).1.trans xv
      clear hK K
      (try simp only [Act.put, List.setIfInBounds_toArray, List.set_cons_zero, List.set_cons_succ])
      have hj := J7ab (0, g7, 0, 0, g10, gq) v ((hZ).ins (a := [g7, g10]) (b := []) xv Gq.out bv)
      simp only [putAll, Act.put, List.setIfInBounds_toArray, List.set_cons_zero, List.set_cons_succ] at hj
      exact hj
    exact AllReadyL.nil
  intro J7a
  refine join_ (σ := Nat × Nat × Nat × Nat × Nat × Nat) 10 #[true, true, true, true, true, true, false, true, false, false, false, true, false, false, false, false, false, false] (fun s => [(3, .pointer (some ⟨s.2.1, 0, none⟩)), (7, .pointer (some ⟨s.2.2.2.2.2, 0, none⟩))]) (fun s W => Zks z1 W [s.2.1, s.2.2.2.2.2]) ?_ ?_
  · rintro ⟨g6, g7, g8, g9, g10, g11⟩ wj hZ
    dsimp only at hZ
    have hHeld : Ext z1 wj := hZ.1
    simp only [putAll, Act.put, List.setIfInBounds_toArray, List.set_cons_zero, List.set_cons_succ]
    refine many_ [6, 8, 9, 10] (by kernel_rfl) (by simp) ?_
    refine armL_ (i := 6) (N := some 2) #[true, true, true, true, true, true, true, true, false, false, false, true, false, false, false, false, false, false] rfl rfl (by kernel_rfl) (by simp) (fun K hK => ?_) ?_
    · obtain ⟨gq, Gq⟩ : ∃ g, Hid ((World.heap (wj)).size = g) := ⟨_, Lib.hid rfl⟩
      obtain ⟨v, V, -, xv, bv⟩ := allocS (wj) 0 0 (fun _ => 0) 0 ⟨#[]⟩ ⟨#[]⟩ 0 0 28 gq Gq.out
      have rg := Gq.out
      have rv := V.out
      go_simp
      clear rg rv
      refine hK.out _ _ ?_ (fun hHeld => ?_)
      · exact (hZ).1.trans xv
      clear hK K
      (try simp only [Act.put, List.setIfInBounds_toArray, List.set_cons_zero, List.set_cons_succ])
      have hj := J67b (gq, g7, 0, 0, 0, g11) v ((hZ).ins (a := []) (b := [g7, g11]) xv Gq.out bv)
      simp only [putAll, Act.put, List.setIfInBounds_toArray, List.set_cons_zero, List.set_cons_succ] at hj
      exact hj
    refine armL_ (i := 8) (N := some 4) #[true, true, true, true, true, true, false, true, true, false, false, true, false, false, false, false, false, false] rfl rfl (by kernel_rfl) (by simp) (fun K hK => ?_) ?_
    · obtain ⟨gq, Gq⟩ : ∃ g, Hid ((World.heap (wj)).size = g) := ⟨_, Lib.hid rfl⟩
      obtain ⟨v, V, -, xv, bv⟩ := allocS (wj) 0 0 (fun _ => 0) 0 ⟨#[]⟩ ⟨#[]⟩ 0 0 28 gq Gq.out
      have rg := Gq.out
      have rv := V.out
      go_simp
      clear rg rv
      refine hK.out _ _ ?_ (fun hHeld => ?_)
      · exact (hZ).1.trans xv
      clear hK K
      (try simp only [Act.put, List.setIfInBounds_toArray, List.set_cons_zero, List.set_cons_succ])
      have hj := J78b (0, g7, gq, 0, 0, g11) v ((hZ).ins (a := [g7]) (b := [g11]) xv Gq.out bv)
      simp only [putAll, Act.put, List.setIfInBounds_toArray, List.set_cons_zero, List.set_cons_succ] at hj
      exact hj
    refine armL_ (i := 9) (N := some 5) #[true, true, true, true, true, true, false, true, false, true, false, true, false, false, false, false, false, false] rfl rfl (by kernel_rfl) (by simp) (fun K hK => ?_) ?_
    · obtain ⟨gq, Gq⟩ : ∃ g, Hid ((World.heap (wj)).size = g) := ⟨_, Lib.hid rfl⟩
      obtain ⟨v, V, -, xv, bv⟩ := allocS (wj) 0 0 (fun _ => 0) 0 ⟨#[]⟩ ⟨#[]⟩ 0 0 28 gq Gq.out
      have rg := Gq.out
      have rv := V.out
      go_simp
      clear rg rv
      refine hK.out _ _ ?_ (fun hHeld => ?_)
      · exact (hZ).1.trans xv
      clear hK K
      (try simp only [Act.put, List.setIfInBounds_toArray, List.set_cons_zero, List.set_cons_succ])
      have hj := J79b (0, g7, 0, gq, 0, g11) v ((hZ).ins (a := [g7]) (b := [g11]) xv Gq.out bv)
      simp only [putAll, Act.put, List.setIfInBounds_toArray, List.set_cons_zero, List.set_cons_succ] at hj
      exact hj
    refine armL_ (i := 10) (N := some 6) #[true, true, true, true, true, true, false, true, false, false, true, true, false, false, false, false, false, false] rfl rfl (by kernel_rfl) (by simp) (fun K hK => ?_) ?_
    · obtain ⟨gq, Gq⟩ : ∃ g, Hid ((World.heap (wj)).size = g) := ⟨_, Lib.hid rfl⟩
      obtain ⟨v, V, -, xv, bv⟩ := allocS (wj) 0 0 (fun _ => 0) 0 ⟨#[]⟩ ⟨#[]⟩ 0 0 28 gq Gq.out
      have rg := Gq.out
      have rv := V.out
      go_simp
      clear rg rv
      refine hK.out _ _ ?_ (fun hHeld => ?_)
      · exact (hZ).1.trans xv
      clear hK K
      (try simp only [Act.put, List.setIfInBounds_toArray, List.set_cons_zero, List.set_cons_succ])
      have hj := J7ab (0, g7, 0, 0, gq, g11) v ((hZ).ins (a := [g7]) (b := [g11]) xv Gq.out bv)
      simp only [putAll, Act.put, List.setIfInBounds_toArray, List.set_cons_zero, List.set_cons_succ] at hj
      exact hj
    exact AllReadyL.nil
  intro J7b
  refine join_ (σ := Nat × Nat × Nat × Nat × Nat × Nat) 10 #[true, true, true, true, true, true, false, false, true, true, false, false, false, false, false, false, false, false] (fun s => [(4, .pointer (some ⟨s.2.2.1, 0, none⟩)), (5, .pointer (some ⟨s.2.2.2.1, 0, none⟩))]) (fun s W => Zks z1 W [s.2.2.1, s.2.2.2.1]) ?_ ?_
  · rintro ⟨g6, g7, g8, g9, g10, g11⟩ wj hZ
    dsimp only at hZ
    have hHeld : Ext z1 wj := hZ.1
    simp only [putAll, Act.put, List.setIfInBounds_toArray, List.set_cons_zero, List.set_cons_succ]
    refine many_ [6, 7, 10, 11] (by kernel_rfl) (by simp) ?_
    refine armL_ (i := 6) (N := some 2) #[true, true, true, true, true, true, true, false, true, true, false, false, false, false, false, false, false, false] rfl rfl (by kernel_rfl) (by simp) (fun K hK => ?_) ?_
    · obtain ⟨gq, Gq⟩ : ∃ g, Hid ((World.heap (wj)).size = g) := ⟨_, Lib.hid rfl⟩
      obtain ⟨v, V, -, xv, bv⟩ := allocS (wj) 0 0 (fun _ => 0) 0 ⟨#[]⟩ ⟨#[]⟩ 0 0 28 gq Gq.out
      have rg := Gq.out
      have rv := V.out
      go_simp
      clear rg rv
      refine hK.out _ _ ?_ (fun hHeld => ?_)
      · exact (hZ).1.trans xv
      clear hK K
      (try simp only [Act.put, List.setIfInBounds_toArray, List.set_cons_zero, List.set_cons_succ])
      have hj := J689 (gq, 0, g8, g9, 0, 0) v ((hZ).ins (a := []) (b := [g8, g9]) xv Gq.out bv)
      simp only [putAll, Act.put, List.setIfInBounds_toArray, List.set_cons_zero, List.set_cons_succ] at hj
      exact hj
    refine armL_ (i := 7) (N := some 3) #[true, true, true, true, true, true, false, true, true, true, false, false, false, false, false, false, false, false] rfl rfl (by kernel_rfl) (by simp) (fun K hK => ?_) ?_
    · obtain ⟨gq, Gq⟩ : ∃ g, Hid ((World.heap (wj)).size = g) := ⟨_, Lib.hid rfl⟩
      obtain ⟨v, V, -, xv, bv⟩ := allocS (wj) 0 0 (fun _ => 0) 0 ⟨#[]⟩ ⟨#[]⟩ 0 0 28 gq Gq.out
      have rg := Gq.out
      have rv := V.out
      go_simp
      clear rg rv
      refine hK.out _ _ ?_ (fun hHeld => ?_)
      · exact (hZ).1.trans xv
      clear hK K
      (try simp only [Act.put, List.setIfInBounds_toArray, List.set_cons_zero, List.set_cons_succ])
      have hj := J789 (0, gq, g8, g9, 0, 0) v ((hZ).ins (a := []) (b := [g8, g9]) xv Gq.out bv)
      simp only [putAll, Act.put, List.setIfInBounds_toArray, List.set_cons_zero, List.set_cons_succ] at hj
      exact hj
    refine armL_ (i := 10) (N := some 6) #[true, true, true, true, true, true, false, false, true, true, true, false, false, false, false, false, false, false] rfl rfl (by kernel_rfl) (by simp) (fun K hK => ?_) ?_
    · obtain ⟨gq, Gq⟩ : ∃ g, Hid ((World.heap (wj)).size = g) := ⟨_, Lib.hid rfl⟩
      obtain ⟨v, V, -, xv, bv⟩ := allocS (wj) 0 0 (fun _ => 0) 0 ⟨#[]⟩ ⟨#[]⟩ 0 0 28 gq Gq.out
      have rg := Gq.out
      have rv := V.out
      go_simp
      clear rg rv
      refine hK.out _ _ ?_ (fun hHeld => ?_)
      · exact (hZ).1.trans xv
      clear hK K
      (try simp only [Act.put, List.setIfInBounds_toArray, List.set_cons_zero, List.set_cons_succ])
      have hj := J89a (0, 0, g8, g9, gq, 0) v ((hZ).ins (a := [g8, g9]) (b := []) xv Gq.out bv)
      simp only [putAll, Act.put, List.setIfInBounds_toArray, List.set_cons_zero, List.set_cons_succ] at hj
      exact hj
    refine armL_ (i := 11) (N := some 7) #[true, true, true, true, true, true, false, false, true, true, false, true, false, false, false, false, false, false] rfl rfl (by kernel_rfl) (by simp) (fun K hK => ?_) ?_
    · obtain ⟨gq, Gq⟩ : ∃ g, Hid ((World.heap (wj)).size = g) := ⟨_, Lib.hid rfl⟩
      obtain ⟨v, V, -, xv, bv⟩ := allocS (wj) 0 0 (fun _ => 0) 0 ⟨#[]⟩ ⟨#[]⟩ 0 0 28 gq Gq.out
      have rg := Gq.out
      have rv := V.out
      go_simp
      clear rg rv
      refine hK.out _ _ ?_ (fun hHeld => ?_)
      · exact (hZ).1.trans xv
      clear hK K
      (try simp only [Act.put, List.setIfInBounds_toArray, List.set_cons_zero, List.set_cons_succ])
      have hj := J89b (0, 0, g8, g9, 0, gq) v ((hZ).ins (a := [g8, g9]) (b := []) xv Gq.out bv)
      simp only [putAll, Act.put, List.setIfInBounds_toArray, List.set_cons_zero, List.set_cons_succ] at hj
      exact hj
    exact AllReadyL.nil
  intro J89
  refine join_ (σ := Nat × Nat × Nat × Nat × Nat × Nat) 10 #[true, true, true, true, true, true, false, false, true, false, true, false, false, false, false, false, false, false] (fun s => [(4, .pointer (some ⟨s.2.2.1, 0, none⟩)), (6, .pointer (some ⟨s.2.2.2.2.1, 0, none⟩))]) (fun s W => Zks z1 W [s.2.2.1, s.2.2.2.2.1]) ?_ ?_
  · rintro ⟨g6, g7, g8, g9, g10, g11⟩ wj hZ
    dsimp only at hZ
    have hHeld : Ext z1 wj := hZ.1
    simp only [putAll, Act.put, List.setIfInBounds_toArray, List.set_cons_zero, List.set_cons_succ]
    refine many_ [6, 7, 9, 11] (by kernel_rfl) (by simp) ?_
    refine armL_ (i := 6) (N := some 2) #[true, true, true, true, true, true, true, false, true, false, true, false, false, false, false, false, false, false] rfl rfl (by kernel_rfl) (by simp) (fun K hK => ?_) ?_
    · obtain ⟨gq, Gq⟩ : ∃ g, Hid ((World.heap (wj)).size = g) := ⟨_, Lib.hid rfl⟩
      obtain ⟨v, V, -, xv, bv⟩ := allocS (wj) 0 0 (fun _ => 0) 0 ⟨#[]⟩ ⟨#[]⟩ 0 0 28 gq Gq.out
      have rg := Gq.out
      have rv := V.out
      go_simp
      clear rg rv
      refine hK.out _ _ ?_ (fun hHeld => ?_)
      · exact (hZ).1.trans xv
      clear hK K
      (try simp only [Act.put, List.setIfInBounds_toArray, List.set_cons_zero, List.set_cons_succ])
      have hj := J68a (gq, 0, g8, 0, g10, 0) v ((hZ).ins (a := []) (b := [g8, g10]) xv Gq.out bv)
      simp only [putAll, Act.put, List.setIfInBounds_toArray, List.set_cons_zero, List.set_cons_succ] at hj
      exact hj
    refine armL_ (i := 7) (N := some 3) #[true, true, true, true, true, true, false, true, true, false, true, false, false, false, false, false, false, false] rfl rfl (by kernel_rfl) (by simp) (fun K hK => ?_) ?_
    · obtain ⟨gq, Gq⟩ : ∃ g, Hid ((World.heap (wj)).size = g) := ⟨_, Lib.hid rfl⟩
      obtain ⟨v, V, -, xv, bv⟩ := allocS (wj) 0 0 (fun _ => 0) 0 ⟨#[]⟩ ⟨#[]⟩ 0 0 28 gq Gq.out
      have rg := Gq.out
      have rv := V.out
      go_simp
      clear rg rv
      refine hK.out _ _ ?_ (fun hHeld => ?_)
      · exact (hZ).1.trans xv
      clear hK K
      (try simp only [Act.put, List.setIfInBounds_toArray, List.set_cons_zero, List.set_cons_succ])
      have hj := J78a (0, gq, g8, 0, g10, 0) v ((hZ).ins (a := []) (b := [g8, g10]) xv Gq.out bv)
      simp only [putAll, Act.put, List.setIfInBounds_toArray, List.set_cons_zero, List.set_cons_succ] at hj
      exact hj
    refine armL_ (i := 9) (N := some 5) #[true, true, true, true, true, true, false, false, true, true, true, false, false, false, false, false, false, false] rfl rfl (by kernel_rfl) (by simp) (fun K hK => ?_) ?_
    · obtain ⟨gq, Gq⟩ : ∃ g, Hid ((World.heap (wj)).size = g) := ⟨_, Lib.hid rfl⟩
      obtain ⟨v, V, -, xv, bv⟩ := allocS (wj) 0 0 (fun _ => 0) 0 ⟨#[]⟩ ⟨#[]⟩ 0 0 28 gq Gq.out
      have rg := Gq.out
      have rv := V.out
      go_simp
      clear rg rv
      refine hK.out _ _ ?_ (fun hHeld => ?_)
      · exact (hZ).1.trans xv
      clear hK K
      (try simp only [Act.put, List.setIfInBounds_toArray, List.set_cons_zero, List.set_cons_succ])
      have hj := J89a (0, 0, g8, gq, g10, 0) v ((hZ).ins (a := [g8]) (b := [g10]) xv Gq.out bv)
      simp only [putAll, Act.put, List.setIfInBounds_toArray, List.set_cons_zero, List.set_cons_succ] at hj
      exact hj
    refine armL_ (i := 11) (N := some 7) #[true, true, true, true, true, true, false, false, true, false, true, true, false, false, false, false, false, false] rfl rfl (by kernel_rfl) (by simp) (fun K hK => ?_) ?_
    · obtain ⟨gq, Gq⟩ : ∃ g, Hid ((World.heap (wj)).size = g) := ⟨_, Lib.hid rfl⟩
      obtain ⟨v, V, -, xv, bv⟩ := allocS (wj) 0 0 (fun _ => 0) 0 ⟨#[]⟩ ⟨#[]⟩ 0 0 28 gq Gq.out
      have rg := Gq.out
      have rv := V.out
      go_simp
      clear rg rv
      refine hK.out _ _ ?_ (fun hHeld => ?_)
      · exact (hZ).1.trans xv
      clear hK K
      (try simp only [Act.put, List.setIfInBounds_toArray, List.set_cons_zero, List.set_cons_succ])
      have hj := J8ab (0, 0, g8, 0, g10, gq) v ((hZ).ins (a := [g8, g10]) (b := []) xv Gq.out bv)
      simp only [putAll, Act.put, List.setIfInBounds_toArray, List.set_cons_zero, List.set_cons_succ] at hj
      exact hj
    exact AllReadyL.nil
  intro J8a
  refine join_ (σ := Nat × Nat × Nat × Nat × Nat × Nat) 10 #[true, true, true, true, true, true, false, false, true, false, false, true, false, false, false, false, false, false] (fun s => [(4, .pointer (some ⟨s.2.2.1, 0, none⟩)), (7, .pointer (some ⟨s.2.2.2.2.2, 0, none⟩))]) (fun s W => Zks z1 W [s.2.2.1, s.2.2.2.2.2]) ?_ ?_
  · rintro ⟨g6, g7, g8, g9, g10, g11⟩ wj hZ
    dsimp only at hZ
    have hHeld : Ext z1 wj := hZ.1
    simp only [putAll, Act.put, List.setIfInBounds_toArray, List.set_cons_zero, List.set_cons_succ]
    refine many_ [6, 7, 9, 10] (by kernel_rfl) (by simp) ?_
    refine armL_ (i := 6) (N := some 2) #[true, true, true, true, true, true, true, false, true, false, false, true, false, false, false, false, false, false] rfl rfl (by kernel_rfl) (by simp) (fun K hK => ?_) ?_
    · obtain ⟨gq, Gq⟩ : ∃ g, Hid ((World.heap (wj)).size = g) := ⟨_, Lib.hid rfl⟩
      obtain ⟨v, V, -, xv, bv⟩ := allocS (wj) 0 0 (fun _ => 0) 0 ⟨#[]⟩ ⟨#[]⟩ 0 0 28 gq Gq.out
      have rg := Gq.out
      have rv := V.out
      go_simp
      clear rg rv
      refine hK.out _ _ ?_ (fun hHeld => ?_)
      · exact (hZ).1.trans xv
      clear hK K
      (try simp only [Act.put, List.setIfInBounds_toArray, List.set_cons_zero, List.set_cons_succ])
      have hj := J68b (gq, 0, g8, 0, 0, g11) v ((hZ).ins (a := []) (b := [g8, g11]) xv Gq.out bv)
      simp only [putAll, Act.put, List.setIfInBounds_toArray, List.set_cons_zero, List.set_cons_succ] at hj
      exact hj
    refine armL_ (i := 7) (N := some 3) #[true, true, true, true, true, true, false, true, true, false, false, true, false, false, false, false, false, false] rfl rfl (by kernel_rfl) (by simp) (fun K hK => ?_) ?_
    · obtain ⟨gq, Gq⟩ : ∃ g, Hid ((World.heap (wj)).size = g) := ⟨_, Lib.hid rfl⟩
      obtain ⟨v, V, -, xv, bv⟩ := allocS (wj) 0 0 (fun _ => 0) 0 ⟨#[]⟩ ⟨#[]⟩ 0 0 28 gq Gq.out
      have rg := Gq.out
      have rv := V.out
      go_simp
      clear rg rv
      refine hK.out _ _ ?_ (fun hHeld => ?_)
      · exact (hZ).1.trans xv
      clear hK K
      (try simp only [Act.put, List.setIfInBounds_toArray, List.set_cons_zero, List.set_cons_succ])
      have hj := J78b (0, gq, g8, 0, 0, g11) v ((hZ).ins (a := []) (b := [g8, g11]) xv Gq.out bv)
      simp only [putAll, Act.put, List.setIfInBounds_toArray, List.set_cons_zero, List.set_cons_succ] at hj
      exact hj
    refine armL_ (i := 9) (N := some 5) #[true, true, true, true, true, true, false, false, true, true, false, true, false, false, false, false, false, false] rfl rfl (by kernel_rfl) (by simp) (fun K hK => ?_) ?_
    · obtain ⟨gq, Gq⟩ : ∃ g, Hid ((World.heap (wj)).size = g) := ⟨_, Lib.hid rfl⟩
      obtain ⟨v, V, -, xv, bv⟩ := allocS (wj) 0 0 (fun _ => 0) 0 ⟨#[]⟩ ⟨#[]⟩ 0 0 28 gq Gq.out
      have rg := Gq.out
      have rv := V.out
      go_simp
      clear rg rv
      refine hK.out _ _ ?_ (fun hHeld => ?_)
      · exact (hZ).1.trans xv
      clear hK K
      (try simp only [Act.put, List.setIfInBounds_toArray, List.set_cons_zero, List.set_cons_succ])
      have hj := J89b (0, 0, g8, gq, 0, g11) v ((hZ).ins (a := [g8]) (b := [g11]) xv Gq.out bv)
      simp only [putAll, Act.put, List.setIfInBounds_toArray, List.set_cons_zero, List.set_cons_succ] at hj
      exact hj
    refine armL_ (i := 10) (N := some 6) #[true, true, true, true, true, true, false, false, true, false, true, true, false, false, false, false, false, false] rfl rfl (by kernel_rfl) (by simp) (fun K hK => ?_) ?_
    · obtain ⟨gq, Gq⟩ : ∃ g, Hid ((World.heap (wj)).size = g) := ⟨_, Lib.hid rfl⟩
      obtain ⟨v, V, -, xv, bv⟩ := allocS (wj) 0 0 (fun _ => 0) 0 ⟨#[]⟩ ⟨#[]⟩ 0 0 28 gq Gq.out
      have rg := Gq.out
      have rv := V.out
      go_simp
      clear rg rv
      refine hK.out _ _ ?_ (fun hHeld => ?_)
      · exact (hZ).1.trans xv
      clear hK K
      (try simp only [Act.put, List.setIfInBounds_toArray, List.set_cons_zero, List.set_cons_succ])
      have hj := J8ab (0, 0, g8, 0, gq, g11) v ((hZ).ins (a := [g8]) (b := [g11]) xv Gq.out bv)
      simp only [putAll, Act.put, List.setIfInBounds_toArray, List.set_cons_zero, List.set_cons_succ] at hj
      exact hj
    exact AllReadyL.nil
  intro J8b
  refine join_ (σ := Nat × Nat × Nat × Nat × Nat × Nat) 10 #[true, true, true, true, true, true, false, false, false, true, true, false, false, false, false, false, false, false] (fun s => [(5, .pointer (some ⟨s.2.2.2.1, 0, none⟩)), (6, .pointer (some ⟨s.2.2.2.2.1, 0, none⟩))]) (fun s W => Zks z1 W [s.2.2.2.1, s.2.2.2.2.1]) ?_ ?_
  · rintro ⟨g6, g7, g8, g9, g10, g11⟩ wj hZ
    dsimp only at hZ
    have hHeld : Ext z1 wj := hZ.1
    simp only [putAll, Act.put, List.setIfInBounds_toArray, List.set_cons_zero, List.set_cons_succ]
    refine many_ [6, 7, 8, 11] (by kernel_rfl) (by simp) ?_
    refine armL_ (i := 6) (N := some 2) #[true, true, true, true, true, true, true, false, false, true, true, false, false, false, false, false, false, false] rfl rfl (by kernel_rfl) (by simp) (fun K hK => ?_) ?_
    · obtain ⟨gq, Gq⟩ : ∃ g, Hid ((World.heap (wj)).size = g) := ⟨_, Lib.hid rfl⟩
      obtain ⟨v, V, -, xv, bv⟩ := allocS (wj) 0 0 (fun _ => 0) 0 ⟨#[]⟩ ⟨#[]⟩ 0 0 28 gq Gq.out
      have rg := Gq.out
      have rv := V.out
      go_simp
      clear rg rv
      refine hK.out _ _ ?_ (fun hHeld => ?_)
      · exact (hZ).1.trans xv
      clear hK K
      (try simp only [Act.put, List.setIfInBounds_toArray, List.set_cons_zero, List.set_cons_succ])
      have hj := J69a (gq, 0, 0, g9, g10, 0) v ((hZ).ins (a := []) (b := [g9, g10]) xv Gq.out bv)
      simp only [putAll, Act.put, List.setIfInBounds_toArray, List.set_cons_zero, List.set_cons_succ] at hj
      exact hj
    refine armL_ (i := 7) (N := some 3) #[true, true, true, true, true, true, false, true, false, true, true, false, false, false, false, false, false, false] rfl rfl (by kernel_rfl) (by simp) (fun K hK => ?_) ?_
    · obtain ⟨gq, Gq⟩ : ∃ g, Hid ((World.heap (wj)).size = g) := ⟨_, Lib.hid rfl⟩
      obtain ⟨v, V, -, xv, bv⟩ := allocS (wj) 0 0 (fun _ => 0) 0 ⟨#[]⟩ ⟨#[]⟩ 0 0 28 gq Gq.out
      have rg := Gq.out
      have rv := V.out
      go_simp
      clear rg rv
      refine hK.out _ _ ?_ (fun hHeld => ?_)
      · exact (hZ).1.trans xv
      clear hK K
      (try simp only [Act.put, List.setIfInBounds_toArray, List.set_cons_zero, List.set_cons_succ])
      have hj := J79a (0, gq, 0, g9, g10, 0) v ((hZ).ins (a := []) (b := [g9, g10]) xv Gq.out bv)
      simp only [putAll, Act.put, List.setIfInBounds_toArray, List.set_cons_zero, List.set_cons_succ] at hj
      exact hj
    refine armL_ (i := 8) (N := some 4) #[true, true, true, true, true, true, false, false, true, true, true, false, false, false, false, false, false, false] rfl rfl (by kernel_rfl) (by simp) (fun K hK => ?_) ?_
    · obtain ⟨gq, Gq⟩ : ∃ g, Hid ((World.heap (wj)).size = g) := ⟨_, Lib.hid rfl⟩
      obtain ⟨v, V, -, xv, bv⟩ := allocS (wj) 0 0 (fun _ => 0) 0 ⟨#[]⟩ ⟨#[]⟩ 0 0 28 gq Gq.out
      have rg := Gq.out
      have rv := V.out
      go_simp
      clear rg rv
      refine hK.out _ _ ?_ (fun hHeld => ?_)
      · exact (hZ).1.trans xv
      clear hK K
      (try simp only [Act.put, List.setIfInBounds_toArray, List.set_cons_zero, List.set_cons_succ])
      have hj := J89a (0, 0, gq, g9, g10, 0) v ((hZ).ins (a := []) (b := [g9, g10]) xv Gq.out bv)
      simp only [putAll, Act.put, List.setIfInBounds_toArray, List.set_cons_zero, List.set_cons_succ] at hj
      exact hj
    refine armL_ (i := 11) (N := some 7) #[true, true, true, true, true, true, false, false, false, true, true, true, false, false, false, false, false, false] rfl rfl (by kernel_rfl) (by simp) (fun K hK => ?_) ?_
    · obtain ⟨gq, Gq⟩ : ∃ g, Hid ((World.heap (wj)).size = g) := ⟨_, Lib.hid rfl⟩
      obtain ⟨v, V, -, xv, bv⟩ := allocS (wj) 0 0 (fun _ => 0) 0 ⟨#[]⟩ ⟨#[]⟩ 0 0 28 gq Gq.out
      have rg := Gq.out
      have rv := V.out
      go_simp
      clear rg rv
      refine hK.out _ _ ?_ (fun hHeld => ?_)
      · exact (hZ).1.trans xv
      clear hK K
      (try simp only [Act.put, List.setIfInBounds_toArray, List.set_cons_zero, List.set_cons_succ])
      have hj := J9ab (0, 0, 0, g9, g10, gq) v ((hZ).ins (a := [g9, g10]) (b := []) xv Gq.out bv)
      simp only [putAll, Act.put, List.setIfInBounds_toArray, List.set_cons_zero, List.set_cons_succ] at hj
      exact hj
    exact AllReadyL.nil
  intro J9a
  refine join_ (σ := Nat × Nat × Nat × Nat × Nat × Nat) 10 #[true, true, true, true, true, true, false, false, false, true, false, true, false, false, false, false, false, false] (fun s => [(5, .pointer (some ⟨s.2.2.2.1, 0, none⟩)), (7, .pointer (some ⟨s.2.2.2.2.2, 0, none⟩))]) (fun s W => Zks z1 W [s.2.2.2.1, s.2.2.2.2.2]) ?_ ?_
  · rintro ⟨g6, g7, g8, g9, g10, g11⟩ wj hZ
    dsimp only at hZ
    have hHeld : Ext z1 wj := hZ.1
    simp only [putAll, Act.put, List.setIfInBounds_toArray, List.set_cons_zero, List.set_cons_succ]
    refine many_ [6, 7, 8, 10] (by kernel_rfl) (by simp) ?_
    refine armL_ (i := 6) (N := some 2) #[true, true, true, true, true, true, true, false, false, true, false, true, false, false, false, false, false, false] rfl rfl (by kernel_rfl) (by simp) (fun K hK => ?_) ?_
    · obtain ⟨gq, Gq⟩ : ∃ g, Hid ((World.heap (wj)).size = g) := ⟨_, Lib.hid rfl⟩
      obtain ⟨v, V, -, xv, bv⟩ := allocS (wj) 0 0 (fun _ => 0) 0 ⟨#[]⟩ ⟨#[]⟩ 0 0 28 gq Gq.out
      have rg := Gq.out
      have rv := V.out
      go_simp
      clear rg rv
      refine hK.out _ _ ?_ (fun hHeld => ?_)
      · exact (hZ).1.trans xv
      clear hK K
      (try simp only [Act.put, List.setIfInBounds_toArray, List.set_cons_zero, List.set_cons_succ])
      have hj := J69b (gq, 0, 0, g9, 0, g11) v ((hZ).ins (a := []) (b := [g9, g11]) xv Gq.out bv)
      simp only [putAll, Act.put, List.setIfInBounds_toArray, List.set_cons_zero, List.set_cons_succ] at hj
      exact hj
    refine armL_ (i := 7) (N := some 3) #[true, true, true, true, true, true, false, true, false, true, false, true, false, false, false, false, false, false] rfl rfl (by kernel_rfl) (by simp) (fun K hK => ?_) ?_
    · obtain ⟨gq, Gq⟩ : ∃ g, Hid ((World.heap (wj)).size = g) := ⟨_, Lib.hid rfl⟩
      obtain ⟨v, V, -, xv, bv⟩ := allocS (wj) 0 0 (fun _ => 0) 0 ⟨#[]⟩ ⟨#[]⟩ 0 0 28 gq Gq.out
      have rg := Gq.out
      have rv := V.out
      go_simp
      clear rg rv
      refine hK.out _ _ ?_ (fun hHeld => ?_)
      · exact (hZ).1.trans xv
      clear hK K
      (try simp only [Act.put, List.setIfInBounds_toArray, List.set_cons_zero, List.set_cons_succ])
      have hj := J79b (0, gq, 0, g9, 0, g11) v ((hZ).ins (a := []) (b := [g9, g11]) xv Gq.out bv)
      simp only [putAll, Act.put, List.setIfInBounds_toArray, List.set_cons_zero, List.set_cons_succ] at hj
      exact hj
    refine armL_ (i := 8) (N := some 4) #[true, true, true, true, true, true, false, false, true, true, false, true, false, false, false, false, false, false] rfl rfl (by kernel_rfl) (by simp) (fun K hK => ?_) ?_
    · obtain ⟨gq, Gq⟩ : ∃ g, Hid ((World.heap (wj)).size = g) := ⟨_, Lib.hid rfl⟩
      obtain ⟨v, V, -, xv, bv⟩ := allocS (wj) 0 0 (fun _ => 0) 0 ⟨#[]⟩ ⟨#[]⟩ 0 0 28 gq Gq.out
      have rg := Gq.out
      have rv := V.out
      go_simp
      clear rg rv
      refine hK.out _ _ ?_ (fun hHeld => ?_)
      · exact (hZ).1.trans xv
      clear hK K
      (try simp only [Act.put, List.setIfInBounds_toArray, List.set_cons_zero, List.set_cons_succ])
      have hj := J89b (0, 0, gq, g9, 0, g11) v ((hZ).ins (a := []) (b := [g9, g11]) xv Gq.out bv)
      simp only [putAll, Act.put, List.setIfInBounds_toArray, List.set_cons_zero, List.set_cons_succ] at hj
      exact hj
    refine armL_ (i := 10) (N := some 6) #[true, true, true, true, true, true, false, false, false, true, true, true, false, false, false, false, false, false] rfl rfl (by kernel_rfl) (by simp) (fun K hK => ?_) ?_
    · obtain ⟨gq, Gq⟩ : ∃ g, Hid ((World.heap (wj)).size = g) := ⟨_, Lib.hid rfl⟩
      obtain ⟨v, V, -, xv, bv⟩ := allocS (wj) 0 0 (fun _ => 0) 0 ⟨#[]⟩ ⟨#[]⟩ 0 0 28 gq Gq.out
      have rg := Gq.out
      have rv := V.out
      go_simp
      clear rg rv
      refine hK.out _ _ ?_ (fun hHeld => ?_)
      · exact (hZ).1.trans xv
      clear hK K
      (try simp only [Act.put, List.setIfInBounds_toArray, List.set_cons_zero, List.set_cons_succ])
      have hj := J9ab (0, 0, 0, g9, gq, g11) v ((hZ).ins (a := [g9]) (b := [g11]) xv Gq.out bv)
      simp only [putAll, Act.put, List.setIfInBounds_toArray, List.set_cons_zero, List.set_cons_succ] at hj
      exact hj
    exact AllReadyL.nil
  intro J9b
  refine join_ (σ := Nat × Nat × Nat × Nat × Nat × Nat) 10 #[true, true, true, true, true, true, false, false, false, false, true, true, false, false, false, false, false, false] (fun s => [(6, .pointer (some ⟨s.2.2.2.2.1, 0, none⟩)), (7, .pointer (some ⟨s.2.2.2.2.2, 0, none⟩))]) (fun s W => Zks z1 W [s.2.2.2.2.1, s.2.2.2.2.2]) ?_ ?_
  · rintro ⟨g6, g7, g8, g9, g10, g11⟩ wj hZ
    dsimp only at hZ
    have hHeld : Ext z1 wj := hZ.1
    simp only [putAll, Act.put, List.setIfInBounds_toArray, List.set_cons_zero, List.set_cons_succ]
    refine many_ [6, 7, 8, 9] (by kernel_rfl) (by simp) ?_
    refine armL_ (i := 6) (N := some 2) #[true, true, true, true, true, true, true, false, false, false, true, true, false, false, false, false, false, false] rfl rfl (by kernel_rfl) (by simp) (fun K hK => ?_) ?_
    · obtain ⟨gq, Gq⟩ : ∃ g, Hid ((World.heap (wj)).size = g) := ⟨_, Lib.hid rfl⟩
      obtain ⟨v, V, -, xv, bv⟩ := allocS (wj) 0 0 (fun _ => 0) 0 ⟨#[]⟩ ⟨#[]⟩ 0 0 28 gq Gq.out
      have rg := Gq.out
      have rv := V.out
      go_simp
      clear rg rv
      refine hK.out _ _ ?_ (fun hHeld => ?_)
      · exact (hZ).1.trans xv
      clear hK K
      (try simp only [Act.put, List.setIfInBounds_toArray, List.set_cons_zero, List.set_cons_succ])
      have hj := J6ab (gq, 0, 0, 0, g10, g11) v ((hZ).ins (a := []) (b := [g10, g11]) xv Gq.out bv)
      simp only [putAll, Act.put, List.setIfInBounds_toArray, List.set_cons_zero, List.set_cons_succ] at hj
      exact hj
    refine armL_ (i := 7) (N := some 3) #[true, true, true, true, true, true, false, true, false, false, true, true, false, false, false, false, false, false] rfl rfl (by kernel_rfl) (by simp) (fun K hK => ?_) ?_
    · obtain ⟨gq, Gq⟩ : ∃ g, Hid ((World.heap (wj)).size = g) := ⟨_, Lib.hid rfl⟩
      obtain ⟨v, V, -, xv, bv⟩ := allocS (wj) 0 0 (fun _ => 0) 0 ⟨#[]⟩ ⟨#[]⟩ 0 0 28 gq Gq.out
      have rg := Gq.out
      have rv := V.out
      go_simp
      clear rg rv
      refine hK.out _ _ ?_ (fun hHeld => ?_)
      · exact (hZ).1.trans xv
      clear hK K
      (try simp only [Act.put, List.setIfInBounds_toArray, List.set_cons_zero, List.set_cons_succ])
      have hj := J7ab (0, gq, 0, 0, g10, g11) v ((hZ).ins (a := []) (b := [g10, g11]) xv Gq.out bv)
      simp only [putAll, Act.put, List.setIfInBounds_toArray, List.set_cons_zero, List.set_cons_succ] at hj
      exact hj
    refine armL_ (i := 8) (N := some 4) #[true, true, true, true, true, true, false, false, true, false, true, true, false, false, false, false, false, false] rfl rfl (by kernel_rfl) (by simp) (fun K hK => ?_) ?_
    · obtain ⟨gq, Gq⟩ : ∃ g, Hid ((World.heap (wj)).size = g) := ⟨_, Lib.hid rfl⟩
      obtain ⟨v, V, -, xv, bv⟩ := allocS (wj) 0 0 (fun _ => 0) 0 ⟨#[]⟩ ⟨#[]⟩ 0 0 28 gq Gq.out
      have rg := Gq.out
      have rv := V.out
      go_simp
      clear rg rv
      refine hK.out _ _ ?_ (fun hHeld => ?_)
      · exact (hZ).1.trans xv
      clear hK K
      (try simp only [Act.put, List.setIfInBounds_toArray, List.set_cons_zero, List.set_cons_succ])
      have hj := J8ab (0, 0, gq, 0, g10, g11) v ((hZ).ins (a := []) (b := [g10, g11]) xv Gq.out bv)
      simp only [putAll, Act.put, List.setIfInBounds_toArray, List.set_cons_zero, List.set_cons_succ] at hj
      exact hj
    refine armL_ (i := 9) (N := some 5) #[true, true, true, true, true, true, false, false, false, true, true, true, false, false, false, false, false, false] rfl rfl (by kernel_rfl) (by simp) (fun K hK => ?_) ?_
    · obtain ⟨gq, Gq⟩ : ∃ g, Hid ((World.heap (wj)).size = g) := ⟨_, Lib.hid rfl⟩
      obtain ⟨v, V, -, xv, bv⟩ := allocS (wj) 0 0 (fun _ => 0) 0 ⟨#[]⟩ ⟨#[]⟩ 0 0 28 gq Gq.out
      have rg := Gq.out
      have rv := V.out
      go_simp
      clear rg rv
      refine hK.out _ _ ?_ (fun hHeld => ?_)
      · exact (hZ).1.trans xv
      clear hK K
      (try simp only [Act.put, List.setIfInBounds_toArray, List.set_cons_zero, List.set_cons_succ])
      have hj := J9ab (0, 0, 0, gq, g10, g11) v ((hZ).ins (a := []) (b := [g10, g11]) xv Gq.out bv)
      simp only [putAll, Act.put, List.setIfInBounds_toArray, List.set_cons_zero, List.set_cons_succ] at hj
      exact hj
    exact AllReadyL.nil
  intro Jab
  refine join_ (σ := Nat × Nat × Nat × Nat × Nat × Nat) 11 #[true, true, true, true, true, true, true, false, false, false, false, false, false, false, false, false, false, false] (fun s => [(2, .pointer (some ⟨s.1, 0, none⟩))]) (fun s W => Zks z1 W [s.1]) ?_ ?_
  · rintro ⟨g6, g7, g8, g9, g10, g11⟩ wj hZ
    dsimp only at hZ
    have hHeld : Ext z1 wj := hZ.1
    simp only [putAll, Act.put, List.setIfInBounds_toArray, List.set_cons_zero, List.set_cons_succ]
    refine many_ [7, 8, 9, 10, 11] (by kernel_rfl) (by simp) ?_
    refine armL_ (i := 7) (N := some 3) #[true, true, true, true, true, true, true, true, false, false, false, false, false, false, false, false, false, false] rfl rfl (by kernel_rfl) (by simp) (fun K hK => ?_) ?_
    · obtain ⟨gq, Gq⟩ : ∃ g, Hid ((World.heap (wj)).size = g) := ⟨_, Lib.hid rfl⟩
      obtain ⟨v, V, -, xv, bv⟩ := allocS (wj) 0 0 (fun _ => 0) 0 ⟨#[]⟩ ⟨#[]⟩ 0 0 28 gq Gq.out
      have rg := Gq.out
      have rv := V.out
      go_simp
      clear rg rv
      refine hK.out _ _ ?_ (fun hHeld => ?_)
      · exact (hZ).1.trans xv
      clear hK K
      (try simp only [Act.put, List.setIfInBounds_toArray, List.set_cons_zero, List.set_cons_succ])
      have hj := J67 (g6, gq, 0, 0, 0, 0) v ((hZ).ins (a := [g6]) (b := []) xv Gq.out bv)
      simp only [putAll, Act.put, List.setIfInBounds_toArray, List.set_cons_zero, List.set_cons_succ] at hj
      exact hj
    refine armL_ (i := 8) (N := some 4) #[true, true, true, true, true, true, true, false, true, false, false, false, false, false, false, false, false, false] rfl rfl (by kernel_rfl) (by simp) (fun K hK => ?_) ?_
    · obtain ⟨gq, Gq⟩ : ∃ g, Hid ((World.heap (wj)).size = g) := ⟨_, Lib.hid rfl⟩
      obtain ⟨v, V, -, xv, bv⟩ := allocS (wj) 0 0 (fun _ => 0) 0 ⟨#[]⟩ ⟨#[]⟩ 0 0 28 gq Gq.out
      have rg := Gq.out
      have rv := V.out
      go_simp
      clear rg rv
      refine hK.out _ _ ?_ (fun hHeld => ?_)
      · exact (hZ).1.trans xv
      clear hK K
      (try simp only [Act.put, List.setIfInBounds_toArray, List.set_cons_zero, List.set_cons_succ])
      have hj := J68 (g6, 0, gq, 0, 0, 0) v ((hZ).ins (a := [g6]) (b := []) xv Gq.out bv)
      simp only [putAll, Act.put, List.setIfInBounds_toArray, List.set_cons_zero, List.set_cons_succ] at hj
      exact hj
    refine armL_ (i := 9) (N := some 5) #[true, true, true, true, true, true, true, false, false, true, false, false, false, false, false, false, false, false] rfl rfl (by kernel_rfl) (by simp) (fun K hK => ?_) ?_
    · obtain ⟨gq, Gq⟩ : ∃ g, Hid ((World.heap (wj)).size = g) := ⟨_, Lib.hid rfl⟩
      obtain ⟨v, V, -, xv, bv⟩ := allocS (wj) 0 0 (fun _ => 0) 0 ⟨#[]⟩ ⟨#[]⟩ 0 0 28 gq Gq.out
      have rg := Gq.out
      have rv := V.out
      go_simp
      clear rg rv
      refine hK.out _ _ ?_ (fun hHeld => ?_)
      · exact (hZ).1.trans xv
      clear hK K
      (try simp only [Act.put, List.setIfInBounds_toArray, List.set_cons_zero, List.set_cons_succ])
      have hj := J69 (g6, 0, 0, gq, 0, 0) v ((hZ).ins (a := [g6]) (b := []) xv Gq.out bv)
      simp only [putAll, Act.put, List.setIfInBounds_toArray, List.set_cons_zero, List.set_cons_succ] at hj
      exact hj
    refine armL_ (i := 10) (N := some 6) #[true, true, true, true, true, true, true, false, false, false, true, false, false, false, false, false, false, false] rfl rfl (by kernel_rfl) (by simp) (fun K hK => ?_) ?_
    · obtain ⟨gq, Gq⟩ : ∃ g, Hid ((World.heap (wj)).size = g) := ⟨_, Lib.hid rfl⟩
      obtain ⟨v, V, -, xv, bv⟩ := allocS (wj) 0 0 (fun _ => 0) 0 ⟨#[]⟩ ⟨#[]⟩ 0 0 28 gq Gq.out
      have rg := Gq.out
      have rv := V.out
      go_simp
      clear rg rv
      refine hK.out _ _ ?_ (fun hHeld => ?_)
      · exact (hZ).1.trans xv
      clear hK K
      (try simp only [Act.put, List.setIfInBounds_toArray, List.set_cons_zero, List.set_cons_succ])
      have hj := J6a (g6, 0, 0, 0, gq, 0) v ((hZ).ins (a := [g6]) (b := []) xv Gq.out bv)
      simp only [putAll, Act.put, List.setIfInBounds_toArray, List.set_cons_zero, List.set_cons_succ] at hj
      exact hj
    refine armL_ (i := 11) (N := some 7) #[true, true, true, true, true, true, true, false, false, false, false, true, false, false, false, false, false, false] rfl rfl (by kernel_rfl) (by simp) (fun K hK => ?_) ?_
    · obtain ⟨gq, Gq⟩ : ∃ g, Hid ((World.heap (wj)).size = g) := ⟨_, Lib.hid rfl⟩
      obtain ⟨v, V, -, xv, bv⟩ := allocS (wj) 0 0 (fun _ => 0) 0 ⟨#[]⟩ ⟨#[]⟩ 0 0 28 gq Gq.out
      have rg := Gq.out
      have rv := V.out
      go_simp
      clear rg rv
      refine hK.out _ _ ?_ (fun hHeld => ?_)
      · exact (hZ).1.trans xv
      clear hK K
      (try simp only [Act.put, List.setIfInBounds_toArray, List.set_cons_zero, List.set_cons_succ])
      have hj := J6b (g6, 0, 0, 0, 0, gq) v ((hZ).ins (a := [g6]) (b := []) xv Gq.out bv)
      simp only [putAll, Act.put, List.setIfInBounds_toArray, List.set_cons_zero, List.set_cons_succ] at hj
      exact hj
    exact AllReadyL.nil
  intro J6
  refine join_ (σ := Nat × Nat × Nat × Nat × Nat × Nat) 11 #[true, true, true, true, true, true, false, true, false, false, false, false, false, false, false, false, false, false] (fun s => [(3, .pointer (some ⟨s.2.1, 0, none⟩))]) (fun s W => Zks z1 W [s.2.1]) ?_ ?_
  · rintro ⟨g6, g7, g8, g9, g10, g11⟩ wj hZ
    dsimp only at hZ
    have hHeld : Ext z1 wj := hZ.1
    simp only [putAll, Act.put, List.setIfInBounds_toArray, List.set_cons_zero, List.set_cons_succ]
    refine many_ [6, 8, 9, 10, 11] (by kernel_rfl) (by simp) ?_
    refine armL_ (i := 6) (N := some 2) #[true, true, true, true, true, true, true, true, false, false, false, false, false, false, false, false, false, false] rfl rfl (by kernel_rfl) (by simp) (fun K hK => ?_) ?_
    · obtain ⟨gq, Gq⟩ : ∃ g, Hid ((World.heap (wj)).size = g) := ⟨_, Lib.hid rfl⟩
      obtain ⟨v, V, -, xv, bv⟩ := allocS (wj) 0 0 (fun _ => 0) 0 ⟨#[]⟩ ⟨#[]⟩ 0 0 28 gq Gq.out
      have rg := Gq.out
      have rv := V.out
      go_simp
      clear rg rv
      refine hK.out _ _ ?_ (fun hHeld => ?_)
      · exact (hZ).1.trans xv
      clear hK K
      (try simp only [Act.put, List.setIfInBounds_toArray, List.set_cons_zero, List.set_cons_succ])
      have hj := J67 (gq, g7, 0, 0, 0, 0) v ((hZ).ins (a := []) (b := [g7]) xv Gq.out bv)
      simp only [putAll, Act.put, List.setIfInBounds_toArray, List.set_cons_zero, List.set_cons_succ] at hj
      exact hj
    refine armL_ (i := 8) (N := some 4) #[true, true, true, true, true, true, false, true, true, false, false, false, false, false, false, false, false, false] rfl rfl (by kernel_rfl) (by simp) (fun K hK => ?_) ?_
    · obtain ⟨gq, Gq⟩ : ∃ g, Hid ((World.heap (wj)).size = g) := ⟨_, Lib.hid rfl⟩
      obtain ⟨v, V, -, xv, bv⟩ := allocS (wj) 0 0 (fun _ => 0) 0 ⟨#[]⟩ ⟨#[]⟩ 0 0 28 gq Gq.out
      have rg := Gq.out
      have rv := V.out
      go_simp
      clear rg rv
      refine hK.out _ _ ?_ (fun hHeld => ?_)
      · exact (hZ).1.trans xv
      clear hK K
      (try simp only [Act.put, List.setIfInBounds_toArray, List.set_cons_zero, List.set_cons_succ])
      have hj := J78 (0, g7, gq, 0, 0, 0) v ((hZ).ins (a := [g7]) (b := []) xv Gq.out bv)
      simp only [putAll, Act.put, List.setIfInBounds_toArray, List.set_cons_zero, List.set_cons_succ] at hj
      exact hj
    refine armL_ (i := 9) (N := some 5) #[true, true, true, true, true, true, false, true, false, true, false, false, false, false, false, false, false, false] rfl rfl (by kernel_rfl) (by simp) (fun K hK => ?_) ?_
    · obtain ⟨gq, Gq⟩ : ∃ g, Hid ((World.heap (wj)).size = g) := ⟨_, Lib.hid rfl⟩
      obtain ⟨v, V, -, xv, bv⟩ := allocS (wj) 0 0 (fun _ => 0) 0 ⟨#[]⟩ ⟨#[]⟩ 0 0 28 gq Gq.out
      have rg := Gq.out
      have rv := V.out
      go_simp
      clear rg rv
      refine hK.out _ _ ?_ (fun hHeld => ?_)
      · exact (hZ).1.trans xv
      clear hK K
      (try simp only [Act.put, List.setIfInBounds_toArray, List.set_cons_zero, List.set_cons_succ])
      have hj := J79 (0, g7, 0, gq, 0, 0) v ((hZ).ins (a := [g7]) (b := []) xv Gq.out bv)
      simp only [putAll, Act.put, List.setIfInBounds_toArray, List.set_cons_zero, List.set_cons_succ] at hj
      exact hj
    refine armL_ (i := 10) (N := some 6) #[true, true, true, true, true, true, false, true, false, false, true, false, false, false, false, false, false, false] rfl rfl (by kernel_rfl) (by simp) (fun K hK => ?_) ?_
    · obtain ⟨gq, Gq⟩ : ∃ g, Hid ((World.heap (wj)).size = g) := ⟨_, Lib.hid rfl⟩
      obtain ⟨v, V, -, xv, bv⟩ := allocS (wj) 0 0 (fun _ => 0) 0 ⟨#[]⟩ ⟨#[]⟩ 0 0 28 gq Gq.out
      have rg := Gq.out
      have rv := V.out
      go_simp
      clear rg rv
      refine hK.out _ _ ?_ (fun hHeld => ?_)
      · exact (hZ).1.trans xv
      clear hK K
      (try simp only [Act.put, List.setIfInBounds_toArray, List.set_cons_zero, List.set_cons_succ])
      have hj := J7a (0, g7, 0, 0, gq, 0) v ((hZ).ins (a := [g7]) (b := []) xv Gq.out bv)
      simp only [putAll, Act.put, List.setIfInBounds_toArray, List.set_cons_zero, List.set_cons_succ] at hj
      exact hj
    refine armL_ (i := 11) (N := some 7) #[true, true, true, true, true, true, false, true, false, false, false, true, false, false, false, false, false, false] rfl rfl (by kernel_rfl) (by simp) (fun K hK => ?_) ?_
    · obtain ⟨gq, Gq⟩ : ∃ g, Hid ((World.heap (wj)).size = g) := ⟨_, Lib.hid rfl⟩
      obtain ⟨v, V, -, xv, bv⟩ := allocS (wj) 0 0 (fun _ => 0) 0 ⟨#[]⟩ ⟨#[]⟩ 0 0 28 gq Gq.out
      have rg := Gq.out
      have rv := V.out
      go_simp
      clear rg rv
      refine hK.out _ _ ?_ (fun hHeld => ?_)
      · exact (hZ).1.trans xv
      clear hK K
      (try simp only [Act.put, List.setIfInBounds_toArray, List.set_cons_zero, List.set_cons_succ])
      have hj := J7b (0, g7, 0, 0, 0, gq) v ((hZ).ins (a := [g7]) (b := []) xv Gq.out bv)
      simp only [putAll, Act.put, List.setIfInBounds_toArray, List.set_cons_zero, List.set_cons_succ] at hj
      exact hj
    exact AllReadyL.nil
  intro J7
  refine join_ (σ := Nat × Nat × Nat × Nat × Nat × Nat) 11 #[true, true, true, true, true, true, false, false, true, false, false, false, false, false, false, false, false, false] (fun s => [(4, .pointer (some ⟨s.2.2.1, 0, none⟩))]) (fun s W => Zks z1 W [s.2.2.1]) ?_ ?_
  · rintro ⟨g6, g7, g8, g9, g10, g11⟩ wj hZ
    dsimp only at hZ
    have hHeld : Ext z1 wj := hZ.1
    simp only [putAll, Act.put, List.setIfInBounds_toArray, List.set_cons_zero, List.set_cons_succ]
    refine many_ [6, 7, 9, 10, 11] (by kernel_rfl) (by simp) ?_
    refine armL_ (i := 6) (N := some 2) #[true, true, true, true, true, true, true, false, true, false, false, false, false, false, false, false, false, false] rfl rfl (by kernel_rfl) (by simp) (fun K hK => ?_) ?_
    · obtain ⟨gq, Gq⟩ : ∃ g, Hid ((World.heap (wj)).size = g) := ⟨_, Lib.hid rfl⟩
      obtain ⟨v, V, -, xv, bv⟩ := allocS (wj) 0 0 (fun _ => 0) 0 ⟨#[]⟩ ⟨#[]⟩ 0 0 28 gq Gq.out
      have rg := Gq.out
      have rv := V.out
      go_simp
      clear rg rv
      refine hK.out _ _ ?_ (fun hHeld => ?_)
      · exact (hZ).1.trans xv
      clear hK K
      (try simp only [Act.put, List.setIfInBounds_toArray, List.set_cons_zero, List.set_cons_succ])
      have hj := J68 (gq, 0, g8, 0, 0, 0) v ((hZ).ins (a := []) (b := [g8]) xv Gq.out bv)
      simp only [putAll, Act.put, List.setIfInBounds_toArray, List.set_cons_zero, List.set_cons_succ] at hj
      exact hj
    refine armL_ (i := 7) (N := some 3) #[true, true, true, true, true, true, false, true, true, false, false, false, false, false, false, false, false, false] rfl rfl (by kernel_rfl) (by simp) (fun K hK => ?_) ?_
    · obtain ⟨gq, Gq⟩ : ∃ g, Hid ((World.heap (wj)).size = g) := ⟨_, Lib.hid rfl⟩
      obtain ⟨v, V, -, xv, bv⟩ := allocS (wj) 0 0 (fun _ => 0) 0 ⟨#[]⟩ ⟨#[]⟩ 0 0 28 gq Gq.out
      have rg := Gq.out
      have rv := V.out
      go_simp
      clear rg rv
      refine hK.out _ _ ?_ (fun hHeld => ?_)
      · exact (hZ).1.trans xv
      clear hK K
      (try simp only [Act.put, List.setIfInBounds_toArray, List.set_cons_zero, List.set_cons_succ])
      have hj := J78 (0, gq, g8, 0, 0, 0) v ((hZ).ins (a := []) (b := [g8]) xv Gq.out bv)
      simp only [putAll, Act.put, List.setIfInBounds_toArray, List.set_cons_zero, List.set_cons_succ] at hj
      exact hj
    refine armL_ (i := 9) (N := some 5) #[true, true, true, true, true, true, false, false, true, true, false, false, false, false, false, false, false, false] rfl rfl (by kernel_rfl) (by simp) (fun K hK => ?_) ?_
    · obtain ⟨gq, Gq⟩ : ∃ g, Hid ((World.heap (wj)).size = g) := ⟨_, Lib.hid rfl⟩
      obtain ⟨v, V, -, xv, bv⟩ := allocS (wj) 0 0 (fun _ => 0) 0 ⟨#[]⟩ ⟨#[]⟩ 0 0 28 gq Gq.out
      have rg := Gq.out
      have rv := V.out
      go_simp
      clear rg rv
      refine hK.out _ _ ?_ (fun hHeld => ?_)
      · exact (hZ).1.trans xv
      clear hK K
      (try simp only [Act.put, List.setIfInBounds_toArray, List.set_cons_zero, List.set_cons_succ])
      have hj := J89 (0, 0, g8, gq, 0, 0) v ((hZ).ins (a := [g8]) (b := []) xv Gq.out bv)
      simp only [putAll, Act.put, List.setIfInBounds_toArray, List.set_cons_zero, List.set_cons_succ] at hj
      exact hj
    refine armL_ (i := 10) (N := some 6) #[true, true, true, true, true, true, false, false, true, false, true, false, false, false, false, false, false, false] rfl rfl (by kernel_rfl) (by simp) (fun K hK => ?_) ?_
    · obtain ⟨gq, Gq⟩ : ∃ g, Hid ((World.heap (wj)).size = g) := ⟨_, Lib.hid rfl⟩
      obtain ⟨v, V, -, xv, bv⟩ := allocS (wj) 0 0 (fun _ => 0) 0 ⟨#[]⟩ ⟨#[]⟩ 0 0 28 gq Gq.out
      have rg := Gq.out
      have rv := V.out
      go_simp
      clear rg rv
      refine hK.out _ _ ?_ (fun hHeld => ?_)
      · exact (hZ).1.trans xv
      clear hK K
      (try simp only [Act.put, List.setIfInBounds_toArray, List.set_cons_zero, List.set_cons_succ])
      have hj := J8a (0, 0, g8, 0, gq, 0) v ((hZ).ins (a := [g8]) (b := []) xv Gq.out bv)
      simp only [putAll, Act.put, List.setIfInBounds_toArray, List.set_cons_zero, List.set_cons_succ] at hj
      exact hj
    refine armL_ (i := 11) (N := some 7) #[true, true, true, true, true, true, false, false, true, false, false, true, false, false, false, false, false, false] rfl rfl (by kernel_rfl) (by simp) (fun K hK => ?_) ?_
    · obtain ⟨gq, Gq⟩ : ∃ g, Hid ((World.heap (wj)).size = g) := ⟨_, Lib.hid rfl⟩
      obtain ⟨v, V, -, xv, bv⟩ := allocS (wj) 0 0 (fun _ => 0) 0 ⟨#[]⟩ ⟨#[]⟩ 0 0 28 gq Gq.out
      have rg := Gq.out
      have rv := V.out
      go_simp
      clear rg rv
      refine hK.out _ _ ?_ (fun hHeld => ?_)
      · exact (hZ).1.trans xv
      clear hK K
      (try simp only [Act.put, List.setIfInBounds_toArray, List.set_cons_zero, List.set_cons_succ])
      have hj := J8b (0, 0, g8, 0, 0, gq) v ((hZ).ins (a := [g8]) (b := []) xv Gq.out bv)
      simp only [putAll, Act.put, List.setIfInBounds_toArray, List.set_cons_zero, List.set_cons_succ] at hj
      exact hj
    exact AllReadyL.nil
  intro J8
  refine join_ (σ := Nat × Nat × Nat × Nat × Nat × Nat) 11 #[true, true, true, true, true, true, false, false, false, true, false, false, false, false, false, false, false, false] (fun s => [(5, .pointer (some ⟨s.2.2.2.1, 0, none⟩))]) (fun s W => Zks z1 W [s.2.2.2.1]) ?_ ?_
  · rintro ⟨g6, g7, g8, g9, g10, g11⟩ wj hZ
    dsimp only at hZ
    have hHeld : Ext z1 wj := hZ.1
    simp only [putAll, Act.put, List.setIfInBounds_toArray, List.set_cons_zero, List.set_cons_succ]
    refine many_ [6, 7, 8, 10, 11] (by kernel_rfl) (by simp) ?_
    refine armL_ (i := 6) (N := some 2) #[true, true, true, true, true, true, true, false, false, true, false, false, false, false, false, false, false, false] rfl rfl (by kernel_rfl) (by simp) (fun K hK => ?_) ?_
    · obtain ⟨gq, Gq⟩ : ∃ g, Hid ((World.heap (wj)).size = g) := ⟨_, Lib.hid rfl⟩
      obtain ⟨v, V, -, xv, bv⟩ := allocS (wj) 0 0 (fun _ => 0) 0 ⟨#[]⟩ ⟨#[]⟩ 0 0 28 gq Gq.out
      have rg := Gq.out
      have rv := V.out
      go_simp
      clear rg rv
      refine hK.out _ _ ?_ (fun hHeld => ?_)
      · exact (hZ).1.trans xv
      clear hK K
      (try simp only [Act.put, List.setIfInBounds_toArray, List.set_cons_zero, List.set_cons_succ])
      have hj := J69 (gq, 0, 0, g9, 0, 0) v ((hZ).ins (a := []) (b := [g9]) xv Gq.out bv)
      simp only [putAll, Act.put, List.setIfInBounds_toArray, List.set_cons_zero, List.set_cons_succ] at hj
      exact hj
    refine armL_ (i := 7) (N := some 3) #[true, true, true, true, true, true, false, true, false, true, false, false, false, false, false, false, false, false] rfl rfl (by kernel_rfl) (by simp) (fun K hK => ?_) ?_
    · obtain ⟨gq, Gq⟩ : ∃ g, Hid ((World.heap (wj)).size = g) := ⟨_, Lib.hid rfl⟩
      obtain ⟨v, V, -, xv, bv⟩ := allocS (wj) 0 0 (fun _ => 0) 0 ⟨#[]⟩ ⟨#[]⟩ 0 0 28 gq Gq.out
      have rg := Gq.out
      have rv := V.out
      go_simp
      clear rg rv
      refine hK.out _ _ ?_ (fun hHeld => ?_)
      · exact (hZ).1.trans xv
      clear hK K
      (try simp only [Act.put, List.setIfInBounds_toArray, List.set_cons_zero, List.set_cons_succ])
      have hj := J79 (0, gq, 0, g9, 0, 0) v ((hZ).ins (a := []) (b := [g9]) xv Gq.out bv)
      simp only [putAll, Act.put, List.setIfInBounds_toArray, List.set_cons_zero, List.set_cons_succ] at hj
      exact hj
    refine armL_ (i := 8) (N := some 4) #[true, true, true, true, true, true, false, false, true, true, false, false, false, false, false, false, false, false] rfl rfl (by kernel_rfl) (by simp) (fun K hK => ?_) ?_
    · obtain ⟨gq, Gq⟩ : ∃ g, Hid ((World.heap (wj)).size = g) := ⟨_, Lib.hid rfl⟩
      obtain ⟨v, V, -, xv, bv⟩ := allocS (wj) 0 0 (fun _ => 0) 0 ⟨#[]⟩ ⟨#[]⟩ 0 0 28 gq Gq.out
      have rg := Gq.out
      have rv := V.out
      go_simp
      clear rg rv
      refine hK.out _ _ ?_ (fun hHeld => ?_)
      · exact (hZ).1.trans xv
      clear hK K
      (try simp only [Act.put, List.setIfInBounds_toArray, List.set_cons_zero, List.set_cons_succ])
      have hj := J89 (0, 0, gq, g9, 0, 0) v ((hZ).ins (a := []) (b := [g9]) xv Gq.out bv)
      simp only [putAll, Act.put, List.setIfInBounds_toArray, List.set_cons_zero, List.set_cons_succ] at hj
      exact hj
    refine armL_ (i := 10) (N := some 6) #[true, true, true, true, true, true, false, false, false, true, true, false, false, false, false, false, false, false] rfl rfl (by kernel_rfl) (by simp) (fun K hK => ?_) ?_
    · obtain ⟨gq, Gq⟩ : ∃ g, Hid ((World.heap (wj)).size = g) := ⟨_, Lib.hid rfl⟩
      obtain ⟨v, V, -, xv, bv⟩ := allocS (wj) 0 0 (fun _ => 0) 0 ⟨#[]⟩ ⟨#[]⟩ 0 0 28 gq Gq.out
      have rg := Gq.out
      have rv := V.out
      go_simp
      clear rg rv
      refine hK.out _ _ ?_ (fun hHeld => ?_)
      · exact (hZ).1.trans xv
      clear hK K
      (try simp only [Act.put, List.setIfInBounds_toArray, List.set_cons_zero, List.set_cons_succ])
      have hj := J9a (0, 0, 0, g9, gq, 0) v ((hZ).ins (a := [g9]) (b := []) xv Gq.out bv)
      simp only [putAll, Act.put, List.setIfInBounds_toArray, List.set_cons_zero, List.set_cons_succ] at hj
      exact hj
    refine armL_ (i := 11) (N := some 7) #[true, true, true, true, true, true, false, false, false, true, false, true, false, false, false, false, false, false] rfl rfl (by kernel_rfl) (by simp) (fun K hK => ?_) ?_
    · obtain ⟨gq, Gq⟩ : ∃ g, Hid ((World.heap (wj)).size = g) := ⟨_, Lib.hid rfl⟩
      obtain ⟨v, V, -, xv, bv⟩ := allocS (wj) 0 0 (fun _ => 0) 0 ⟨#[]⟩ ⟨#[]⟩ 0 0 28 gq Gq.out
      have rg := Gq.out
      have rv := V.out
      go_simp
      clear rg rv
      refine hK.out _ _ ?_ (fun hHeld => ?_)
      · exact (hZ).1.trans xv
      clear hK K
      (try simp only [Act.put, List.setIfInBounds_toArray, List.set_cons_zero, List.set_cons_succ])
      have hj := J9b (0, 0, 0, g9, 0, gq) v ((hZ).ins (a := [g9]) (b := []) xv Gq.out bv)
      simp only [putAll, Act.put, List.setIfInBounds_toArray, List.set_cons_zero, List.set_cons_succ] at hj
      exact hj
    exact AllReadyL.nil
  intro J9
  refine join_ (σ := Nat × Nat × Nat × Nat × Nat × Nat) 11 #[true, true, true, true, true, true, false, false, false, false, true, false, false, false, false, false, false, false] (fun s => [(6, .pointer (some ⟨s.2.2.2.2.1, 0, none⟩))]) (fun s W => Zks z1 W [s.2.2.2.2.1]) ?_ ?_
  · rintro ⟨g6, g7, g8, g9, g10, g11⟩ wj hZ
    dsimp only at hZ
    have hHeld : Ext z1 wj := hZ.1
    simp only [putAll, Act.put, List.setIfInBounds_toArray, List.set_cons_zero, List.set_cons_succ]
    refine many_ [6, 7, 8, 9, 11] (by kernel_rfl) (by simp) ?_
    refine armL_ (i := 6) (N := some 2) #[true, true, true, true, true, true, true, false, false, false, true, false, false, false, false, false, false, false] rfl rfl (by kernel_rfl) (by simp) (fun K hK => ?_) ?_
    · obtain ⟨gq, Gq⟩ : ∃ g, Hid ((World.heap (wj)).size = g) := ⟨_, Lib.hid rfl⟩
      obtain ⟨v, V, -, xv, bv⟩ := allocS (wj) 0 0 (fun _ => 0) 0 ⟨#[]⟩ ⟨#[]⟩ 0 0 28 gq Gq.out
      have rg := Gq.out
      have rv := V.out
      go_simp
      clear rg rv
      refine hK.out _ _ ?_ (fun hHeld => ?_)
      · exact (hZ).1.trans xv
      clear hK K
      (try simp only [Act.put, List.setIfInBounds_toArray, List.set_cons_zero, List.set_cons_succ])
      have hj := J6a (gq, 0, 0, 0, g10, 0) v ((hZ).ins (a := []) (b := [g10]) xv Gq.out bv)
      simp only [putAll, Act.put, List.setIfInBounds_toArray, List.set_cons_zero, List.set_cons_succ] at hj
      exact hj
    refine armL_ (i := 7) (N := some 3) #[true, true, true, true, true, true, false, true, false, false, true, false, false, false, false, false, false, false] rfl rfl (by kernel_rfl) (by simp) (fun K hK => ?_) ?_
    · obtain ⟨gq, Gq⟩ : ∃ g, Hid ((World.heap (wj)).size = g) := ⟨_, Lib.hid rfl⟩
      obtain ⟨v, V, -, xv, bv⟩ := allocS (wj) 0 0 (fun _ => 0) 0 ⟨#[]⟩ ⟨#[]⟩ 0 0 28 gq Gq.out
      have rg := Gq.out
      have rv := V.out
      go_simp
      clear rg rv
      refine hK.out _ _ ?_ (fun hHeld => ?_)
      · exact (hZ).1.trans xv
      clear hK K
      (try simp only [Act.put, List.setIfInBounds_toArray, List.set_cons_zero, List.set_cons_succ])
      have hj := J7a (0, gq, 0, 0, g10, 0) v ((hZ).ins (a := []) (b := [g10]) xv Gq.out bv)
      simp only [putAll, Act.put, List.setIfInBounds_toArray, List.set_cons_zero, List.set_cons_succ] at hj
      exact hj
    refine armL_ (i := 8) (N := some 4) #[true, true, true, true, true, true, false, false, true, false, true, false, false, false, false, false, false, false] rfl rfl (by kernel_rfl) (by simp) (fun K hK => ?_) ?_
    · obtain ⟨gq, Gq⟩ : ∃ g, Hid ((World.heap (wj)).size = g) := ⟨_, Lib.hid rfl⟩
      obtain ⟨v, V, -, xv, bv⟩ := allocS (wj) 0 0 (fun _ => 0) 0 ⟨#[]⟩ ⟨#[]⟩ 0 0 28 gq Gq.out
      have rg := Gq.out
      have rv := V.out
      go_simp
      clear rg rv
      refine hK.out _ _ ?_ (fun hHeld => ?_)
      · exact (hZ).1.trans xv
      clear hK K
      (try simp only [Act.put, List.setIfInBounds_toArray, List.set_cons_zero, List.set_cons_succ])
      have hj := J8a (0, 0, gq, 0, g10, 0) v ((hZ).ins (a := []) (b := [g10]) xv Gq.out bv)
      simp only [putAll, Act.put, List.setIfInBounds_toArray, List.set_cons_zero, List.set_cons_succ] at hj
      exact hj
    refine armL_ (i := 9) (N := some 5) #[true, true, true, true, true, true, false, false, false, true, true, false, false, false, false, false, false, false] rfl rfl (by kernel_rfl) (by simp) (fun K hK => ?_) ?_
    · obtain ⟨gq, Gq⟩ : ∃ g, Hid ((World.heap (wj)).size = g) := ⟨_, Lib.hid rfl⟩
      obtain ⟨v, V, -, xv, bv⟩ := allocS (wj) 0 0 (fun _ => 0) 0 ⟨#[]⟩ ⟨#[]⟩ 0 0 28 gq Gq.out
      have rg := Gq.out
      have rv := V.out
      go_simp
      clear rg rv
      refine hK.out _ _ ?_ (fun hHeld => ?_)
      · exact (hZ).1.trans xv
      clear hK K
      (try simp only [Act.put, List.setIfInBounds_toArray, List.set_cons_zero, List.set_cons_succ])
      have hj := J9a (0, 0, 0, gq, g10, 0) v ((hZ).ins (a := []) (b := [g10]) xv Gq.out bv)
      simp only [putAll, Act.put, List.setIfInBounds_toArray, List.set_cons_zero, List.set_cons_succ] at hj
      exact hj
    refine armL_ (i := 11) (N := some 7) #[true, true, true, true, true, true, false, false, false, false, true, true, false, false, false, false, false, false] rfl rfl (by kernel_rfl) (by simp) (fun K hK => ?_) ?_
    · obtain ⟨gq, Gq⟩ : ∃ g, Hid ((World.heap (wj)).size = g) := ⟨_, Lib.hid rfl⟩
      obtain ⟨v, V, -, xv, bv⟩ := allocS (wj) 0 0 (fun _ => 0) 0 ⟨#[]⟩ ⟨#[]⟩ 0 0 28 gq Gq.out
      have rg := Gq.out
      have rv := V.out
      go_simp
      clear rg rv
      refine hK.out _ _ ?_ (fun hHeld => ?_)
      · exact (hZ).1.trans xv
      clear hK K
      (try simp only [Act.put, List.setIfInBounds_toArray, List.set_cons_zero, List.set_cons_succ])
      have hj := Jab (0, 0, 0, 0, g10, gq) v ((hZ).ins (a := [g10]) (b := []) xv Gq.out bv)
      simp only [putAll, Act.put, List.setIfInBounds_toArray, List.set_cons_zero, List.set_cons_succ] at hj
      exact hj
    exact AllReadyL.nil
  intro Ja
  refine join_ (σ := Nat × Nat × Nat × Nat × Nat × Nat) 11 #[true, true, true, true, true, true, false, false, false, false, false, true, false, false, false, false, false, false] (fun s => [(7, .pointer (some ⟨s.2.2.2.2.2, 0, none⟩))]) (fun s W => Zks z1 W [s.2.2.2.2.2]) ?_ ?_
  · rintro ⟨g6, g7, g8, g9, g10, g11⟩ wj hZ
    dsimp only at hZ
    have hHeld : Ext z1 wj := hZ.1
    simp only [putAll, Act.put, List.setIfInBounds_toArray, List.set_cons_zero, List.set_cons_succ]
    refine many_ [6, 7, 8, 9, 10] (by kernel_rfl) (by simp) ?_
    refine armL_ (i := 6) (N := some 2) #[true, true, true, true, true, true, true, false, false, false, false, true, false, false, false, false, false, false] rfl rfl (by kernel_rfl) (by simp) (fun K hK => ?_) ?_
    · obtain ⟨gq, Gq⟩ : ∃ g, Hid ((World.heap (wj)).size = g) := ⟨_, Lib.hid rfl⟩
      obtain ⟨v, V, -, xv, bv⟩ := allocS (wj) 0 0 (fun _ => 0) 0 ⟨#[]⟩ ⟨#[]⟩ 0 0 28 gq Gq.out
      have rg := Gq.out
      have rv := V.out
      go_simp
      clear rg rv
      refine hK.out _ _ ?_ (fun hHeld => ?_)
      · exact (hZ).1.trans xv
      clear hK K
      (try simp only [Act.put, List.setIfInBounds_toArray, List.set_cons_zero, List.set_cons_succ])
      have hj := J6b (gq, 0, 0, 0, 0, g11) v ((hZ).ins (a := []) (b := [g11]) xv Gq.out bv)
      simp only [putAll, Act.put, List.setIfInBounds_toArray, List.set_cons_zero, List.set_cons_succ] at hj
      exact hj
    refine armL_ (i := 7) (N := some 3) #[true, true, true, true, true, true, false, true, false, false, false, true, false, false, false, false, false, false] rfl rfl (by kernel_rfl) (by simp) (fun K hK => ?_) ?_
    · obtain ⟨gq, Gq⟩ : ∃ g, Hid ((World.heap (wj)).size = g) := ⟨_, Lib.hid rfl⟩
      obtain ⟨v, V, -, xv, bv⟩ := allocS (wj) 0 0 (fun _ => 0) 0 ⟨#[]⟩ ⟨#[]⟩ 0 0 28 gq Gq.out
      have rg := Gq.out
      have rv := V.out
      go_simp
      clear rg rv
      refine hK.out _ _ ?_ (fun hHeld => ?_)
      · exact (hZ).1.trans xv
      clear hK K
      (try simp only [Act.put, List.setIfInBounds_toArray, List.set_cons_zero, List.set_cons_succ])
      have hj := J7b (0, gq, 0, 0, 0, g11) v ((hZ).ins (a := []) (b := [g11]) xv Gq.out bv)
      simp only [putAll, Act.put, List.setIfInBounds_toArray, List.set_cons_zero, List.set_cons_succ] at hj
      exact hj
    refine armL_ (i := 8) (N := some 4) #[true, true, true, true, true, true, false, false, true, false, false, true, false, false, false, false, false, false] rfl rfl (by kernel_rfl) (by simp) (fun K hK => ?_) ?_
    · obtain ⟨gq, Gq⟩ : ∃ g, Hid ((World.heap (wj)).size = g) := ⟨_, Lib.hid rfl⟩
      obtain ⟨v, V, -, xv, bv⟩ := allocS (wj) 0 0 (fun _ => 0) 0 ⟨#[]⟩ ⟨#[]⟩ 0 0 28 gq Gq.out
      have rg := Gq.out
      have rv := V.out
      go_simp
      clear rg rv
      refine hK.out _ _ ?_ (fun hHeld => ?_)
      · exact (hZ).1.trans xv
      clear hK K
      (try simp only [Act.put, List.setIfInBounds_toArray, List.set_cons_zero, List.set_cons_succ])
      have hj := J8b (0, 0, gq, 0, 0, g11) v ((hZ).ins (a := []) (b := [g11]) xv Gq.out bv)
      simp only [putAll, Act.put, List.setIfInBounds_toArray, List.set_cons_zero, List.set_cons_succ] at hj
      exact hj
    refine armL_ (i := 9) (N := some 5) #[true, true, true, true, true, true, false, false, false, true, false, true, false, false, false, false, false, false] rfl rfl (by kernel_rfl) (by simp) (fun K hK => ?_) ?_
    · obtain ⟨gq, Gq⟩ : ∃ g, Hid ((World.heap (wj)).size = g) := ⟨_, Lib.hid rfl⟩
      obtain ⟨v, V, -, xv, bv⟩ := allocS (wj) 0 0 (fun _ => 0) 0 ⟨#[]⟩ ⟨#[]⟩ 0 0 28 gq Gq.out
      have rg := Gq.out
      have rv := V.out
      go_simp
      clear rg rv
      refine hK.out _ _ ?_ (fun hHeld => ?_)
      · exact (hZ).1.trans xv
      clear hK K
      (try simp only [Act.put, List.setIfInBounds_toArray, List.set_cons_zero, List.set_cons_succ])
      have hj := J9b (0, 0, 0, gq, 0, g11) v ((hZ).ins (a := []) (b := [g11]) xv Gq.out bv)
      simp only [putAll, Act.put, List.setIfInBounds_toArray, List.set_cons_zero, List.set_cons_succ] at hj
      exact hj
    refine armL_ (i := 10) (N := some 6) #[true, true, true, true, true, true, false, false, false, false, true, true, false, false, false, false, false, false] rfl rfl (by kernel_rfl) (by simp) (fun K hK => ?_) ?_
    · obtain ⟨gq, Gq⟩ : ∃ g, Hid ((World.heap (wj)).size = g) := ⟨_, Lib.hid rfl⟩
      obtain ⟨v, V, -, xv, bv⟩ := allocS (wj) 0 0 (fun _ => 0) 0 ⟨#[]⟩ ⟨#[]⟩ 0 0 28 gq Gq.out
      have rg := Gq.out
      have rv := V.out
      go_simp
      clear rg rv
      refine hK.out _ _ ?_ (fun hHeld => ?_)
      · exact (hZ).1.trans xv
      clear hK K
      (try simp only [Act.put, List.setIfInBounds_toArray, List.set_cons_zero, List.set_cons_succ])
      have hj := Jab (0, 0, 0, 0, gq, g11) v ((hZ).ins (a := []) (b := [g11]) xv Gq.out bv)
      simp only [putAll, Act.put, List.setIfInBounds_toArray, List.set_cons_zero, List.set_cons_succ] at hj
      exact hj
    exact AllReadyL.nil
  intro Jb
  refine many_ [6, 7, 8, 9, 10, 11] (by kernel_rfl) (by simp) ?_
  refine armL_ (i := 6) (N := some 2) #[true, true, true, true, true, true, true, false, false, false, false, false, false, false, false, false, false, false] rfl rfl (by kernel_rfl) (by simp) (fun K hK => ?_) ?_
  · obtain ⟨gq, Gq⟩ : ∃ g, Hid ((World.heap (z1.drew)).size = g) := ⟨_, Lib.hid rfl⟩
    obtain ⟨v, V, -, xv, bv⟩ := allocS (z1.drew) 0 0 (fun _ => 0) 0 ⟨#[]⟩ ⟨#[]⟩ 0 0 28 gq Gq.out
    have rg := Gq.out
    have rv := V.out
    go_simp
    clear rg rv
    refine hK.out _ _ ?_ (fun hHeld => ?_)
    · exact ((Zks.nil z1).drew).1.trans xv
    clear hK K
    (try simp only [Act.put, List.setIfInBounds_toArray, List.set_cons_zero, List.set_cons_succ])
    have hj := J6 (gq, 0, 0, 0, 0, 0) v (((Zks.nil z1).drew).ins (a := []) (b := []) xv Gq.out bv)
    simp only [putAll, Act.put, List.setIfInBounds_toArray, List.set_cons_zero, List.set_cons_succ] at hj
    exact hj
  refine armL_ (i := 7) (N := some 3) #[true, true, true, true, true, true, false, true, false, false, false, false, false, false, false, false, false, false] rfl rfl (by kernel_rfl) (by simp) (fun K hK => ?_) ?_
  · obtain ⟨gq, Gq⟩ : ∃ g, Hid ((World.heap (z1.drew)).size = g) := ⟨_, Lib.hid rfl⟩
    obtain ⟨v, V, -, xv, bv⟩ := allocS (z1.drew) 0 0 (fun _ => 0) 0 ⟨#[]⟩ ⟨#[]⟩ 0 0 28 gq Gq.out
    have rg := Gq.out
    have rv := V.out
    go_simp
    clear rg rv
    refine hK.out _ _ ?_ (fun hHeld => ?_)
    · exact ((Zks.nil z1).drew).1.trans xv
    clear hK K
    (try simp only [Act.put, List.setIfInBounds_toArray, List.set_cons_zero, List.set_cons_succ])
    have hj := J7 (0, gq, 0, 0, 0, 0) v (((Zks.nil z1).drew).ins (a := []) (b := []) xv Gq.out bv)
    simp only [putAll, Act.put, List.setIfInBounds_toArray, List.set_cons_zero, List.set_cons_succ] at hj
    exact hj
  refine armL_ (i := 8) (N := some 4) #[true, true, true, true, true, true, false, false, true, false, false, false, false, false, false, false, false, false] rfl rfl (by kernel_rfl) (by simp) (fun K hK => ?_) ?_
  · obtain ⟨gq, Gq⟩ : ∃ g, Hid ((World.heap (z1.drew)).size = g) := ⟨_, Lib.hid rfl⟩
    obtain ⟨v, V, -, xv, bv⟩ := allocS (z1.drew) 0 0 (fun _ => 0) 0 ⟨#[]⟩ ⟨#[]⟩ 0 0 28 gq Gq.out
    have rg := Gq.out
    have rv := V.out
    go_simp
    clear rg rv
    refine hK.out _ _ ?_ (fun hHeld => ?_)
    · exact ((Zks.nil z1).drew).1.trans xv
    clear hK K
    (try simp only [Act.put, List.setIfInBounds_toArray, List.set_cons_zero, List.set_cons_succ])
    have hj := J8 (0, 0, gq, 0, 0, 0) v (((Zks.nil z1).drew).ins (a := []) (b := []) xv Gq.out bv)
    simp only [putAll, Act.put, List.setIfInBounds_toArray, List.set_cons_zero, List.set_cons_succ] at hj
    exact hj
  refine armL_ (i := 9) (N := some 5) #[true, true, true, true, true, true, false, false, false, true, false, false, false, false, false, false, false, false] rfl rfl (by kernel_rfl) (by simp) (fun K hK => ?_) ?_
  · obtain ⟨gq, Gq⟩ : ∃ g, Hid ((World.heap (z1.drew)).size = g) := ⟨_, Lib.hid rfl⟩
    obtain ⟨v, V, -, xv, bv⟩ := allocS (z1.drew) 0 0 (fun _ => 0) 0 ⟨#[]⟩ ⟨#[]⟩ 0 0 28 gq Gq.out
    have rg := Gq.out
    have rv := V.out
    go_simp
    clear rg rv
    refine hK.out _ _ ?_ (fun hHeld => ?_)
    · exact ((Zks.nil z1).drew).1.trans xv
    clear hK K
    (try simp only [Act.put, List.setIfInBounds_toArray, List.set_cons_zero, List.set_cons_succ])
    have hj := J9 (0, 0, 0, gq, 0, 0) v (((Zks.nil z1).drew).ins (a := []) (b := []) xv Gq.out bv)
    simp only [putAll, Act.put, List.setIfInBounds_toArray, List.set_cons_zero, List.set_cons_succ] at hj
    exact hj
  refine armL_ (i := 10) (N := some 6) #[true, true, true, true, true, true, false, false, false, false, true, false, false, false, false, false, false, false] rfl rfl (by kernel_rfl) (by simp) (fun K hK => ?_) ?_
  · obtain ⟨gq, Gq⟩ : ∃ g, Hid ((World.heap (z1.drew)).size = g) := ⟨_, Lib.hid rfl⟩
    obtain ⟨v, V, -, xv, bv⟩ := allocS (z1.drew) 0 0 (fun _ => 0) 0 ⟨#[]⟩ ⟨#[]⟩ 0 0 28 gq Gq.out
    have rg := Gq.out
    have rv := V.out
    go_simp
    clear rg rv
    refine hK.out _ _ ?_ (fun hHeld => ?_)
    · exact ((Zks.nil z1).drew).1.trans xv
    clear hK K
    (try simp only [Act.put, List.setIfInBounds_toArray, List.set_cons_zero, List.set_cons_succ])
    have hj := Ja (0, 0, 0, 0, gq, 0) v (((Zks.nil z1).drew).ins (a := []) (b := []) xv Gq.out bv)
    simp only [putAll, Act.put, List.setIfInBounds_toArray, List.set_cons_zero, List.set_cons_succ] at hj
    exact hj
  refine armL_ (i := 11) (N := some 7) #[true, true, true, true, true, true, false, false, false, false, false, true, false, false, false, false, false, false] rfl rfl (by kernel_rfl) (by simp) (fun K hK => ?_) ?_
  · obtain ⟨gq, Gq⟩ : ∃ g, Hid ((World.heap (z1.drew)).size = g) := ⟨_, Lib.hid rfl⟩
    obtain ⟨v, V, -, xv, bv⟩ := allocS (z1.drew) 0 0 (fun _ => 0) 0 ⟨#[]⟩ ⟨#[]⟩ 0 0 28 gq Gq.out
    have rg := Gq.out
    have rv := V.out
    go_simp
    clear rg rv
    refine hK.out _ _ ?_ (fun hHeld => ?_)
    · exact ((Zks.nil z1).drew).1.trans xv
    clear hK K
    (try simp only [Act.put, List.setIfInBounds_toArray, List.set_cons_zero, List.set_cons_succ])
    have hj := Jb (0, 0, 0, 0, 0, gq) v (((Zks.nil z1).drew).ins (a := []) (b := []) xv Gq.out bv)
    simp only [putAll, Act.put, List.setIfInBounds_toArray, List.set_cons_zero, List.set_cons_succ] at hj
    exact hj
  exact AllReadyL.nil
end Go.Proofs.YtlffbappgfimeaaDoor
