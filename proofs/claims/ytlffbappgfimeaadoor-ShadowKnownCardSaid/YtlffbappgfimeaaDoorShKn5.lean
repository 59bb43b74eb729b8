/- ShKn5: ShadowKnown's regions 5 to 12. -/
import Derived.Test.YtlffbappgfimeaaDoorShKn13
set_option linter.unusedVariables false
set_option linter.unusedSimpArgs false
set_option maxRecDepth 100000
namespace Go.Proofs.YtlffbappgfimeaaDoor
open Go.RowKit Go.Lib Go.Proofs.YtlffbappgfimeaaDoorW.PrintWords Go.Proofs.YtlffbappgfimeaaDoorW.PrintLast PackPure

set_option maxHeartbeats 32000000 in
theorem kn5 (w z1 y11 : World) (h1 g6 g7 g8 g9 g10 g11 : Nat) (V12 V13 V14 V15 V16 V17 V18 V19 V20 V21 V22 : Value) (hX : Ext w z1) (X11 : Ext z1 y11) (ht : Tabs w) (bz1 : BkS 28 z1 h1 1 2 (vK 3 1) 4 ⟨#[107]⟩ ⟨#[116]⟩ 0 9) (hnd : [g6, g7, g8, g9, g10, g11].Nodup)
    (b6 : BkS 28 y11 g6 1 2 (vK 3 1) 4 ⟨#[107]⟩ ⟨#[116]⟩ 0 9) (lo6 : z1.heap.size ≤ g6) (b7 : BkS 28 y11 g7 1 2 (vK 3 1) 4 ⟨#[107]⟩ ⟨#[116]⟩ 0 9) (lo7 : z1.heap.size ≤ g7) (b8 : BkS 28 y11 g8 1 2 (vK 3 1) 4 ⟨#[107]⟩ ⟨#[116]⟩ 0 9) (lo8 : z1.heap.size ≤ g8) (b9 : BkS 28 y11 g9 1 2 (vK 3 1) 4 ⟨#[107]⟩ ⟨#[116]⟩ 0 9) (lo9 : z1.heap.size ≤ g9) (b10 : BkS 28 y11 g10 1 2 (vK 3 1) 4 ⟨#[107]⟩ ⟨#[116]⟩ 0 9) (lo10 : z1.heap.size ≤ g10) (b11 : BkS 28 y11 g11 1 2 (vK 3 1) 4 ⟨#[107]⟩ ⟨#[116]⟩ 0 9) (lo11 : z1.heap.size ≤ g11) :
    Code.wp Tryd.prog (right (right (right (right ((Tryd.f3.body.getD .skip)))))) (bodyPost Tryd.prog Tryd.f3 fun e w' => e = .returned (.bool true) ∧ Ext w w') { tmps := #[.bool false, .pointer (some ⟨h1, 0, none⟩), .pointer (some ⟨g6, 0, none⟩), .pointer (some ⟨g7, 0, none⟩), .pointer (some ⟨g8, 0, none⟩), .pointer (some ⟨g9, 0, none⟩), .pointer (some ⟨g10, 0, none⟩), .pointer (some ⟨g11, 0, none⟩), undef, undef, undef, undef, V12, V13, V14, V15, V16, V17, V18, V19, V20, V21, V22, undef, undef, undef, undef, undef, undef, undef, undef, undef, undef, undef, undef, undef, undef, undef, undef, undef, undef, undef, undef, undef, undef, undef, undef, undef, undef, undef, undef, undef, undef, undef, undef, undef, undef, undef, undef, undef, undef, undef, undef, undef, undef, undef, undef, undef, undef, undef, undef, undef, undef, undef, undef, undef, undef, undef, undef, undef, undef, undef, undef, undef, undef, undef, undef, undef, undef, undef, undef, undef, undef, undef, undef, undef, undef, undef, undef, undef, undef, undef, undef, undef, undef, undef, undef], defers := [] } y11 := by
  delta Tryd.f3
  dsimp only [right, Option.getD_some]
  simp only [List.nodup_cons, List.mem_cons, List.not_mem_nil, or_false, not_or, List.nodup_nil, and_true, not_false_eq_true] at hnd
  obtain ⟨⟨n67, n68, n69, n6a, n6b⟩, ⟨n78, n79, n7a, n7b⟩, ⟨n89, n8a, n8b⟩, ⟨n9a, n9b⟩, nab⟩ := hnd
  obtain ⟨ZB, HZB⟩ : ∃ l, Hid (List.replicate 101 (0 : UInt8) = l) := ⟨_, Lib.hid rfl⟩
  have cu1 := b6.cell 3 _ rfl
  have fu1 := b6.fr 3
  obtain ⟨u1, Uu1⟩ : ∃ x, Hid (y11.setCell ⟨g6, 3, none⟩ (.int .i64 2) = x) := ⟨_, Lib.hid rfl⟩
  have Bu1 : But g6 y11 u1 := by rw [← Uu1.out]; exact (But.refl _ _).setCell 3 _
  have Xu1 : Ext z1 u1 := by rw [← Uu1.out]; exact X11.setCell lo6 _
  have b6' : BkS 28 u1 g6 1 2 (upd (vK 3 1) 1 2) 4 ⟨#[107]⟩ ⟨#[116]⟩ 0 9 := by rw [← Uu1.out]; exact b6.setv1 2 1 (by omega)
  clear b6
  have b6 := b6'
  clear b6'
  replace b7 := b7.but Bu1 (Ne.symm n67)
  replace b8 := b8.but Bu1 (Ne.symm n68)
  replace b9 := b9.but Bu1 (Ne.symm n69)
  replace b10 := b10.but Bu1 (Ne.symm n6a)
  replace b11 := b11.but Bu1 (Ne.symm n6b)
  have cu2 := b7.cell 10 _ rfl
  have fu2 := b7.fr 10
  obtain ⟨u2, Uu2⟩ : ∃ x, Hid (u1.setCell ⟨g7, 10, none⟩ (.string ⟨#[]⟩) = x) := ⟨_, Lib.hid rfl⟩
  have Bu2 : But g7 u1 u2 := by rw [← Uu2.out]; exact (But.refl _ _).setCell 10 _
  have Xu2 : Ext z1 u2 := by rw [← Uu2.out]; exact Xu1.setCell lo7 _
  have b7' : BkS 28 u2 g7 1 2 (vK 3 1) 4 ⟨#[]⟩ ⟨#[116]⟩ 0 9 := by rw [← Uu2.out]; exact b7.set10 ⟨#[]⟩
  clear b7
  have b7 := b7'
  clear b7'
  replace b6 := b6.but Bu2 n67
  replace b8 := b8.but Bu2 (Ne.symm n78)
  replace b9 := b9.but Bu2 (Ne.symm n79)
  replace b10 := b10.but Bu2 (Ne.symm n7a)
  replace b11 := b11.but Bu2 (Ne.symm n7b)
  have cu3 := b8.cell 12 _ rfl
  have fu3 := b8.fr 12
  obtain ⟨u3, Uu3⟩ : ∃ x, Hid (u2.setCell ⟨g8, 12, none⟩ (.int .i64 1) = x) := ⟨_, Lib.hid rfl⟩
  have Bu3 : But g8 u2 u3 := by rw [← Uu3.out]; exact (But.refl _ _).setCell 12 _
  have Xu3 : Ext z1 u3 := by rw [← Uu3.out]; exact Xu2.setCell lo8 _
  have b8' : BkS 28 u3 g8 1 2 (vK 3 1) 4 ⟨#[107]⟩ ⟨#[116]⟩ 1 9 := by rw [← Uu3.out]; exact b8.set12 1
  clear b8
  have b8 := b8'
  clear b8'
  replace b6 := b6.but Bu3 n68
  replace b7 := b7.but Bu3 n78
  replace b9 := b9.but Bu3 (Ne.symm n89)
  replace b10 := b10.but Bu3 (Ne.symm n8a)
  replace b11 := b11.but Bu3 (Ne.symm n8b)
  have cu4 := b9.cell 9 _ rfl
  have fu4 := b9.fr 9
  obtain ⟨u4, Uu4⟩ : ∃ x, Hid (u3.setCell ⟨g9, 9, none⟩ (.int .i64 5) = x) := ⟨_, Lib.hid rfl⟩
  have Bu4 : But g9 u3 u4 := by rw [← Uu4.out]; exact (But.refl _ _).setCell 9 _
  have Xu4 : Ext z1 u4 := by rw [← Uu4.out]; exact Xu3.setCell lo9 _
  have b9' : BkS 28 u4 g9 1 2 (vK 3 1) 5 ⟨#[107]⟩ ⟨#[116]⟩ 0 9 := by rw [← Uu4.out]; exact b9.set9 5
  clear b9
  have b9 := b9'
  clear b9'
  replace b6 := b6.but Bu4 n69
  replace b7 := b7.but Bu4 n79
  replace b8 := b8.but Bu4 n89
  replace b10 := b10.but Bu4 (Ne.symm n9a)
  replace b11 := b11.but Bu4 (Ne.symm n9b)
  obtain ⟨gb, Gb⟩ : ∃ x, Hid (u4.heap.size = x) := ⟨_, Lib.hid rfl⟩
  obtain ⟨u5, U5⟩ : ∃ x, Hid (u4.alloc (.cells (madeCells #[.int .u8 0] 101) 5) = x) := ⟨_, Lib.hid rfl⟩
  have xu5 : Ext u4 u5 := by rw [← U5.out]; exact (Ext.refl _).alloc _
  have hBm : Bs u5 (some ⟨gb, 0, none⟩) ZB := by
    obtain ⟨A, c, e1, _, h3⟩ := (Ob.made u4 u4.heap.size 101 (Nat.le_refl _) (by decide) gb Gb.out.symm).reads
    injection e1 with e1 _ _
    subst e1
    rw [U5.out, HZB.out] at h3
    exact h3
  have hcvm : (convert 29 9 (.slice (some ⟨gb, 0, none⟩) 101 101)).run Tryd.prog u5 = .ok (.string (Str ZB)) u5 := hBm.string 101 101 (by rw [← HZB.out, List.length_replicate])
  have km : ∀ W : World, (Instr.makeSlice 29 (.int .i64 101) (.int .i64 101)).run Tryd.prog W = .ok (.slice (some ⟨W.heap.size, 0, none⟩) 101 101) (W.alloc (.cells (madeCells #[.int .u8 0] 101) 5)) := make_bytes 101 (by decide)
  have Xu5 := Xu4.trans xu5
  replace b6 := b6.ext xu5
  replace b7 := b7.ext xu5
  replace b8 := b8.ext xu5
  replace b9 := b9.ext xu5
  replace b10 := b10.ext xu5
  replace b11 := b11.ext xu5
  have cu6 := b10.cell 11 _ rfl
  have fu6 := b10.fr 11
  obtain ⟨u6, Uu6⟩ : ∃ x, Hid (u5.setCell ⟨g10, 11, none⟩ (.string (Str ZB)) = x) := ⟨_, Lib.hid rfl⟩
  have Bu6 : But g10 u5 u6 := by rw [← Uu6.out]; exact (But.refl _ _).setCell 11 _
  have Xu6 : Ext z1 u6 := by rw [← Uu6.out]; exact Xu5.setCell lo10 _
  have b10' : BkS 28 u6 g10 1 2 (vK 3 1) 4 ⟨#[107]⟩ (Str ZB) 0 9 := by rw [← Uu6.out]; exact b10.set11 _
  clear b10
  have b10 := b10'
  clear b10'
  replace b6 := b6.but Bu6 n6a
  replace b7 := b7.but Bu6 n7a
  replace b8 := b8.but Bu6 n8a
  replace b9 := b9.but Bu6 n9a
  replace b11 := b11.but Bu6 (Ne.symm nab)
  have cu7 := b11.cell 9 _ rfl
  have fu7 := b11.fr 9
  obtain ⟨u7, Uu7⟩ : ∃ x, Hid (u6.setCell ⟨g11, 9, none⟩ (.int .i64 1) = x) := ⟨_, Lib.hid rfl⟩
  have Bu7 : But g11 u6 u7 := by rw [← Uu7.out]; exact (But.refl _ _).setCell 9 _
  have Xu7 : Ext z1 u7 := by rw [← Uu7.out]; exact Xu6.setCell lo11 _
  have b11' : BkS 28 u7 g11 1 2 (vK 3 1) 1 ⟨#[107]⟩ ⟨#[116]⟩ 0 9 := by rw [← Uu7.out]; exact b11.set9 1
  clear b11
  have b11 := b11'
  clear b11'
  replace b6 := b6.but Bu7 n6b
  replace b7 := b7.but Bu7 n7b
  replace b8 := b8.but Bu7 n8b
  replace b9 := b9.but Bu7 n9b
  replace b10 := b10.but Bu7 nab
  have ru1 := Uu1.out
  have ru2 := Uu2.out
  have ru3 := Uu3.out
  have ru4 := Uu4.out
  have rgb := Gb.out
  have ru5 := U5.out
  have ru6 := Uu6.out
  have ru7 := Uu7.out
  have hX7 := hX.trans Xu7
  have knil := fun W hW => get_nil W hW
  unfold shv at knil
  go_wp2_with fail
  refine (knil _ (ht.ext hX7)).mono ?_
  rintro e v1 ⟨rfl, xv1⟩
  clear rgb ru1 ru2 ru3 ru4 ru5 ru6 ru7 cu1 cu2 cu3 cu4 cu6 cu7 fu1 fu2 fu3 fu4 fu6 fu7 km hcvm knil
  obtain ⟨h2, Hh2⟩ : ∃ h, Hid (v1.heap.size = h) := ⟨_, Lib.hid rfl⟩
  obtain ⟨a2, Ha2, Sa2, xa2, ba2⟩ := allocS v1 0 0 (fun _ => 0) 0 ⟨#[]⟩ ⟨#[]⟩ 0 0 28 h2 Hh2.out
  obtain ⟨z2, Hz2, bz2, kz2, -, Sz2⟩ := putS (r' := 0) (n' := 0) (v' := (fun _ => 0)) (k' := 0) (key' := ⟨#[]⟩) (text' := ⟨#[]⟩) (b' := 0) (t' := 0) (h := ba2)
  have xz2 : Ext v1 z2 := kz2 _ xa2 (by rw [Hh2.out]; exact Nat.le_refl _)
  obtain ⟨p0, p1, p2, p3, p4, p5, p6, p7, p8, p9, p10, p11, p12, p13⟩ := ba2.cells
  obtain ⟨q0, q1, q2, q3, q4, q5, q6, q7, q8, q9, q10, q11, q12, q13⟩ := ba2.frs
  have rh := Hh2.out
  have ra := Ha2.out
  have rz := Hz2.out
  have Y2 : Ext u7 z2 := xv1.trans xz2
  have okz := (bz1.ext Xu7).ext Y2
  obtain ⟨c0, c1, c2, c3, c4, c5, c6, c7, c8, c9, c10, c11, c12, c13⟩ := okz.cells
  have hX8 := hX7.trans Y2
  have kp := fun W hW => sput_good 1 2 (vK 3 1) 4 ⟨#[107]⟩ ⟨#[116]⟩ 0 9 W kn_ok hW
  have kmore := fun A m c W h1 h2 h3 h4 => get_more A m c 1 2 (vK 3 1) 4 ⟨#[107]⟩ ⟨#[116]⟩ 0 9 0 W kn_ok h1 h2 h3 h4
  have hlb := bytes_len (facts kn_ok)
  obtain ⟨PB, HPB⟩ : ∃ x, Hid (bytesS 1 2 (vK 3 1) 4 ⟨#[107]⟩ ⟨#[116]⟩ 0 9 = x) := ⟨_, Lib.hid rfl⟩
  rw [HPB.out] at kp kmore hlb
  unfold shv at kp kmore
  go_wp2_with fail
  clear rh ra rz p0 p1 p2 p3 p4 p5 p6 p7 p8 p9 p10 p11 p12 p13 q0 q1 q2 q3 q4 q5 q6 q7 q8 q9 q10 q11 q12 q13
  refine (kp _ (ht.ext hX8)).mono ?_
  rintro e v2 ⟨A, m, c, rfl, hm, hc, hB, hO, xv2⟩
  clear c0 c1 c2 c3 c4 c5 c6 c7 c8 c9 c10 c11 c12 c13
  have Hm := Lib.hid hm
  clear hm hB hc
  go_wp2_with ((with_reducible refine gate_dst (N := 40) rfl ?_); refine halt ?_)
  refine unhalt (wp_append rfl _ _ rfl _ PB rfl (some ⟨v2.heap.size, 0, none⟩) [0] 1 1 rfl rfl z2.heap.size (hO.ext ((Ext.refl _).alloc _)) (Bs.alloc_at v2 [0] (by simp) _ (by simp [B]) _ _ _ rfl) (xv2.alloc _).size (by simp; omega) ?_)
  intro va v3 hO3 hg3 _
  have xv3 : Ext z2 v3 := (xv2.alloc _).grown (hO.ext ((Ext.refl _).alloc _)) (Nat.le_refl _) hg3
  clear hg3 hO
  obtain ⟨A3, c3, rfl, hc3, hB3⟩ := hO3.reads
  clear hO3
  obtain ⟨m3, Hm3⟩ : ∃ m, Hid ((PB ++ [0]).length = m) := ⟨_, Lib.hid rfl⟩
  rw [Hm3.out] at hc3
  rw [Hm3.out]
  go_wp2_with fail
  refine (kmore A3 m3 c3 _ hB3 Hm3.out.symm hc3 (ht.ext (hX8.trans xv3))).mono ?_
  rintro e v4 ⟨rfl, xv4⟩
  clear kmore kp
  obtain ⟨h3, Hh3⟩ : ∃ h, Hid (v4.heap.size = h) := ⟨_, Lib.hid rfl⟩
  obtain ⟨a3, Ha3, Sa3, xa3, ba3⟩ := allocS v4 0 0 (fun _ => 0) 0 ⟨#[]⟩ ⟨#[]⟩ 0 0 28 h3 Hh3.out
  obtain ⟨z3, Hz3, bz3, kz3, -, Sz3⟩ := putS (r' := 0) (n' := 0) (v' := (fun _ => 0)) (k' := 0) (key' := ⟨#[]⟩) (text' := ⟨#[]⟩) (b' := 0) (t' := 0) (h := ba3)
  have xz3 : Ext v4 z3 := kz3 _ xa3 (by rw [Hh3.out]; exact Nat.le_refl _)
  obtain ⟨p0, p1, p2, p3, p4, p5, p6, p7, p8, p9, p10, p11, p12, p13⟩ := ba3.cells
  obtain ⟨q0, q1, q2, q3, q4, q5, q6, q7, q8, q9, q10, q11, q12, q13⟩ := ba3.frs
  have rh := Hh3.out
  have ra := Ha3.out
  have rz := Hz3.out
  have Y3 : Ext u7 z3 := Y2.trans (xv3.trans (xv4.trans xz3))
  have okz := (bz1.ext Xu7).ext Y3
  have hX9 := hX7.trans Y3
  replace b6 := b6.ext Y3
  replace b7 := b7.ext Y3
  replace b8 := b8.ext Y3
  replace b9 := b9.ext Y3
  replace b10 := b10.ext Y3
  replace b11 := b11.ext Y3
  rename_i K12 H12 _ _ _
  have H13 := Lib.hid H12
  clear H12
  go_wp2_with fail
  refine H13.out _ _ ?_
  rw [← HZB.out] at b10
  exact kn13 w z3 h1 g6 g7 g8 g9 g10 g11 h2 h3 _ _ _ _ _ _ _ _ _ _ _ _ _ _ _ _ _ _ _ _ _ _ _ _ _ _ _ _ _ _ _ _ hX9 ht okz b6 b7 b8 b9 b10 b11
end Go.Proofs.YtlffbappgfimeaaDoor
