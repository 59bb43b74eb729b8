/- ShKn13: ShadowKnown's last region. -/
import Derived.Test.YtlffbappgfimeaaDoorShMany
set_option linter.unusedVariables false
set_option linter.unusedSimpArgs false
set_option maxRecDepth 100000
namespace Go.Proofs.YtlffbappgfimeaaDoor
open Go.RowKit Go.Lib Go.Proofs.YtlffbappgfimeaaDoorW.PrintWords Go.Proofs.YtlffbappgfimeaaDoorW.PrintLast PackPure

theorem kn_6 : goodS 1 2 (upd (vK 3 1) 1 2) 4 ⟨#[107]⟩ ⟨#[116]⟩ 0 9 = false := by kernel_rfl
theorem kn_7 : goodS 1 2 (vK 3 1) 4 ⟨#[]⟩ ⟨#[116]⟩ 0 9 = false := by kernel_rfl
theorem kn_8 : goodS 1 2 (vK 3 1) 4 ⟨#[107]⟩ ⟨#[116]⟩ 1 9 = false := by kernel_rfl
theorem kn_9 : goodS 1 2 (vK 3 1) 5 ⟨#[107]⟩ ⟨#[116]⟩ 0 9 = false := by kernel_rfl
theorem kn_10 : goodS 1 2 (vK 3 1) 4 ⟨#[107]⟩ (Str (List.replicate 101 0)) 0 9 = false := by kernel_rfl
theorem kn_11 : goodS 1 2 (vK 3 1) 1 ⟨#[107]⟩ ⟨#[116]⟩ 0 9 = false := by kernel_rfl
theorem kn_ok : goodS 1 2 (vK 3 1) 4 ⟨#[107]⟩ ⟨#[116]⟩ 0 9 = true := by kernel_rfl
theorem kn_r0 : readyS 1 2 (vK 3 1) (vK 3 1) = true := by kernel_rfl
theorem kn_r1 : readyS 1 2 (vK 3 1) (vK 2 1) = false := by kernel_rfl
theorem kn_r2 : readyS 1 2 (vK 3 1) (vK 3 2) = false := by kernel_rfl
def right : Code → Code
  | .seq _ b => b
  | c => c
set_option maxHeartbeats 32000000 in
theorem kn13 (w z3 : World) (h1 g6 g7 g8 g9 g10 g11 h2 h3 : Nat) (V12 V13 V14 V15 V16 V17 V18 V19 V20 V21 V22 V23 V24 V25 V26 V27 V28 V29 V30 V31 V32 V33 V34 V35 V36 V37 V38 V39 V40 V41 V42 V43 : Value) (hX9 : Ext w z3) (ht : Tabs w) (okz : BkS 28 z3 h1 1 2 (vK 3 1) 4 ⟨#[107]⟩ ⟨#[116]⟩ 0 9)
    (b6 : BkS 28 z3 g6 1 2 (upd (vK 3 1) 1 2) 4 ⟨#[107]⟩ ⟨#[116]⟩ 0 9) (b7 : BkS 28 z3 g7 1 2 (vK 3 1) 4 ⟨#[]⟩ ⟨#[116]⟩ 0 9) (b8 : BkS 28 z3 g8 1 2 (vK 3 1) 4 ⟨#[107]⟩ ⟨#[116]⟩ 1 9) (b9 : BkS 28 z3 g9 1 2 (vK 3 1) 5 ⟨#[107]⟩ ⟨#[116]⟩ 0 9) (b10 : BkS 28 z3 g10 1 2 (vK 3 1) 4 ⟨#[107]⟩ (Str (List.replicate 101 0)) 0 9) (b11 : BkS 28 z3 g11 1 2 (vK 3 1) 1 ⟨#[107]⟩ ⟨#[116]⟩ 0 9) :
    Code.wp Tryd.prog (right (right (right (right (right (right (right (right (right (right (right (right ((Tryd.f3.body.getD .skip)))))))))))))) (bodyPost Tryd.prog Tryd.f3 fun e w' => e = .returned (.bool true) ∧ Ext w w') { tmps := #[.bool false, .pointer (some ⟨h1, 0, none⟩), .pointer (some ⟨g6, 0, none⟩), .pointer (some ⟨g7, 0, none⟩), .pointer (some ⟨g8, 0, none⟩), .pointer (some ⟨g9, 0, none⟩), .pointer (some ⟨g10, 0, none⟩), .pointer (some ⟨g11, 0, none⟩), .pointer (some ⟨h2, 0, none⟩), .int .i64 3, .pointer (some ⟨h3, 0, none⟩), .int .i64 3, V12, V13, V14, V15, V16, V17, V18, V19, V20, V21, V22, V23, V24, V25, V26, V27, V28, V29, V30, V31, V32, V33, V34, V35, V36, V37, V38, V39, V40, V41, V42, V43, undef, undef, undef, undef, undef, undef, undef, undef, undef, undef, undef, undef, undef, undef, undef, undef, undef, undef, undef, undef, undef, undef, undef, undef, undef, undef, undef, undef, undef, undef, undef, undef, undef, undef, undef, undef, undef, undef, undef, undef, undef, undef, undef, undef, undef, undef, undef, undef, undef, undef, undef, undef, undef, undef, undef, undef, undef, undef, undef, undef, undef, undef, undef], defers := [] } z3 := by
  obtain ⟨ZB, HZB⟩ : ∃ l, Hid (List.replicate 101 (0 : UInt8) = l) := ⟨_, Lib.hid rfl⟩
  rw [HZB.out] at b10
  delta Tryd.f3
  dsimp only [right, Option.getD_some]
  have hzs : (Str ZB).size ≤ 140737488351232 := by rw [← HZB.out, str_size, List.length_replicate]; decide
  have cur := Ext.refl z3
  obtain ⟨c0, c1, c2, c3, c4, c5, c6, c7, c8, c9, c10, c11, c12, c13⟩ := (okz.ext cur).cells
  go_wp2_with fail
  have ko := fun W hW => sgood_any 1 2 (vK 3 1) 4 ⟨#[107]⟩ ⟨#[116]⟩ 0 9 W (by decide) (by decide) hW
  rw [kn_ok] at ko
  unfold shv at ko
  refine (ko _ (ht.ext (hX9.trans cur))).mono ?_
  rintro e t0 ⟨rfl, xx⟩
  clear ko c0 c1 c2 c3 c4 c5 c6 c7 c8 c9 c10 c11 c12 c13
  replace cur := cur.trans xx
  clear xx
  generalize (Value.agg #[.int .i64 (1), .int .i64 (2), .int .i64 ((vK 3 1) 0), .int .i64 ((vK 3 1) 1), .int .i64 ((vK 3 1) 2), .int .i64 ((vK 3 1) 3), .int .i64 ((vK 3 1) 4), .int .i64 ((vK 3 1) 5), .int .i64 ((vK 3 1) 6), .int .i64 (4), .string ⟨#[107]⟩, .string ⟨#[116]⟩, .int .i64 (0), .int .i64 (9)] : Value) = E0
  obtain ⟨c0, c1, c2, c3, c4, c5, c6, c7, c8, c9, c10, c11, c12, c13⟩ := (b6.ext cur).cells
  go_wp2_with fail
  have k6 := fun W hW => sgood_any 1 2 (upd (vK 3 1) 1 2) 4 ⟨#[107]⟩ ⟨#[116]⟩ 0 9 W (by decide) (by decide) hW
  rw [kn_6] at k6
  unfold shv at k6
  refine (k6 _ (ht.ext (hX9.trans cur))).mono ?_
  rintro e t1 ⟨rfl, xx⟩
  clear k6 c0 c1 c2 c3 c4 c5 c6 c7 c8 c9 c10 c11 c12 c13
  replace cur := cur.trans xx
  clear xx
  generalize (Value.agg #[.int .i64 (1), .int .i64 (2), .int .i64 ((upd (vK 3 1) 1 2) 0), .int .i64 ((upd (vK 3 1) 1 2) 1), .int .i64 ((upd (vK 3 1) 1 2) 2), .int .i64 ((upd (vK 3 1) 1 2) 3), .int .i64 ((upd (vK 3 1) 1 2) 4), .int .i64 ((upd (vK 3 1) 1 2) 5), .int .i64 ((upd (vK 3 1) 1 2) 6), .int .i64 (4), .string ⟨#[107]⟩, .string ⟨#[116]⟩, .int .i64 (0), .int .i64 (9)] : Value) = E1
  obtain ⟨c0, c1, c2, c3, c4, c5, c6, c7, c8, c9, c10, c11, c12, c13⟩ := (b7.ext cur).cells
  go_wp2_with fail
  have k7 := fun W hW => sgood_any 1 2 (vK 3 1) 4 ⟨#[]⟩ ⟨#[116]⟩ 0 9 W (by decide) (by decide) hW
  rw [kn_7] at k7
  unfold shv at k7
  refine (k7 _ (ht.ext (hX9.trans cur))).mono ?_
  rintro e t2 ⟨rfl, xx⟩
  clear k7 c0 c1 c2 c3 c4 c5 c6 c7 c8 c9 c10 c11 c12 c13
  replace cur := cur.trans xx
  clear xx
  generalize (Value.agg #[.int .i64 (1), .int .i64 (2), .int .i64 ((vK 3 1) 0), .int .i64 ((vK 3 1) 1), .int .i64 ((vK 3 1) 2), .int .i64 ((vK 3 1) 3), .int .i64 ((vK 3 1) 4), .int .i64 ((vK 3 1) 5), .int .i64 ((vK 3 1) 6), .int .i64 (4), .string ⟨#[]⟩, .string ⟨#[116]⟩, .int .i64 (0), .int .i64 (9)] : Value) = E2
  obtain ⟨c0, c1, c2, c3, c4, c5, c6, c7, c8, c9, c10, c11, c12, c13⟩ := (b8.ext cur).cells
  go_wp2_with fail
  have k8 := fun W hW => sgood_any 1 2 (vK 3 1) 4 ⟨#[107]⟩ ⟨#[116]⟩ 1 9 W (by decide) (by decide) hW
  rw [kn_8] at k8
  unfold shv at k8
  refine (k8 _ (ht.ext (hX9.trans cur))).mono ?_
  rintro e t3 ⟨rfl, xx⟩
  clear k8 c0 c1 c2 c3 c4 c5 c6 c7 c8 c9 c10 c11 c12 c13
  replace cur := cur.trans xx
  clear xx
  generalize (Value.agg #[.int .i64 (1), .int .i64 (2), .int .i64 ((vK 3 1) 0), .int .i64 ((vK 3 1) 1), .int .i64 ((vK 3 1) 2), .int .i64 ((vK 3 1) 3), .int .i64 ((vK 3 1) 4), .int .i64 ((vK 3 1) 5), .int .i64 ((vK 3 1) 6), .int .i64 (4), .string ⟨#[107]⟩, .string ⟨#[116]⟩, .int .i64 (1), .int .i64 (9)] : Value) = E3
  obtain ⟨c0, c1, c2, c3, c4, c5, c6, c7, c8, c9, c10, c11, c12, c13⟩ := (b9.ext cur).cells
  go_wp2_with fail
  have k9 := fun W hW => sgood_any 1 2 (vK 3 1) 5 ⟨#[107]⟩ ⟨#[116]⟩ 0 9 W (by decide) (by decide) hW
  rw [kn_9] at k9
  unfold shv at k9
  refine (k9 _ (ht.ext (hX9.trans cur))).mono ?_
  rintro e t4 ⟨rfl, xx⟩
  clear k9 c0 c1 c2 c3 c4 c5 c6 c7 c8 c9 c10 c11 c12 c13
  replace cur := cur.trans xx
  clear xx
  generalize (Value.agg #[.int .i64 (1), .int .i64 (2), .int .i64 ((vK 3 1) 0), .int .i64 ((vK 3 1) 1), .int .i64 ((vK 3 1) 2), .int .i64 ((vK 3 1) 3), .int .i64 ((vK 3 1) 4), .int .i64 ((vK 3 1) 5), .int .i64 ((vK 3 1) 6), .int .i64 (5), .string ⟨#[107]⟩, .string ⟨#[116]⟩, .int .i64 (0), .int .i64 (9)] : Value) = E4
  obtain ⟨c0, c1, c2, c3, c4, c5, c6, c7, c8, c9, c10, c11, c12, c13⟩ := (b10.ext cur).cells
  go_wp2_with fail
  have k10 := fun W hW => sgood_any 1 2 (vK 3 1) 4 ⟨#[107]⟩ (Str ZB) 0 9 W (by decide) (by decide) hW
  rw [show goodS 1 2 (vK 3 1) 4 ⟨#[107]⟩ (Str ZB) 0 9 = false from by rw [← HZB.out]; exact kn_10] at k10
  unfold shv at k10
  refine (k10 _ (ht.ext (hX9.trans cur))).mono ?_
  rintro e t5 ⟨rfl, xx⟩
  clear k10 c0 c1 c2 c3 c4 c5 c6 c7 c8 c9 c10 c11 c12 c13
  replace cur := cur.trans xx
  clear xx
  generalize (Value.agg #[.int .i64 (1), .int .i64 (2), .int .i64 ((vK 3 1) 0), .int .i64 ((vK 3 1) 1), .int .i64 ((vK 3 1) 2), .int .i64 ((vK 3 1) 3), .int .i64 ((vK 3 1) 4), .int .i64 ((vK 3 1) 5), .int .i64 ((vK 3 1) 6), .int .i64 (4), .string ⟨#[107]⟩, .string (Str ZB), .int .i64 (0), .int .i64 (9)] : Value) = E5
  obtain ⟨c0, c1, c2, c3, c4, c5, c6, c7, c8, c9, c10, c11, c12, c13⟩ := (b11.ext cur).cells
  go_wp2_with fail
  have k11 := fun W hW => sgood_any 1 2 (vK 3 1) 1 ⟨#[107]⟩ ⟨#[116]⟩ 0 9 W (by decide) (by decide) hW
  rw [kn_11] at k11
  unfold shv at k11
  refine (k11 _ (ht.ext (hX9.trans cur))).mono ?_
  rintro e t6 ⟨rfl, xx⟩
  clear k11 c0 c1 c2 c3 c4 c5 c6 c7 c8 c9 c10 c11 c12 c13
  replace cur := cur.trans xx
  clear xx
  generalize (Value.agg #[.int .i64 (1), .int .i64 (2), .int .i64 ((vK 3 1) 0), .int .i64 ((vK 3 1) 1), .int .i64 ((vK 3 1) 2), .int .i64 ((vK 3 1) 3), .int .i64 ((vK 3 1) 4), .int .i64 ((vK 3 1) 5), .int .i64 ((vK 3 1) 6), .int .i64 (1), .string ⟨#[107]⟩, .string ⟨#[116]⟩, .int .i64 (0), .int .i64 (9)] : Value) = E6
  obtain ⟨c0, c1, c2, c3, c4, c5, c6, c7, c8, c9, c10, c11, c12, c13⟩ := (b6.ext cur).cells
  go_wp2_with fail
  have kpa := fun W hW => sput_any 1 2 (upd (vK 3 1) 1 2) 4 ⟨#[107]⟩ ⟨#[116]⟩ 0 9 W (by decide) (by decide) hW
  rw [show putS_ 1 2 (upd (vK 3 1) 1 2) 4 ⟨#[107]⟩ ⟨#[116]⟩ 0 9 = [] from by rw [putS_, kn_6]; rfl] at kpa
  unfold shv at kpa
  refine (kpa _ (ht.ext (hX9.trans cur))).mono ?_
  rintro e t7 ⟨vp, rfl, hop, xx⟩
  clear kpa c0 c1 c2 c3 c4 c5 c6 c7 c8 c9 c10 c11 c12 c13
  replace cur := cur.trans xx
  clear xx
  generalize (Value.agg #[.int .i64 (1), .int .i64 (2), .int .i64 ((upd (vK 3 1) 1 2) 0), .int .i64 ((upd (vK 3 1) 1 2) 1), .int .i64 ((upd (vK 3 1) 1 2) 2), .int .i64 ((upd (vK 3 1) 1 2) 3), .int .i64 ((upd (vK 3 1) 1 2) 4), .int .i64 ((upd (vK 3 1) 1 2) 5), .int .i64 ((upd (vK 3 1) 1 2) 6), .int .i64 (4), .string ⟨#[107]⟩, .string ⟨#[116]⟩, .int .i64 (0), .int .i64 (9)] : Value) = E7
  obtain ⟨Ap, cp, rfl, -, -⟩ := hop.reads
  obtain ⟨c0, c1, c2, c3, c4, c5, c6, c7, c8, c9, c10, c11, c12, c13⟩ := (okz.ext cur).cells
  go_wp2_with fail
  have kr0 : ∀ W, Calls Tryd.prog 11 #[shv 1 2 (vK 3 1) 4 ⟨#[107]⟩ ⟨#[116]⟩ 0 9, .agg #[.int .i64 3, .int .i64 1, .int .i64 0, .int .i64 0, .int .i64 0, .int .i64 0, .int .i64 0]] W fun e w' => e = .returned (.bool true) ∧ Ext W w' := fun W => by
    have h := ready_any 1 2 (vK 3 1) 4 ⟨#[107]⟩ ⟨#[116]⟩ 0 9 (vK 3 1) W
    rw [kn_r0] at h
    exact h
  unfold shv at kr0
  refine (kr0 _).mono ?_
  rintro e t8 ⟨rfl, xx⟩
  clear kr0 c0 c1 c2 c3 c4 c5 c6 c7 c8 c9 c10 c11 c12 c13
  replace cur := cur.trans xx
  clear xx
  generalize (Value.agg #[.int .i64 (1), .int .i64 (2), .int .i64 ((vK 3 1) 0), .int .i64 ((vK 3 1) 1), .int .i64 ((vK 3 1) 2), .int .i64 ((vK 3 1) 3), .int .i64 ((vK 3 1) 4), .int .i64 ((vK 3 1) 5), .int .i64 ((vK 3 1) 6), .int .i64 (4), .string ⟨#[107]⟩, .string ⟨#[116]⟩, .int .i64 (0), .int .i64 (9)] : Value) = E8
  obtain ⟨c0, c1, c2, c3, c4, c5, c6, c7, c8, c9, c10, c11, c12, c13⟩ := (okz.ext cur).cells
  go_wp2_with fail
  have kr1 : ∀ W, Calls Tryd.prog 11 #[shv 1 2 (vK 3 1) 4 ⟨#[107]⟩ ⟨#[116]⟩ 0 9, .agg #[.int .i64 2, .int .i64 1, .int .i64 0, .int .i64 0, .int .i64 0, .int .i64 0, .int .i64 0]] W fun e w' => e = .returned (.bool false) ∧ Ext W w' := fun W => by
    have h := ready_any 1 2 (vK 3 1) 4 ⟨#[107]⟩ ⟨#[116]⟩ 0 9 (vK 2 1) W
    rw [kn_r1] at h
    exact h
  unfold shv at kr1
  refine (kr1 _).mono ?_
  rintro e t9 ⟨rfl, xx⟩
  clear kr1 c0 c1 c2 c3 c4 c5 c6 c7 c8 c9 c10 c11 c12 c13
  replace cur := cur.trans xx
  clear xx
  generalize (Value.agg #[.int .i64 (1), .int .i64 (2), .int .i64 ((vK 3 1) 0), .int .i64 ((vK 3 1) 1), .int .i64 ((vK 3 1) 2), .int .i64 ((vK 3 1) 3), .int .i64 ((vK 3 1) 4), .int .i64 ((vK 3 1) 5), .int .i64 ((vK 3 1) 6), .int .i64 (4), .string ⟨#[107]⟩, .string ⟨#[116]⟩, .int .i64 (0), .int .i64 (9)] : Value) = E9
  obtain ⟨c0, c1, c2, c3, c4, c5, c6, c7, c8, c9, c10, c11, c12, c13⟩ := (okz.ext cur).cells
  go_wp2_with fail
  have kr2 : ∀ W, Calls Tryd.prog 11 #[shv 1 2 (vK 3 1) 4 ⟨#[107]⟩ ⟨#[116]⟩ 0 9, .agg #[.int .i64 3, .int .i64 2, .int .i64 0, .int .i64 0, .int .i64 0, .int .i64 0, .int .i64 0]] W fun e w' => e = .returned (.bool false) ∧ Ext W w' := fun W => by
    have h := ready_any 1 2 (vK 3 1) 4 ⟨#[107]⟩ ⟨#[116]⟩ 0 9 (vK 3 2) W
    rw [kn_r2] at h
    exact h
  unfold shv at kr2
  refine (kr2 _).mono ?_
  rintro e t10 ⟨rfl, xx⟩
  clear kr2 c0 c1 c2 c3 c4 c5 c6 c7 c8 c9 c10 c11 c12 c13
  replace cur := cur.trans xx
  clear xx
  generalize (Value.agg #[.int .i64 (1), .int .i64 (2), .int .i64 ((vK 3 1) 0), .int .i64 ((vK 3 1) 1), .int .i64 ((vK 3 1) 2), .int .i64 ((vK 3 1) 3), .int .i64 ((vK 3 1) 4), .int .i64 ((vK 3 1) 5), .int .i64 ((vK 3 1) 6), .int .i64 (4), .string ⟨#[107]⟩, .string ⟨#[116]⟩, .int .i64 (0), .int .i64 (9)] : Value) = E10
  go_wp2
  go_ret
  exact ⟨rfl, hX9.trans cur⟩
end Go.Proofs.YtlffbappgfimeaaDoor
