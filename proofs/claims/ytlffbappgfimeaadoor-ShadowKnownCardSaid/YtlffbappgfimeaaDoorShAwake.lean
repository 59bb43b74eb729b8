/- ShAwake: the law's awake. -/
import Derived.Test.YtlffbappgfimeaaDoorShCalls
set_option linter.unusedVariables false
set_option linter.unusedSimpArgs false
set_option maxRecDepth 100000
namespace Go.Proofs.YtlffbappgfimeaaDoor
open Go.RowKit Go.Lib Go.Proofs.YtlffbappgfimeaaDoorW.PrintWords PackPure

theorem aw_good : goodS 0 1 (fun _ => 0) 3 ⟨#[107]⟩ ⟨#[]⟩ 5 0 = true := by kernel_rfl
theorem aw_r0 : readyS 0 1 (fun _ => 0) (fun _ => 0) = true := by kernel_rfl
theorem aw_r1 : readyS 0 1 (fun _ => 0) (fun i => if i = 0 then 1 else 0) = false := by kernel_rfl
set_option maxHeartbeats 4000000 in
theorem sawake_any (w : World) (ht : Tabs w) : Calls Tryd.prog 7 #[] w fun e w' => e = .returned (.bool true) ∧ Ext w w' := by
  have kp := fun W hW => sput_good 0 1 (fun _ => 0) 3 ⟨#[107]⟩ ⟨#[]⟩ 5 0 W aw_good hW
  have kg : ∀ (A : Option Addr) (m c : Nat) (W : World), Bs W A (bytesS 0 1 (fun _ => 0) 3 ⟨#[107]⟩ ⟨#[]⟩ 5 0) → m = (bytesS 0 1 (fun _ => 0) 3 ⟨#[107]⟩ ⟨#[]⟩ 5 0).length → m ≤ c → Tabs W → Calls Tryd.prog 8 #[.slice A m c] W fun e w' => e = .returned (.tuple #[.agg #[.int .i64 0, .int .i64 1, .int .i64 0, .int .i64 0, .int .i64 0, .int .i64 0, .int .i64 0, .int .i64 0, .int .i64 0, .int .i64 3, .string ⟨#[107]⟩, .string ⟨#[]⟩, .int .i64 5, .int .i64 0], .int .i64 0]) ∧ Ext W w' := fun A m c W h1 h2 h3 h4 => sget_good 0 1 (fun _ => 0) 3 ⟨#[107]⟩ ⟨#[]⟩ 5 0 A m c W aw_good h1 h2 h3 h4
  have ko : ∀ W, Tabs W → Calls Tryd.prog 10 #[.agg #[.int .i64 0, .int .i64 1, .int .i64 0, .int .i64 0, .int .i64 0, .int .i64 0, .int .i64 0, .int .i64 0, .int .i64 0, .int .i64 3, .string ⟨#[107]⟩, .string ⟨#[]⟩, .int .i64 5, .int .i64 0]] W fun e w' => e = .returned (.bool true) ∧ Ext W w' := fun W hW => by
    have h := sgood_any 0 1 (fun _ => 0) 3 ⟨#[107]⟩ ⟨#[]⟩ 5 0 W (by decide) (by decide) hW
    rw [aw_good] at h
    exact h
  have k0 : ∀ W, Calls Tryd.prog 11 #[.agg #[.int .i64 0, .int .i64 1, .int .i64 0, .int .i64 0, .int .i64 0, .int .i64 0, .int .i64 0, .int .i64 0, .int .i64 0, .int .i64 3, .string ⟨#[107]⟩, .string ⟨#[]⟩, .int .i64 5, .int .i64 0], .agg #[.int .i64 0, .int .i64 0, .int .i64 0, .int .i64 0, .int .i64 0, .int .i64 0, .int .i64 0]] W fun e w' => e = .returned (.bool true) ∧ Ext W w' := fun W => by
    have h := ready_any 0 1 (fun _ => 0) 3 ⟨#[107]⟩ ⟨#[]⟩ 5 0 (fun _ => 0) W
    rw [aw_r0] at h
    exact h
  have k1 : ∀ W, Calls Tryd.prog 11 #[.agg #[.int .i64 0, .int .i64 1, .int .i64 0, .int .i64 0, .int .i64 0, .int .i64 0, .int .i64 0, .int .i64 0, .int .i64 0, .int .i64 3, .string ⟨#[107]⟩, .string ⟨#[]⟩, .int .i64 5, .int .i64 0], .agg #[.int .i64 1, .int .i64 0, .int .i64 0, .int .i64 0, .int .i64 0, .int .i64 0, .int .i64 0]] W fun e w' => e = .returned (.bool false) ∧ Ext W w' := fun W => by
    have h := ready_any 0 1 (fun _ => 0) 3 ⟨#[107]⟩ ⟨#[]⟩ 5 0 (fun i => if i = 0 then 1 else 0) W
    rw [aw_r1] at h
    exact h
  have heq : ∀ W, (Op.equalIn 10000 28 (.agg #[.int .i64 0, .int .i64 1, .int .i64 0, .int .i64 0, .int .i64 0, .int .i64 0, .int .i64 0, .int .i64 0, .int .i64 0, .int .i64 3, .string ⟨#[107]⟩, .string ⟨#[]⟩, .int .i64 5, .int .i64 0]) (.agg #[.int .i64 0, .int .i64 1, .int .i64 0, .int .i64 0, .int .i64 0, .int .i64 0, .int .i64 0, .int .i64 0, .int .i64 0, .int .i64 3, .string ⟨#[107]⟩, .string ⟨#[]⟩, .int .i64 5, .int .i64 0])).run Tryd.prog W = .ok true W := fun W => by
    have h := run_eqS28 0 1 (fun _ => 0) 3 ⟨#[107]⟩ ⟨#[]⟩ 5 0 0 1 (fun _ => 0) 3 ⟨#[107]⟩ ⟨#[]⟩ 5 0 W
    rw [eqS_refl] at h
    exact h
  have kp : ∀ W, Tabs W → Calls Tryd.prog 9 #[.agg #[.int .i64 0, .int .i64 1, .int .i64 0, .int .i64 0, .int .i64 0, .int .i64 0, .int .i64 0, .int .i64 0, .int .i64 0, .int .i64 3, .string ⟨#[107]⟩, .string ⟨#[]⟩, .int .i64 5, .int .i64 0]] W _ := kp
  obtain ⟨PB, HPB⟩ : ∃ x, Hid (bytesS 0 1 (fun _ => 0) 3 ⟨#[107]⟩ ⟨#[]⟩ 5 0 = x) := ⟨_, Lib.hid rfl⟩
  rw [HPB.out] at kg kp
  obtain ⟨h1, Hh1⟩ : ∃ h, Hid (w.heap.size = h) := ⟨_, Lib.hid rfl⟩
  obtain ⟨a1, Ha1, Sa1, xa1, ba1⟩ := allocS w 0 0 (fun _ => 0) 0 ⟨#[]⟩ ⟨#[]⟩ 0 0 28 h1 Hh1.out
  obtain ⟨z1, Hz1, bz1, kz1, -, Sz1⟩ := putS (r' := 0) (n' := 1) (v' := (fun _ => 0)) (k' := 3) (key' := ⟨#[107]⟩) (text' := ⟨#[]⟩) (b' := 5) (t' := 0) (h := ba1)
  have xz1 : Ext w z1 := kz1 _ xa1 (by rw [Hh1.out]; exact Nat.le_refl _)
  obtain ⟨p0, p1, p2, p3, p4, p5, p6, p7, p8, p9, p10, p11, p12, p13⟩ := ba1.cells
  obtain ⟨q0, q1, q2, q3, q4, q5, q6, q7, q8, q9, q10, q11, q12, q13⟩ := ba1.frs
  have rh := Hh1.out
  have ra := Ha1.out
  have rz := Hz1.out
  go_enter Tryd.func7, Tryd.ntmps7
  obtain ⟨c0, c1, c2, c3, c4, c5, c6, c7, c8, c9, c10, c11, c12, c13⟩ := bz1.cells
  go_wp2_with fail
  clear rh ra rz p0 p1 p2 p3 p4 p5 p6 p7 p8 p9 p10 p11 p12 p13 q0 q1 q2 q3 q4 q5 q6 q7 q8 q9 q10 q11 q12 q13
  refine (kp _ (ht.ext xz1)).mono ?_
  rintro e w2 ⟨A, m, c, rfl, hm, hc, hB, -, x2⟩
  have Hm := Lib.hid hm
  clear hm
  go_wp2_with fail
  refine (kg A m c _ hB Hm.out hc (ht.ext (xz1.trans x2))).mono ?_
  rintro e w3 ⟨rfl, x3⟩
  clear c0 c1 c2 c3 c4 c5 c6 c7 c8 c9 c10 c11 c12 c13
  obtain ⟨h2, Hh2⟩ : ∃ h, Hid (w3.heap.size = h) := ⟨_, Lib.hid rfl⟩
  obtain ⟨a2, Ha2, Sa2, xa2, ba2⟩ := allocS w3 0 0 (fun _ => 0) 0 ⟨#[]⟩ ⟨#[]⟩ 0 0 28 h2 Hh2.out
  obtain ⟨z2, Hz2, bz2, kz2, -, Sz2⟩ := putS (r' := 0) (n' := 1) (v' := (fun _ => 0)) (k' := 3) (key' := ⟨#[107]⟩) (text' := ⟨#[]⟩) (b' := 5) (t' := 0) (h := ba2)
  have xz2 : Ext w3 z2 := kz2 _ xa2 (by rw [Hh2.out]; exact Nat.le_refl _)
  obtain ⟨p0, p1, p2, p3, p4, p5, p6, p7, p8, p9, p10, p11, p12, p13⟩ := ba2.cells
  obtain ⟨q0, q1, q2, q3, q4, q5, q6, q7, q8, q9, q10, q11, q12, q13⟩ := ba2.frs
  have rh := Hh2.out
  have ra := Ha2.out
  have rz := Hz2.out
  have b1 := (bz1.ext (x2.trans x3)).ext xz2
  obtain ⟨c0, c1, c2, c3, c4, c5, c6, c7, c8, c9, c10, c11, c12, c13⟩ := b1.cells
  have y2 := (xz1.trans x2).trans (x3.trans xz2)
  go_wp2_with fail
  clear rh ra rz p0 p1 p2 p3 p4 p5 p6 p7 p8 p9 p10 p11 p12 p13 q0 q1 q2 q3 q4 q5 q6 q7 q8 q9 q10 q11 q12 q13
  clear c0 c1 c2 c3 c4 c5 c6 c7 c8 c9 c10 c11 c12 c13
  refine (ko _ (ht.ext y2)).mono ?_
  rintro e w4 ⟨rfl, x4⟩
  obtain ⟨c0, c1, c2, c3, c4, c5, c6, c7, c8, c9, c10, c11, c12, c13⟩ := (b1.ext x4).cells
  go_wp2_with fail
  refine (k0 _).mono ?_
  rintro e w5 ⟨rfl, x5⟩
  clear c0 c1 c2 c3 c4 c5 c6 c7 c8 c9 c10 c11 c12 c13
  obtain ⟨c0, c1, c2, c3, c4, c5, c6, c7, c8, c9, c10, c11, c12, c13⟩ := (b1.ext (x4.trans x5)).cells
  go_wp2_with fail
  refine (k1 _).mono ?_
  rintro e w6 ⟨rfl, x6⟩
  clear c0 c1 c2 c3 c4 c5 c6 c7 c8 c9 c10 c11 c12 c13
  have y6 := x4.trans (x5.trans x6)
  obtain ⟨c0, c1, c2, c3, c4, c5, c6, c7, c8, c9, c10, c11, c12, c13⟩ := (b1.ext y6).cells
  obtain ⟨d0, d1, d2, d3, d4, d5, d6, d7, d8, d9, d10, d11, d12, d13⟩ := (bz2.ext y6).cells
  go_wp2
  go_ret
  exact ⟨rfl, y2.trans y6⟩
end Go.Proofs.YtlffbappgfimeaaDoor
