/- VecKnown: the walk of the law VecKnown. -/
import Derived.Test.YtaiofbagdcpfgaaVecBackLaw
import Derived.Test.YtaiofbagdcpfgaaVecHas
set_option linter.unusedVariables false
set_option linter.unusedSimpArgs false
set_option maxRecDepth 100000
namespace Go.Proofs.Ytaiofbagdcpfgaa
open Go.RowKit Go.Proofs.YtaiofbagdcpfgaaW.PrintWords PackPure

def one7 (k : Nat) (x : Int) : V7 := fun i => if i = k then x else 0

theorem kn222 : getR [2, 2, 2] false 1099511627776 = (fun _ => 0, [], true) := by
  have h1 : (getV [2, 2, 2] false 1099511627776 7).2 = ([], true) := by decide +kernel
  have h2 : (getV [2, 2, 2] false 1099511627776 7).2.2 = true := by rw [h1]
  simp [getR, h1]

set_option maxHeartbeats 4000000 in
theorem known7_any (w : World) : Calls Try.prog 17 #[] w fun e w' => e = .returned (.bool true) ∧ Ext w w' := by
  go_enter Try.func17, Try.ntmps17
  go_wp2_with fail
  refine (awake7_any _).mono ?_
  rintro e w1 ⟨rfl, hx1⟩
  go_wp2_with fail
  refine (next_any (fun _ => 0) 7 _).mono ?_
  rw [show nextv (next7 (fun _ => 0) 7) = .tuple #[.agg #[.int .i64 0, .int .i64 0, .int .i64 0, .int .i64 0, .int .i64 0, .int .i64 0, .int .i64 0], .agg #[.int .i64 0, .int .i64 0], .int .i64 1] from rfl]
  rintro e w2 ⟨rfl, hx2⟩
  go_wp2_with fail
  refine (next_any (one7 0 (-1)) 0 _).mono ?_
  rw [show nextv (next7 (one7 0 (-1)) 0) = .tuple #[.agg #[.int .i64 0, .int .i64 0, .int .i64 0, .int .i64 0, .int .i64 0, .int .i64 0, .int .i64 0], .agg #[.int .i64 0, .int .i64 0], .int .i64 1] from rfl]
  rintro e w3 ⟨rfl, hx3⟩
  go_wp2_with fail
  refine (next_any (one7 0 1099511627776) 0 _).mono ?_
  rw [show nextv (next7 (one7 0 1099511627776) 0) = .tuple #[.agg #[.int .i64 0, .int .i64 0, .int .i64 0, .int .i64 0, .int .i64 0, .int .i64 0, .int .i64 0], .agg #[.int .i64 0, .int .i64 0], .int .i64 2] from rfl]
  rintro e w4 ⟨rfl, hx4⟩
  have y3 : Ext w2 w3 := Ext.trans (by repeat (first | exact Ext.refl _ | refine Ext.alloc ?_ _ | refine Ext.setCell ?_ (by first | exact Nat.le_refl _ | exact Nat.le_succ _ | exact Nat.le_trans (Nat.le_succ _) (Nat.le_succ _)) _)) hx3
  have y4 : Ext w3 w4 := Ext.trans (by repeat (first | exact Ext.refl _ | refine Ext.alloc ?_ _ | refine Ext.setCell ?_ (by first | exact Nat.le_refl _ | exact Nat.le_succ _ | exact Nat.le_trans (Nat.le_succ _) (Nat.le_succ _)) _)) hx4
  have x4 := ((hx1.trans hx2).trans y3).trans y4
  clear hx1 hx2 hx3 hx4 y3 y4
  go_wp2_with fail
  refine (read_any _ 3 3 [2, 2, 2] _ ?hb rfl (by decide)).mono ?_
  case hb => exact Bs.alloc_at _ [2, 2, 2] (by decide) _ (by rfl) _ _ _ (by simp only [World.alloc, Array.size_push])
  rintro e w5 ⟨g, rfl, hgw, hr, hx5⟩
  have yy5 : Ext w4 w5 := Ext.trans (by repeat (first | exact Ext.refl _ | refine Ext.alloc ?_ _ | refine Ext.setCell ?_ (by first | exact Nat.le_refl _ | exact Nat.le_succ _ | exact Nat.le_trans (Nat.le_succ _) (Nat.le_succ _)) _)) hx5
  have hgw4 : w4.heap.size ≤ g := Nat.le_trans (by exact Ext.size (by repeat (first | exact Ext.refl _ | refine Ext.alloc ?_ _ | refine Ext.setCell ?_ (by first | exact Nat.le_refl _ | exact Nat.le_succ _ | exact Nat.le_trans (Nat.le_succ _) (Nat.le_succ _)) _))) hgw
  go_wp2_with fail
  refine (vget_any g [2, 2, 2] false w5 hr).mono ?_
  rw [show vf (getR [2, 2, 2] false 1099511627776).1 = .agg #[.int .i64 0, .int .i64 0, .int .i64 0, .int .i64 0, .int .i64 0, .int .i64 0, .int .i64 0] from by rw [kn222]; rfl, show (getR [2, 2, 2] false 1099511627776).2 = ([], true) from by rw [kn222]]
  rintro e w6 ⟨rfl, hr6, hB6⟩
  obtain ⟨s6, Hs6⟩ : ∃ s, Hid (w6.heap.size = s) := ⟨_, Lib.hid rfl⟩
  have hs6 := Hs6.out
  have heqs := run_eq7_same Try.underlying51
  obtain ⟨wa, Ha, -, hxa, hza, fza, -⟩ := alloc7 w6 (fun _ => 0) 51 s6 Hs6.out
  obtain ⟨wb, Hb, hzb, kxb, -, -, -⟩ := put7 wa s6 _ (fun _ => 0) hza
  have hxb : Ext w6 wb := kxb _ hxa (Nat.le_of_eq Hs6.out)
  obtain ⟨y0, y1, y2, y3, y4, y5, y6⟩ := hza.cells0
  obtain ⟨z0, z1, z2, z3, z4, z5, z6⟩ := fza.cells0
  have ra := Ha.out
  have rb := Hb.out
  have hr6b := hr6.ext hxb
  have x6 : Ext w4 w6 := yy5.but hB6 hgw4
  go_wp2_with fail
  refine (good_any (one7 0 1099511627776) _).mono ?_
  rw [show good7 (one7 0 1099511627776) = true from by decide +kernel]
  rintro e w7 ⟨rfl, hx_w7⟩
  go_wp2_with fail
  refine (good_any (one7 0 1099511627777) _).mono ?_
  rw [show good7 (one7 0 1099511627777) = false from by decide +kernel]
  rintro e w8 ⟨rfl, hx_w8⟩
  go_wp2_with fail
  refine (has_any (one7 1 3) 1 3 _).mono ?_
  rw [show has7 (one7 1 3) 1 3 = true from by decide +kernel]
  rintro e w9 ⟨rfl, hx_w9⟩
  go_wp2_with fail
  refine (has_any (one7 1 3) 1 4 _).mono ?_
  rw [show has7 (one7 1 3) 1 4 = false from by decide +kernel]
  rintro e w10 ⟨rfl, hx_w10⟩
  go_wp2_with fail
  refine (has_any (one7 0 9) (-1) 1 _).mono ?_
  rw [show has7 (one7 0 9) (-1) 1 = false from by decide +kernel]
  rintro e w11 ⟨rfl, hx_w11⟩
  go_wp2_with fail
  refine (has_any (one7 0 9) 0 0 _).mono ?_
  rw [show has7 (one7 0 9) 0 0 = false from by decide +kernel]
  rintro e w12 ⟨rfl, hx_w12⟩
  have xb12 : Ext wb w12 := ((((hx_w7.trans hx_w8).trans hx_w9).trans hx_w10).trans hx_w11).trans hx_w12
  have x12 : Ext w w12 := ((x4.trans x6).trans hxb).trans xb12
  have hr12 := hr6b.ext xb12
  obtain ⟨c0, c1, c2, c3, c4, c5, c6⟩ := (hzb.ext xb12).cells0
  clear ra rb y0 y1 y2 y3 y4 y5 y6 z0 z1 z2 z3 z4 z5 z6 hs6
  have hS := Str_toList
  go_wp2_with fail
  refine (bad_any g [] true w12 hr12).mono ?_
  rintro e w13 ⟨rfl, hw13⟩
  obtain rfl := hw13
  go_wp2_with fail
  refine (vputnil_any (one7 0 1) w12 (fun i hi => by unfold one7; split <;> omega)).mono ?_
  rw [show putV (one7 0 1) 7 = [2, 0, 0, 0, 0, 0, 0] from by decide +kernel]
  rintro e w14 ⟨A, c, rfl, hl, hB, hx14⟩
  have hcv := hB.string 7 c rfl
  go_wp2
  go_ret
  exact ⟨rfl, x12.trans hx14⟩

end Go.Proofs.Ytaiofbagdcpfgaa
