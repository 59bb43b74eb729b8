/- PackAwake: the walk of awake of layer 4. -/
import Derived.Test.YtaiofbagdcpfgaaPackRdB
import Derived.Test.YtaiofbagdcpfgaaPackRound
set_option linter.unusedVariables false
set_option maxRecDepth 100000
namespace Go.Proofs.Ytaiofbagdcpfgaa
open Go.RowKit Go.Proofs.YtaiofbagdcpfgaaW.PrintWords PackPure

theorem numnil_any (v : Int) (w : World) (h0 : -9223372036854775808 ≤ v) (h1 : v ≤ 9223372036854775807) :
    Calls Try.prog 27 #[.slice none 0 0, .int .i64 v] w fun e w' => ∃ A c, e = .returned (.slice A (num v).length c) ∧ (num v).length ≤ c ∧ Bs w' A (num v) ∧ Ext w w' := by
  refine (num_any none 0 0 [] v w (Bs.nil w) rfl (by omega) h0 h1).mono ?_
  rintro e w' ⟨x, rfl, ho, hx⟩
  rw [List.nil_append] at ho
  obtain ⟨A, c, rfl, hl, hB⟩ := ho.reads
  exact ⟨A, c, rfl, hl, hB, hx⟩
theorem rdNum_150 : rdNum [172, 2] false 0 150 = (150, [], false) := by decide

set_option maxHeartbeats 400000 in
theorem awake4_any (w : World) : Calls Try.prog 26 #[] w fun e w' => e = .returned (.bool true) ∧ Ext w w' := by
  go_enter Try.func26, Try.ntmps26
  go_wp2_with fail
  refine (numnil_any 150 w (by omega) (by omega)).mono ?_
  rintro e w1 ⟨A1, c1, rfl, hl1, hB1, hx1⟩
  rw [num_150] at hl1 hB1 ⊢
  go_wp2_with fail
  refine (read_any A1 2 c1 [172, 2] w1 hB1 rfl (by omega)).mono ?_
  rintro e w2 ⟨g, rfl, hg, hr, hx2⟩
  go_wp2_with fail
  refine (numnil_any (-1) w2 (by omega) (by omega)).mono ?_
  rintro e w3 ⟨A3, c3, rfl, hl3, hB3, hx3⟩
  rw [num_m1] at hl3 hB3 ⊢
  have hc3 := hB3.string 1 c3 rfl
  have hS := Str_toList
  go_wp2_with fail
  refine (numnil_any 150 w3 (by omega) (by omega)).mono ?_
  rintro e w4 ⟨A4, c4, rfl, hl4, hB4, hx4⟩
  rw [num_150] at hl4 hB4 ⊢
  have hc4 := hB4.string 2 c4 rfl
  go_wp2_with fail
  refine (rnum_any g [172, 2] false 0 150 w4 (hr.ext (hx3.trans hx4))).mono ?_
  rintro e w5 ⟨rfl, hr5, hb5⟩
  rw [rdNum_150] at hr5 ⊢
  have hx5 : Ext w w5 := (((hx1.trans hx2).trans hx3).trans hx4).but hb5 (Nat.le_trans hx1.size hg)
  go_wp2_with fail
  refine (end_any g [] false w5 hr5).mono ?_
  rintro e w6 ⟨rfl, hw6⟩
  obtain rfl := hw6
  go_wp2
  go_ret
  exact ⟨rfl, hx5⟩

end Go.Proofs.Ytaiofbagdcpfgaa
