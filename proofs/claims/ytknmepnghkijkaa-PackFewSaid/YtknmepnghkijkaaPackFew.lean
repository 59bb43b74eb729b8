/- PackFew: the walk. -/
import Derived.Test.YtknmepnghkijkaaPackAwake
set_option linter.unusedVariables false
set_option maxRecDepth 100000
namespace Go.Proofs.Ytknmepnghkijkaa
open Go.RowKit Go.Proofs.YtknmepnghkijkaaW.PrintWords Go.Proofs.YtknmepnghkijkaaW.PrintMore PackPure

set_option maxHeartbeats 800000 in
theorem few_in (a b least most : Int) (w : World) (a0 : -9223372036854775808 ≤ a) (a1 : a ≤ 9223372036854775807) (b0 : -9223372036854775808 ≤ b) (b1 : b ≤ 9223372036854775807) :
    Calls Try.prog 3 #[.int .i64 a, .int .i64 b, .int .i64 least, .int .i64 most] w fun e w' => e = .returned (.bool true) ∧ Ext w w' := by
  have hla := num_le a a0 a1
  have hpa := num_pos a
  have hab : (num a == num b) = (a == b) := by
    rw [Bool.eq_iff_iff]
    simp only [beq_iff_eq]
    exact ⟨num_inj a0 a1 b0 b1, fun h => by rw [h]⟩
  go_enter Try.func3, Try.ntmps3
  go_wp2_with fail
  refine (awake4_any _).mono ?_
  rintro e w1 ⟨rfl, hx1⟩
  go_wp2_with fail
  refine (numnil_any a w1 a0 a1).mono ?_
  rintro e w2 ⟨A2, c2, rfl, hl2, hB2, hx2⟩
  go_wp2_with fail
  refine (numnil_any b w2 b0 b1).mono ?_
  rintro e w3 ⟨A3, c3, rfl, hl3, hB3, hx3⟩
  go_wp2_with fail
  refine (read_any A2 (num a).length c2 (num a) w3 (hB2.ext hx3) rfl (by omega)).mono ?_
  rintro e w4 ⟨g, rfl, hg, hr, hx4⟩
  go_wp2_with fail
  refine (rnum_any g (num a) false least most w4 hr).mono ?_
  rintro e w5 ⟨rfl, hr5, hb5⟩
  have hx5 : Ext w w5 := (((hx1.trans hx2).trans hx3).trans hx4).but hb5 (Nat.le_trans ((hx1.trans hx2).trans hx3).size hg)
  have hx45 : Ext w3 w5 := hx4.but hb5 hg
  have hc2 := (hB2.ext (hx3.trans hx45)).string (num a).length c2 rfl
  have hc3 := (hB3.ext hx45).string (num b).length c3 rfl
  have hS := Str_toList
  have hrd := rdNum_num a a0 a1 [] false least most
  rw [List.append_nil] at hrd
  rw [hrd] at hr5 ⊢
  clear hrd
  have hbadc := fun l bad h => bad_any g l bad w5 h
  have Hbad := Lib.hid hbadc
  clear hbadc
  by_cases hlo : a < least
  · rw [if_pos (Or.inl hlo)] at hr5 ⊢
    go_wp2_with fail
    refine (Hbad.out _ _ hr5).mono ?_
    rintro e w6 ⟨rfl, hw6⟩
    obtain rfl := hw6
    go_wp2
    all_goals go_ret
    all_goals exact ⟨by simp, hx5⟩
  · by_cases hhi : most < a
    · rw [if_pos (Or.inr hhi)] at hr5 ⊢
      go_wp2_with fail
      refine (Hbad.out _ _ hr5).mono ?_
      rintro e w6 ⟨rfl, hw6⟩
      obtain rfl := hw6
      go_wp2
      all_goals go_ret
      all_goals exact ⟨by simp, hx5⟩
    · rw [if_neg (by omega)] at hr5 ⊢
      go_wp2_with fail
      refine (Hbad.out _ _ hr5).mono ?_
      rintro e w6 ⟨rfl, hw6⟩
      obtain rfl := hw6
      go_wp2
      all_goals go_ret
      all_goals exact ⟨by simp, hx5⟩

theorem few_any (a b least most : Int) (w : World) (ha : (Lit.int .i64 a).wf = true) (hb : (Lit.int .i64 b).wf = true) :
    Calls Try.prog 3 #[.int .i64 a, .int .i64 b, .int .i64 least, .int .i64 most] w fun e w' => e = .returned (.bool true) ∧ Ext w w' := by
  have ra : -9223372036854775808 ≤ a ∧ a ≤ 9223372036854775807 := by simpa [Lit.wf, IntKind.min, IntKind.max, IntKind.signed, IntKind.bits] using ha
  have rb : -9223372036854775808 ≤ b ∧ b ≤ 9223372036854775807 := by simpa [Lit.wf, IntKind.min, IntKind.max, IntKind.signed, IntKind.bits] using hb
  exact few_in a b least most w ra.1 ra.2 rb.1 rb.2

end Go.Proofs.Ytknmepnghkijkaa
