/- CrcSays: the walk. -/
import Derived.Test.YtboihdhmahgggaaCrcRef
set_option linter.unusedVariables false
namespace Go.Proofs.Ytboihdhmahgggaa
open Go.RowKit Go.Proofs.YtboihdhmahgggaaW.PrintWords CrcPure

set_option maxHeartbeats 400000 in
theorem says_any (A1 A2 A3 : Option Addr) (c1 c2 c3 : Nat) (a b c : List UInt8) (w : World) (ha : Bs w A1 a) (hb : Bs w A2 b) (hc : Bs w A3 c) (h1c : a.length ≤ c1) (h2c : b.length ≤ c2) (h3c : c.length ≤ c3) :
    Calls Try.prog 3 #[.slice A1 a.length c1, .slice A2 b.length c2, .slice A3 c.length c3] w fun e w' => e = .returned (.bool true) ∧ Ext w w' := by
  go_enter Try.func3, Try.ntmps3
  go_wp2_with fail
  refine (awake2_any _).mono ?_
  rintro e w1 ⟨rfl, hb1⟩
  by_cases h1 : 300 < a.length
  · go_wp2
    go_ret
    exact ⟨rfl, hb1⟩
  by_cases h2 : 300 < b.length
  · go_wp2
    go_ret
    exact ⟨rfl, hb1⟩
  by_cases h3 : 300 < c.length
  · go_wp2
    go_ret
    exact ⟨rfl, hb1⟩
  go_wp2_with ((with_reducible refine gate_dst (N := 25) rfl ?_); refine halt ?_)
  refine unhalt (wp_append rfl _ _ rfl (.slice (some ⟨w1.heap.size, 0, none⟩) 0 0) [] rfl A1 a a.length c1 rfl rfl w.heap.size (Ob.alloc_at _ _ [] hb1.size (by decide) _ rfl _ rfl _ rfl) (ha.ext (hb1.alloc _)) (hb1.alloc _).size (by simp; omega) ?_)
  intro v1 w2 ho1 hg1 _
  have hb2 : Ext w w2 := (hb1.alloc _).grown (Ob.alloc_at (l := []) _ w.heap.size hb1.size (by decide) _ rfl _ rfl _ rfl) (Nat.le_refl _) hg1
  clear hg1
  go_wp2_with ((with_reducible refine gate_dst (N := 27) rfl ?_); refine halt ?_)
  refine unhalt (wp_append rfl _ _ rfl v1 _ rfl A2 b b.length c2 rfl rfl w.heap.size ho1 (hb.ext hb2) hb2.size (by simp; omega) ?_)
  intro v2 w3 ho2 hg2 _
  have hb3 : Ext w w3 := hb2.grown ho1 (Nat.le_refl _) hg2
  clear hg2 ho1
  go_wp2_with ((with_reducible refine gate_dst (N := 29) rfl ?_); refine halt ?_)
  refine unhalt (wp_append rfl _ _ rfl v2 _ rfl A3 c c.length c3 rfl rfl w.heap.size ho2 (hc.ext hb3) hb3.size (by simp; omega) ?_)
  intro v3 w4 ho3 hg3 _
  have hb4 : Ext w w4 := hb3.grown ho2 (Nat.le_refl _) hg3
  clear hg3 ho2
  have hall : [] ++ a ++ b ++ c = a ++ b ++ c := by simp
  rw [hall] at ho3
  clear hall
  generalize hal : a ++ b ++ c = all at *
  have Hal := Lib.hid hal
  clear hal
  obtain ⟨A4, c4, rfl, hl4, hB4⟩ := ho3.reads
  go_wp2_with fail
  refine (of_any _ 3 [a, b, c] _ (Bss.alloc_at _ [(A1, c1, a), (A2, c2, b), (A3, c3, c)] _ rfl (by simp) ?_ _ rfl _ _ rfl)).mono ?_
  · intro x hx
    simp only [List.mem_cons, List.not_mem_nil, or_false] at hx
    rcases hx with rfl | rfl | rfl
    · exact ⟨h1c, ha.ext hb4⟩
    · exact ⟨h2c, hb.ext hb4⟩
    · exact ⟨h3c, hc.ext hb4⟩
  rintro e w5 ⟨rfl, hw5⟩
  rw [show [a, b, c].flatten = all from by rw [← Hal.out]; simp]
  have hb5 : Ext w w5 := by rw [← hw5]; exact hb4.alloc _
  have hB5 : Bs w5 A4 all := by rw [← hw5]; exact hB4.ext ((Ext.refl _).alloc _)
  have Hw5 := Lib.hid hw5
  clear hw5
  go_wp2_with fail
  refine (ref_any _ c4 all _ hB5).mono ?_
  rintro e w6 ⟨rfl, hw6⟩
  obtain rfl := hw6
  go_wp2_with fail
  refine (of_any _ 1 [all] _ (Bss.alloc_at _ [(A4, c4, all)] _ rfl (by simp) ?_ _ rfl _ _ rfl)).mono ?_
  · intro x hx
    obtain rfl := List.mem_singleton.1 hx
    exact ⟨hl4, hB5⟩
  rintro e w6 ⟨rfl, hw6⟩
  rw [show [all].flatten = all from by simp]
  have hb6 : Ext w w6 := by rw [← hw6]; exact hb5.alloc _
  have Hw6 := Lib.hid hw6
  clear hw6
  go_wp2_with ((with_reducible refine gate_dst (N := 45) rfl ?_); refine halt ?_)
  refine unhalt (wp_append rfl _ _ rfl (.slice (some ⟨w6.heap.size, 0, none⟩) 0 0) [] rfl A2 b b.length c2 rfl rfl w.heap.size (Ob.alloc_at _ _ [] hb6.size (by decide) _ rfl _ rfl _ rfl) (hb.ext (hb6.alloc _)) (hb6.alloc _).size (by simp; omega) ?_)
  intro v7 w7 ho7 hg7 _
  have hb7 : Ext w w7 := (hb6.alloc _).grown (Ob.alloc_at (l := []) _ w.heap.size hb6.size (by decide) _ rfl _ rfl _ rfl) (Nat.le_refl _) hg7
  clear hg7
  go_wp2_with ((with_reducible refine gate_dst (N := 47) rfl ?_); refine halt ?_)
  refine unhalt (wp_append rfl _ _ rfl v7 _ rfl A3 c c.length c3 rfl rfl w.heap.size ho7 (hc.ext hb7) hb7.size (by simp; omega) ?_)
  intro v8 w8 ho8 hg8 _
  have hb8 : Ext w w8 := hb7.grown ho7 (Nat.le_refl _) hg8
  clear hg8 ho7
  generalize hbc : [] ++ b ++ c = bc at *
  have Hbc := Lib.hid hbc
  clear hbc
  obtain ⟨A8, c8, rfl, hl8, hB8⟩ := ho8.reads
  go_wp2_with fail
  refine (of_any _ 2 [a, bc] _ (Bss.alloc_at _ [(A1, c1, a), (A8, c8, bc)] _ rfl (by simp) ?_ _ rfl _ _ rfl)).mono ?_
  · intro x hx
    simp only [List.mem_cons, List.not_mem_nil, or_false] at hx
    rcases hx with rfl | rfl
    · exact ⟨h1c, ha.ext hb8⟩
    · exact ⟨hl8, hB8⟩
  rintro e w9 ⟨rfl, hw9⟩
  rw [show [a, bc].flatten = all from by rw [← Hal.out, ← Hbc.out]; simp]
  have hb9 : Ext w w9 := by rw [← hw9]; exact hb8.alloc _
  have Hw9 := Lib.hid hw9
  clear hw9
  go_wp2
  go_ret
  exact ⟨rfl, hb9⟩

end Go.Proofs.Ytboihdhmahgggaa
