/- RefFrame: the walks of the reference's four, Frame, Same. -/
import Derived.Test.YtboihdhmahgggaaFrameScan
import Derived.Test.YtboihdhmahgggaaCrcRef
set_option linter.unusedVariables false
set_option linter.unusedSimpArgs false
set_option maxRecDepth 100000
namespace Go.Proofs.Ytboihdhmahgggaa
open Go.RowKit Go.Proofs.YtboihdhmahgggaaW.PrintWords Go.Proofs.YtboihdhmahgggaaW.PrintLast CrcPure

theorem four_any (v : Nat) (w : World) (h : v < 4294967296) :
    Calls Try.prog 26 #[.int .u32 (v : Int)] w fun e w' => ∃ x, e = .returned x ∧ Ob w' w.heap.size x (n4 v) ∧ Ext w w' := by
  go_enter Try.func26, Try.ntmps26
  go_wp2
  go_ret
  exact ⟨_, rfl, Ob.alloc_at _ _ (n4 v) (Nat.le_refl _) (by simp [n4_length]) _ (n4_B v h _ _ _ _ (by omega) (by omega) (by omega) (by omega)) _ rfl _ rfl, (Ext.refl _).alloc _⟩

set_option maxHeartbeats 800000 in
theorem refframe_any (A1 A2 : Option Addr) (n1 c1 n2 c2 : Nat) (b r : List UInt8) (w : World) (h1 : Bs w A1 b) (h2 : Bs w A2 r) (hn1 : n1 = b.length) (hn2 : n2 = r.length) (hc2 : n2 ≤ c2) (hm1 : n1 ≤ 140737488200000) :
    Calls Try.prog 19 #[.slice A1 n1 c1, .slice A2 n2 c2] w fun e w' => ∃ x, e = .returned (.tuple #[x, .bool (decide (r.length ≤ 65536))]) ∧ Ob w' w.heap.size x (fput b r) ∧ Ext w w' := by
  by_cases hl : 65536 < r.length
  · have hres : fput b r = [] := if_pos hl
    rw [decide_eq_false (by omega)]
    subst hn2
    go_enter Try.func19, Try.ntmps19
    go_wp2
    go_ret2
    exact ⟨_, rfl, by rw [hres]; exact Ob.nil _ _, Ext.refl _⟩
  · have hres : fput b r = b ++ fr r := if_neg hl
    rw [decide_eq_true (by omega), hres, fput_le hl]
    have Hn1 := Lib.hid hn1
    have Hn2 := Lib.hid hn2
    clear hn1 hres
    have hl2 : n2 ≤ 65536 := by omega
    clear hn2 hl
    go_enter Try.func19, Try.ntmps19
    go_wp2_with fail
    refine (four_any n2 w (by omega)).mono ?_
    rintro e w1 ⟨v1, rfl, ho1, hx1⟩
    have h1' := h1.ext hx1
    have h2' := h2.ext hx1
    have h3n := n4_length n2
    generalize hN : n4 n2 = N at *
    have HN := Lib.hid hN
    clear hN
    have hbl : b.length ≤ 140737488200000 := by rw [← Hn1.out]; exact hm1
    have hrl : r.length ≤ 65536 := by rw [← Hn2.out]; exact hl2
    have hlt1 : ∀ k, v1.ownBlock = some k → k < w1.heap.size := fun k hk => (World.ownsRow.lt ho1 k hk).2
    obtain ⟨A3, c3, rfl, hl3, hB3⟩ := ho1.reads
    go_wp2_with ((with_reducible refine gate_dst (N := 17) rfl ?_); refine halt ?_)
    refine unhalt (wp_append rfl _ _ rfl (.slice (some ⟨w1.heap.size, 0, none⟩) 0 0) [] rfl A1 b n1 c1 rfl Hn1.out w1.heap.size (Ob.alloc_at _ _ [] (Nat.le_refl _) (by decide) _ rfl _ rfl _ rfl) (h1'.ext ((Ext.refl _).alloc _)) ((Ext.refl _).alloc _).size (by simp; omega) ?_)
    intro v2 w2 ho2 hg2 _
    have hx2 : Ext w1 w2 := ((Ext.refl _).alloc _).grown (Ob.alloc_at (l := []) _ w1.heap.size (Nat.le_refl _) (by decide) _ rfl _ rfl _ rfl) (Nat.le_refl _) hg2
    clear hg2
    rw [List.nil_append] at ho2
    go_wp2_with ((with_reducible refine gate_dst (N := 19) rfl ?_); refine halt ?_)
    refine unhalt (wp_append rfl _ _ rfl _ b rfl (some ⟨w2.heap.size, 0, none⟩) [1] 1 1 rfl rfl w1.heap.size (ho2.ext ((Ext.refl _).alloc _)) (Bs.alloc_at w2 [1] (by simp) _ (by simp [B]) _ _ _ rfl) (hx2.alloc _).size (by simp; omega) ?_)
    intro v3 w3 ho3 hg3 _
    have hx3 : Ext w1 w3 := (hx2.alloc _).grown (ho2.ext ((Ext.refl _).alloc _)) (Nat.le_refl _) hg3
    clear hg3 ho2
    go_wp2_with ((with_reducible refine gate_dst (N := 21) rfl ?_); refine halt ?_)
    refine unhalt (wp_append rfl _ _ rfl _ _ rfl A3 N 4 c3 rfl h3n.symm w1.heap.size ho3 (hB3.ext hx3) hx3.size (by simp; omega) ?_)
    intro v4 w4 ho4 hg4 _
    have hx4 : Ext w1 w4 := hx3.grown ho3 (Nat.le_refl _) hg4
    clear hg4 ho3
    have hX4 := hx1.trans hx4
    have ho1' := ho1.ext hx4
    rw [h3n] at ho1'
    go_wp2_with ((with_reducible refine gate_dst (N := 25) rfl ?_); refine halt ?_)
    refine unhalt (wp_append rfl _ _ rfl _ _ rfl A2 r n2 c2 rfl Hn2.out w.heap.size ho1' (h2'.ext hx4) hX4.size (by omega) ?_)
    intro v5 w5 ho5 hg5 _
    have hX5 : Ext w w5 := hX4.grown ho1' (Nat.le_refl _) hg5
    have ho4' : Ob w5 w1.heap.size v4 (b ++ [1] ++ N) := ho4.grown hg5 (by
      rcases hv : v4.ownBlock with _ | k
      · exact Or.inl rfl
      · right
        have hk := own_base ho4 k hv
        intro he
        have := hlt1 k (by rw [h3n]; exact he.symm)
        omega)
    have hs5 := hg5.size
    clear hg5 ho4 ho1'
    obtain ⟨A5, c5, rfl, hl5, hB5⟩ := ho5.reads
    have hNr : fsum r = crc (toN (N ++ r)) := by rw [fsum, ← Hn2.out, HN.out]
    have hsl := fsum_lt r
    generalize hS : fsum r = S at *
    have HS := Lib.hid hS
    clear hS
    obtain ⟨M5, HM5⟩ : ∃ M5, Hid (N ++ r = M5) := ⟨_, Lib.hid rfl⟩
    rw [HM5.out] at hB5 ho5 hl5 hNr
    have hl5n : M5.length = 4 + n2 := by rw [← HM5.out, List.length_append, h3n, Hn2.out]
    have hc := ref_any A5 c5 M5 w5 hB5
    rw [← hNr] at hc
    clear hNr
    obtain ⟨m5, Hm5⟩ : ∃ m5, Hid (M5.length = m5) := ⟨_, Lib.hid rfl⟩
    rw [Hm5.out] at hc
    rw [HM5.out, Hm5.out]
    go_wp2_with fail
    refine hc.mono ?_
    rintro e w6 ⟨rfl, hw6⟩
    obtain rfl := hw6
    go_wp2_with fail
    refine (four_any S w5 hsl).mono ?_
    rintro e w6 ⟨v6, rfl, ho6, hx6⟩
    obtain ⟨A6, c6, rfl, hl6, hB6⟩ := ho6.reads
    have h6n := n4_length S
    generalize hM : n4 S = M at *
    have HM := Lib.hid hM
    clear hM
    have hX6 := hX5.trans hx6
    go_wp2_with ((with_reducible refine gate_dst (N := 28) rfl ?_); refine halt ?_)
    refine unhalt (wp_append rfl _ _ rfl _ _ rfl A6 M 4 c6 rfl h6n.symm w1.heap.size (ho4'.ext hx6) hB6 (Nat.le_trans hx4.size (Nat.le_trans hs5 hx6.size)) (by simp; omega) ?_)
    intro v7 w7 ho7 hg7 _
    have hX7 : Ext w w7 := hX6.grown (ho4'.ext hx6) hx1.size hg7
    have hs7 := hg7.size
    clear hg7 ho4' ho6
    go_wp2_with ((with_reducible refine gate_dst (N := 31) rfl ?_); refine halt ?_)
    refine unhalt (wp_append rfl _ _ rfl _ _ rfl A2 r n2 c2 rfl Hn2.out w1.heap.size ho7 (h2.ext hX7) (Nat.le_trans hx4.size (Nat.le_trans hs5 (Nat.le_trans hx6.size hs7))) (by simp; omega) ?_)
    intro v8 w8 ho8 hg8 _
    have hX8 : Ext w w8 := hX7.grown ho7 hx1.size hg8
    clear hg8 ho7
    go_wp2
    go_ret2
    refine ⟨_, rfl, ?_, hX8⟩
    rw [← Hn2.out, HN.out, HS.out, HM.out]
    exact ho8.lower hx1.size

end Go.Proofs.Ytboihdhmahgggaa
