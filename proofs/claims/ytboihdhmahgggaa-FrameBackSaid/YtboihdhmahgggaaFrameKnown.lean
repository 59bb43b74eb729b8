/- FrameKnown: the walk. -/
import Derived.Test.YtboihdhmahgggaaFrameRest
set_option linter.unusedVariables false
set_option linter.unusedSimpArgs false
set_option maxRecDepth 100000
namespace Go.Proofs.Ytboihdhmahgggaa
open Go.RowKit Go.Proofs.YtboihdhmahgggaaW.PrintWords Go.Proofs.YtboihdhmahgggaaW.PrintLast CrcPure

theorem get_no (A : Option Addr) (n c : Nat) (b : List UInt8) (k : Nat) (w : World) (hb : Bs w A b) (hn : n = b.length) (hc : n ≤ c) (hm : n ≤ 140737488355328) (hk : fget b = ([], [], k)) :
    Calls Try.prog 17 #[.slice A n c] w fun e w' => ∃ x y, e = .returned (.tuple #[x, y, .int .i64 (k : Int)]) ∧ Ext w w' := by
  refine (fget_any A n c b w hb hn hc hm).mono ?_
  rintro e w' ⟨x, y, rfl, _, _, hx⟩
  rw [hk]
  exact ⟨x, y, rfl, hx⟩
theorem Ob.place {w : World} {base : Nat} {v : Value} {l : List UInt8} (h : Ob w base v l) (hne : l ≠ []) : ∃ g cap, v = .slice (some ⟨g, 0, none⟩) l.length cap ∧ l.length ≤ cap := by
  rcases h.2 with ⟨rfl, h0⟩ | ⟨g, cap, cur, rfl, hg, hh, hn, _⟩
  · exact absurd (List.eq_nil_of_length_eq_zero h0) hne
  · exact ⟨g, cap, rfl, hn⟩
def AB : List UInt8 := fr [97, 98]
theorem AB_length : AB.length = 11 := rfl
theorem k1 : fget [2] = ([], [], 3) := by decide +kernel
theorem k2 : fget (AB.take 10) = ([], [], 8) := fget_torn [97, 98] (by decide) 10 (by rw [fr_length]; decide)
theorem k3 : fget [1, 0, 0, 1] = ([], [], 8) := by decide +kernel
theorem k4 : fget [1, 1, 0, 1, 0] = ([], [], 3) := by decide +kernel
theorem k5 : fget (AB.set 10 99) = ([], [], 3) := by decide +kernel
theorem k6 : fscan 13 (AB ++ [1, 2]) = ([[97, 98]], [1, 2], false) := by decide +kernel
theorem k7 : AB.getD 10 0 = 98 := by decide +kernel

set_option maxHeartbeats 3200000 in
theorem known3_any (w : World) : Calls Try.prog 8 #[] w fun e w' => e = .returned (.bool true) ∧ Ext w w' := by
  have hc := fun (W : World) (C : Array Value) (n c : Nat) => Lib.run_convert_bytes_const (P := Try.prog) W 22 5 C n c Try.underlying22 Try.underlying5
  go_enter Try.func8, Try.ntmps8
  go_wp2_with fail
  refine (awake3_any _).mono ?_
  rintro e w1 ⟨rfl, hx1⟩
  go_wp2_with fail
  refine (put_ok none _ 0 0 2 2 [] [97, 98] _ (Bs.nil _) (Bs.alloc _ [97, 98] (by decide) _ rfl _ _) rfl rfl (Nat.le_refl _) (by omega) (by decide)).mono ?_
  rintro e w2 ⟨A1, c1, rfl, hl1, hB1, _, hx2⟩
  have hX2 := (hx1.alloc _).trans hx2
  rw [List.nil_append, show fr [97, 98] = AB from rfl] at hB1
  simp only [List.length_nil, List.length_cons, Nat.zero_add, Nat.reduceAdd] at hl1 ⊢
  have hmk : ∀ W : World, (Instr.makeSlice 22 (.int .i64 65537) (.int .i64 65537)).run Try.prog W = .ok (.slice (some ⟨W.heap.size, 0, none⟩) 65537 65537) (W.alloc (.cells (madeCells #[.int .u8 0] 65537) 5)) := make_bytes 65537 (by omega)
  have hO := Ob.made w2 w2.heap.size 65537 (Nat.le_refl _) (by omega) _ rfl
  obtain ⟨A0, c0, he0, hl0, hB0⟩ := hO.reads
  obtain ⟨rfl, rfl⟩ : A0 = some ⟨w2.heap.size, 0, none⟩ ∧ c0 = 65537 := by
    injection he0 with h1 h2 h3
    exact ⟨h1.symm, h3.symm⟩
  have hZl : (List.replicate 65537 (0 : UInt8)).length = 65537 := List.length_replicate
  generalize List.replicate 65537 (0 : UInt8) = Z at *
  clear hO he0 hl0
  go_wp2_with fail
  refine (fput_any none _ 0 0 65537 65537 [] Z _ (Bs.nil _) hB0 rfl hZl.symm (Nat.le_refl _) (by omega)).mono ?_
  rintro e w3 ⟨x3, rfl, _, hx3⟩
  rw [if_pos (by omega)]
  have hX3 := (hX2.alloc _).trans hx3
  have hY3 := ((Ext.refl w2).alloc _).trans hx3
  clear hx2 hx3 hB0 hmk
  go_wp2_with fail
  refine (get_no none 0 0 [] 8 w3 (Bs.nil _) rfl (Nat.le_refl _) (by omega) fget_nil).mono ?_
  rintro e w4 ⟨x4, y4, rfl, hx4⟩
  have hX4 := hX3.trans hx4
  have hY4 := hY3.trans hx4
  go_wp2_with fail
  refine (get_no _ 1 1 [2] 3 _ (Bs.alloc _ [2] (by decide) _ (by rfl) _ _) rfl (Nat.le_refl _) (by omega) k1).mono ?_
  rintro e w5 ⟨x5, y5, rfl, hx5⟩
  have hX5 := (hX4.alloc _).trans hx5
  have hY5 := (hY4.alloc _).trans hx5
  obtain ⟨hc6, hBf6, hl6⟩ := bs_head A1 11 c1 AB 10 10 rfl AB_length.symm hl1 (by omega)
  have Hl6 := Lib.hid hl6
  clear hl6
  go_wp2_with fail
  refine (get_no A1 10 c1 (AB.take 10) 8 _ (hBf6 _ (hB1.ext hY5)) Hl6.out (by omega) (by omega) k2).mono ?_
  rintro e w6 ⟨x6, y6, rfl, hx6⟩
  have hX6 := hX5.trans hx6
  have hY6 := hY5.trans hx6
  clear hc6 hBf6
  go_wp2_with fail
  refine (get_no _ 4 4 [1, 0, 0, 1] 8 _ (Bs.alloc _ [1, 0, 0, 1] (by decide) _ (by rfl) _ _) rfl (Nat.le_refl _) (by omega) k3).mono ?_
  rintro e w7 ⟨x7, y7, rfl, hx7⟩
  have hX7 := (hX6.alloc _).trans hx7
  have hY7 := (hY6.alloc _).trans hx7
  go_wp2_with fail
  refine (get_no _ 5 5 [1, 1, 0, 1, 0] 3 _ (Bs.alloc _ [1, 1, 0, 1, 0] (by decide) _ (by rfl) _ _) rfl (Nat.le_refl _) (by omega) k4).mono ?_
  rintro e w8 ⟨x8, y8, rfl, hx8⟩
  have hX8 := (hX7.alloc _).trans hx8
  have hY8 := (hY7.alloc _).trans hx8
  clear hx1 hX2 hX3 hX4 hX5 hX6 hX7 hY3 hY4 hY5 hY6 hY7 hx4 hx5 hx6 hx7 hx8
  go_wp2_with ((with_reducible refine gate_dst (N := 72) rfl ?_); refine halt ?_)
  refine unhalt (wp_append rfl _ _ rfl (.slice (some ⟨w8.heap.size, 0, none⟩) 0 0) [] rfl A1 AB 11 c1 rfl AB_length.symm w8.heap.size (Ob.alloc_at _ _ [] (Nat.le_refl _) (by decide) _ rfl _ rfl _ rfl) ((hB1.ext hY8).ext ((Ext.refl _).alloc _)) ((Ext.refl _).alloc _).size (by decide) ?_)
  intro v9 w9 ho9 hg9 _
  have hx9 : Ext w8 w9 := ((Ext.refl _).alloc _).grown (Ob.alloc_at (l := []) _ w8.heap.size (Nat.le_refl _) (by decide) _ rfl _ rfl _ rfl) (Nat.le_refl _) hg9
  clear hg9
  rw [List.nil_append] at ho9
  obtain ⟨g, cap, rfl, hcap⟩ := ho9.place (by decide)
  rw [AB_length] at ho9 hcap ⊢
  obtain ⟨hd, hf⟩ := ho9.at rfl 10 (by decide)
  have hst := ho9.store rfl 10 99
  have hgb := ho9.block
  rw [k7] at hd
  have hx10 : Ext w8 (w9.setCell ⟨g, 10, none⟩ (.int .u8 ((99 : UInt8).toNat : Int))) := hx9.setCell hgb _
  have e98 : ((98 : UInt8).toNat : Int) = 98 := rfl
  have e99 : ((99 : UInt8).toNat : Int) = 99 := rfl
  rw [e98] at hd
  rw [e99] at hst hx10
  obtain ⟨A9, c9, he9, hl9, hB9⟩ := hst.reads
  have hl11 : (AB.set 10 99).length = 11 := rfl
  rw [hl11] at he9
  obtain ⟨rfl, rfl⟩ : A9 = some ⟨g, 0, none⟩ ∧ c9 = cap := by
    injection he9 with h1 h2 h3
    exact ⟨h1.symm, h3.symm⟩
  clear he9 hl9
  have hX10 := hX8.trans hx10
  have hY10 := hY8.trans hx10
  clear hst
  go_wp2_with fail
  refine (get_no _ 11 c9 (AB.set 10 99) 3 _ hB9 rfl hcap (by omega) k5).mono ?_
  rintro e w11 ⟨x11, y11, rfl, hx11⟩
  have hX11 := hX10.trans hx11
  have hY11 := hY10.trans hx11
  clear hX10 hY10 hx10 hx11 hB9 hd hf hx9 ho9
  go_wp2_with ((with_reducible refine gate_dst (N := 87) rfl ?_); refine halt ?_)
  refine unhalt (wp_append rfl _ _ rfl (.slice (some ⟨w11.heap.size, 0, none⟩) 0 0) [] rfl A1 AB 11 c1 rfl AB_length.symm w11.heap.size (Ob.alloc_at _ _ [] (Nat.le_refl _) (by decide) _ rfl _ rfl _ rfl) ((hB1.ext hY11).ext ((Ext.refl _).alloc _)) ((Ext.refl _).alloc _).size (by decide) ?_)
  intro v12 w12 ho12 hg12 _
  have hx12 : Ext w11 w12 := ((Ext.refl _).alloc _).grown (Ob.alloc_at (l := []) _ w11.heap.size (Nat.le_refl _) (by decide) _ rfl _ rfl _ rfl) (Nat.le_refl _) hg12
  clear hg12
  rw [List.nil_append] at ho12
  go_wp2_with ((with_reducible refine gate_dst (N := 89) rfl ?_); refine halt ?_)
  refine unhalt (wp_append rfl _ _ rfl _ AB rfl (some ⟨w12.heap.size, 0, none⟩) [1, 2] 2 2 rfl rfl w11.heap.size (ho12.ext ((Ext.refl _).alloc _)) (Bs.alloc_at w12 [1, 2] (by decide) _ (by rfl) _ _ _ rfl) (hx12.alloc _).size (by decide) ?_)
  intro v13 w13 ho13 hg13 _
  have hx13 : Ext w11 w13 := (hx12.alloc _).grown (ho12.ext ((Ext.refl _).alloc _)) (Nat.le_refl _) hg13
  clear hg13 ho12
  obtain ⟨A13, c13, rfl, hl13, hB13⟩ := ho13.reads
  have h13 : (AB ++ ([1, 2] : List UInt8)).length = 13 := rfl
  rw [h13] at hl13 ⊢
  clear h13
  go_wp2_with fail
  refine (fscan_any A13 13 c13 (AB ++ [1, 2]) w13 hB13 rfl hl13 (by omega)).mono ?_
  rintro e w14 ⟨v, rfl, hx14, l, hol, hl⟩
  rw [k6] at hl ⊢
  obtain ⟨A14, c14, rfl, hc14, _⟩ := hol.reads
  have hl1 : l.length = 1 := by
    have := congrArg List.length hl
    simpa using this
  rw [hl1]
  have hX14 := hX11.trans (hx13.trans hx14)
  clear hl hol
  go_wp2
  go_ret
  exact ⟨rfl, hX14⟩

end Go.Proofs.Ytboihdhmahgggaa
