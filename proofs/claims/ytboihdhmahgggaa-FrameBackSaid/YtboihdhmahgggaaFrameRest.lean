/- FrameRest: the walks of awake of layer 3, of FrameRest, of FrameTorn. -/
import Derived.Test.YtboihdhmahgggaaFrameScan
set_option linter.unusedVariables false
set_option linter.unusedSimpArgs false
set_option maxRecDepth 100000
namespace Go.Proofs.Ytboihdhmahgggaa
open Go.RowKit Go.Proofs.YtboihdhmahgggaaW.PrintWords Go.Proofs.YtboihdhmahgggaaW.PrintLast CrcPure

theorem put_ok (A1 A2 : Option Addr) (n1 c1 n2 c2 : Nat) (b r : List UInt8) (w : World) (h1 : Bs w A1 b) (h2 : Bs w A2 r) (hn1 : n1 = b.length) (hn2 : n2 = r.length) (hc2 : n2 ≤ c2) (hm1 : n1 ≤ 140737488200000) (hr : r.length ≤ 65536) :
    Calls Try.prog 16 #[.slice A1 n1 c1, .slice A2 n2 c2] w fun e w' => ∃ A c, e = .returned (.tuple #[.slice A (b.length + (9 + r.length)) c, .int .i64 0]) ∧ b.length + (9 + r.length) ≤ c ∧ Bs w' A (b ++ fr r) ∧ Ob w' w.heap.size (.slice A (b.length + (9 + r.length)) c) (b ++ fr r) ∧ Ext w w' := by
  refine (fput_any A1 A2 n1 c1 n2 c2 b r w h1 h2 hn1 hn2 hc2 hm1).mono ?_
  rintro e w' ⟨x, rfl, ho, hx⟩
  have hl : (b ++ fr r).length = b.length + (9 + r.length) := by rw [List.length_append, fr_length]
  rw [show fput b r = b ++ fr r from if_neg (by omega)] at ho
  rw [if_neg (by omega)]
  obtain ⟨A, c, rfl, hc, hB⟩ := ho.reads
  rw [hl] at ho hc ⊢
  exact ⟨A, c, rfl, hc, hB, ho, hx⟩
theorem get_ok (A : Option Addr) (n c : Nat) (r rest : List UInt8) (w : World) (hb : Bs w A (fr r ++ rest)) (hn : n = (fr r ++ rest).length) (hc : n ≤ c) (hm : n ≤ 140737488355328) (hr : r.length ≤ 65536) :
    Calls Try.prog 17 #[.slice A n c] w fun e w' => ∃ A1 c1 A2 c2, e = .returned (.tuple #[.slice A1 r.length c1, .slice A2 rest.length c2, .int .i64 0]) ∧ r.length ≤ c1 ∧ rest.length ≤ c2 ∧ Bs w' A1 r ∧ Bs w' A2 rest ∧ Ext w w' := by
  refine (fget_any A n c _ w hb hn hc hm).mono ?_
  rintro e w' ⟨x, y, rfl, hox, hoy, hx⟩
  rw [fget_fr r rest hr] at hox hoy ⊢
  obtain ⟨A1, c1, rfl, hc1, hB1⟩ := hox.reads
  obtain ⟨A2, c2, rfl, hc2, hB2⟩ := hoy.reads
  exact ⟨A1, c1, A2, c2, rfl, hc1, hc2, hB1, hB2, hx⟩

theorem Bs.none_nil {w : World} {l : List UInt8} (h : Bs w none l) : l = [] := by
  rcases l with _ | ⟨b, l⟩
  · rfl
  · obtain ⟨ad, h', _⟩ := h.at 0 (by simp)
    cases h'

set_option maxHeartbeats 800000 in
theorem awake3_any (w : World) : Calls Try.prog 15 #[] w fun e w' => e = .returned (.bool true) ∧ Ext w w' := by
  have hc := fun (W : World) (C : Array Value) (n c : Nat) => Lib.run_convert_bytes_const (P := Try.prog) W 22 5 C n c Try.underlying22 Try.underlying5
  go_enter Try.func15, Try.ntmps15
  go_wp2_with fail
  refine (put_ok none _ 0 0 2 2 [] [97, 98] _ (Bs.nil _) (Bs.alloc _ [97, 98] (by decide) _ rfl _ _) rfl rfl (Nat.le_refl _) (by omega) (by decide)).mono ?_
  rintro e w1 ⟨A1, c1, rfl, hl1, hB1, _, hx1⟩
  have hX1 := ((Ext.refl w).alloc _).trans hx1
  simp only [List.length_nil, List.length_cons, Nat.zero_add, Nat.reduceAdd, List.nil_append] at hl1 hB1 ⊢
  go_wp2_with fail
  refine (get_ok A1 11 c1 [97, 98] [] w1 (by rw [List.append_nil]; exact hB1) (by rw [List.append_nil, fr_length]; rfl) hl1 (by omega) (by decide)).mono ?_
  rintro e w2 ⟨A2, c2, A3, c3, rfl, hl2, hl3, hB2, hB3, hx2⟩
  have hS := Str_toList
  have hcv := hB2.string 2 c2 rfl
  simp only [List.length_nil, List.length_cons, Nat.zero_add, Nat.reduceAdd, List.nil_append] at hl2 hl3 ⊢
  go_wp2
  go_ret
  exact ⟨rfl, hX1.trans hx2⟩

set_option maxHeartbeats 1600000 in
theorem rest_any (A1 A2 : Option Addr) (c1 c2 : Nat) (r s : List UInt8) (w : World) (h1 : Bs w A1 r) (h2 : Bs w A2 s) (hc1 : r.length ≤ c1) (hc2 : s.length ≤ c2) :
    Calls Try.prog 7 #[.slice A1 r.length c1, .slice A2 s.length c2] w fun e w' => e = .returned (.bool true) ∧ Ext w w' := by
  go_enter Try.func7, Try.ntmps7
  go_wp2_with fail
  refine (awake3_any _).mono ?_
  rintro e w1 ⟨rfl, hx1⟩
  by_cases q1 : 200 < r.length
  · go_wp2
    all_goals go_ret
    all_goals exact ⟨rfl, hx1⟩
  by_cases q2 : 200 < s.length
  · go_wp2
    all_goals go_ret
    all_goals exact ⟨rfl, hx1⟩
  go_wp2_with fail
  refine (put_ok none A1 0 0 r.length c1 [] r w1 (Bs.nil _) (h1.ext hx1) rfl rfl hc1 (by omega) (by omega)).mono ?_
  rintro e w2 ⟨A3, c3, rfl, hl3, hB3, _, hx2⟩
  have hX2 := hx1.trans hx2
  simp only [List.length_nil, Nat.zero_add, List.nil_append] at hl3 hB3 ⊢
  have h3n := fr_length r
  have hg := @fget_fr r s (by omega)
  obtain ⟨F, HF⟩ : ∃ F, Hid (fr r = F) := ⟨_, Lib.hid rfl⟩
  obtain ⟨m, Hm⟩ : ∃ m, Hid (9 + r.length = m) := ⟨_, Lib.hid rfl⟩
  rw [HF.out, Hm.out] at h3n
  rw [HF.out] at hB3
  rw [Hm.out] at hl3 ⊢
  clear hg
  obtain ⟨G, HG⟩ : ∃ G, Hid (F ++ s = G) := ⟨_, Lib.hid rfl⟩
  have hGl : G.length = m + s.length := by rw [← HG.out, List.length_append, h3n]
  go_wp2_with ((with_reducible refine gate_dst (N := 30) rfl ?_); refine halt ?_)
  refine unhalt (wp_append rfl _ _ rfl (.slice (some ⟨w2.heap.size, 0, none⟩) 0 0) [] rfl A3 F m c3 rfl h3n.symm w2.heap.size (Ob.alloc_at _ _ [] (Nat.le_refl _) (by decide) _ rfl _ rfl _ rfl) (hB3.ext ((Ext.refl _).alloc _)) ((Ext.refl _).alloc _).size (by simp; have := Hm.out; omega) ?_)
  intro v3 w3 ho3 hg3 _
  have hx3 : Ext w2 w3 := ((Ext.refl _).alloc _).grown (Ob.alloc_at (l := []) _ w2.heap.size (Nat.le_refl _) (by decide) _ rfl _ rfl _ rfl) (Nat.le_refl _) hg3
  clear hg3
  rw [List.nil_append] at ho3
  go_wp2_with ((with_reducible refine gate_dst (N := 32) rfl ?_); refine halt ?_)
  refine unhalt (wp_append rfl _ _ rfl v3 F rfl A2 s s.length c2 rfl rfl w2.heap.size ho3 (h2.ext (hX2.trans hx3)) hx3.size (by have := Hm.out; omega) ?_)
  intro v4 w4 ho4 hg4 _
  have hx4 : Ext w2 w4 := hx3.grown ho3 (Nat.le_refl _) hg4
  clear hg4 ho3
  obtain ⟨A4, c4, rfl, hl4, hB4⟩ := ho4.reads
  rw [HG.out] at hB4 ho4 hl4 ⊢
  rw [hGl] at hl4 ⊢
  have HGl := Lib.hid hGl
  clear hGl ho4
  obtain ⟨m4, Hm4⟩ : ∃ m4, Hid (m + s.length = m4) := ⟨_, Lib.hid rfl⟩
  rw [Hm4.out] at hl4 ⊢
  go_wp2_with fail
  refine (get_ok A4 m4 c4 r s w4 (by rw [HF.out, HG.out]; exact hB4) (by rw [HF.out, HG.out, HGl.out, Hm4.out]) hl4 (by have := Hm4.out; have := Hm.out; omega) (by omega)).mono ?_
  rintro e w5 ⟨A5, c5, A6, c6, rfl, hl5, hl6, hB5, hB6, hx5⟩
  have hx5' := hx4.trans hx5
  have hX5 := hX2.trans hx5'
  go_wp2_with fail
  refine (put_ok A2 A1 s.length c2 r.length c1 s r w5 (h2.ext hX5) (h1.ext hX5) rfl rfl hc1 (by omega) (by omega)).mono ?_
  rintro e w6 ⟨A7, c7, rfl, hl7, hB7, _, hx6⟩
  have hX6 := hX5.trans hx6
  rw [HF.out] at hB7
  rw [Hm.out] at hl7 ⊢
  obtain ⟨Z, HZ⟩ : ∃ Z, Hid (s ++ F = Z) := ⟨_, Lib.hid rfl⟩
  rw [HZ.out] at hB7
  have hZl : s.length + m = Z.length := by rw [← HZ.out, List.length_append, h3n]
  have hv1 := (h1.ext hX6).string r.length c1 rfl
  have hv2 := (h2.ext hX6).string s.length c2 rfl
  have hv3 := (hB3.ext (hx5'.trans hx6)).string m c3 h3n.symm
  have hv5 := (hB5.ext hx6).string r.length c5 rfl
  have hv6 := (hB6.ext hx6).string s.length c6 rfl
  have hv7 := hB7.string (s.length + m) c7 hZl
  have hS := Str_toList
  have hS2 : (Str s ++ Str F).toList = Z := by
    rw [← HZ.out, ← Str_toList (s ++ F)]
    congr 1
  have hs1 : ¬ 9223372036854775807 < (Str s).size + (Str F).size := by
    have h1 : (Str s).size = s.length := by simp [Str, ByteArray.size]
    have h2 : (Str F).size = F.length := by simp [Str, ByteArray.size]
    have := Hm.out
    omega
  clear hZl
  go_wp2
  go_ret
  exact ⟨rfl, hX6⟩

set_option maxHeartbeats 1600000 in
theorem torn_any (A1 : Option Addr) (c1 : Nat) (r : List UInt8) (cut : Int) (w : World) (h1 : Bs w A1 r) (hc1 : r.length ≤ c1) :
    Calls Try.prog 11 #[.slice A1 r.length c1, .int .i64 cut] w fun e w' => e = .returned (.bool true) ∧ Ext w w' := by
  go_enter Try.func11, Try.ntmps11
  go_wp2_with fail
  refine (awake3_any _).mono ?_
  rintro e w1 ⟨rfl, hx1⟩
  by_cases q1 : 200 < r.length
  · go_wp2
    all_goals go_ret
    all_goals exact ⟨rfl, hx1⟩
  go_wp2_with fail
  refine (put_ok none A1 0 0 r.length c1 [] r w1 (Bs.nil _) (h1.ext hx1) rfl rfl hc1 (by omega) (by omega)).mono ?_
  rintro e w2 ⟨A3, c3, rfl, hl3, hB3, _, hx2⟩
  have hX2 := hx1.trans hx2
  simp only [List.length_nil, Nat.zero_add, List.nil_append] at hl3 hB3 ⊢
  have h3n := fr_length r
  have ht := fget_torn r (by omega)
  obtain ⟨F, HF⟩ : ∃ F, Hid (fr r = F) := ⟨_, Lib.hid rfl⟩
  obtain ⟨m, Hm⟩ : ∃ m, Hid (9 + r.length = m) := ⟨_, Lib.hid rfl⟩
  rw [HF.out, Hm.out] at h3n
  rw [HF.out] at hB3 ht
  rw [Hm.out] at hl3 ⊢
  rw [h3n] at ht
  have Hl := Lib.hid h3n
  clear h3n
  by_cases q2 : 0 ≤ cut ∧ cut < m
  case neg =>
    by_cases q3 : cut < 0
    · go_wp2
      all_goals go_ret
      all_goals exact ⟨rfl, hX2⟩
    · have q4 : (m : Int) ≤ cut := by omega
      clear q2 ht
      go_wp2
      all_goals go_ret
      all_goals exact ⟨rfl, hX2⟩
  obtain ⟨k, rfl⟩ := Int.eq_ofNat_of_zero_le q2.1
  have hkm : k < m := by omega
  have hmm : m ≤ 209 := by have := Hm.out; omega
  have hk := ht k hkm
  obtain ⟨hc4, hBf, hl4⟩ := bs_head A3 m c3 F (k : Int) k rfl Hl.out.symm hl3 (by omega)
  have hB4 := hBf w2 hB3
  obtain ⟨T, HT⟩ : ∃ T, Hid (F.take k = T) := ⟨_, Lib.hid rfl⟩
  rw [HT.out] at hk hB4 hl4
  have Hl4 := Lib.hid hl4
  clear hBf hl4 ht
  go_wp2_with fail
  refine (fget_any A3 k c3 T w2 hB4 Hl4.out (by omega) (by omega)).mono ?_
  rintro e w3 ⟨x, y, rfl, hox, hoy, hx3⟩
  rw [hk] at hox hoy ⊢
  obtain ⟨A5, c5, rfl, hc5, hB5⟩ := hox.reads
  obtain ⟨A6, c6, rfl, hc6, hB6⟩ := hoy.reads
  simp only [List.length_nil]
  go_wp2_with fail
  refine (fscan_any A3 k c3 T w3 (hB4.ext hx3) Hl4.out (by omega) (by omega)).mono ?_
  rintro e w4 ⟨v, rfl, hx4, l, hol, hl⟩
  have hs : fscan k T = ([], T, decide (k = 0)) := by
    rw [fscan_bad k T (by rw [hk]; simp), Hl4.out]
    cases T <;> rfl
  rw [hs] at hl ⊢
  obtain rfl : l = [] := by simpa using hl
  obtain ⟨A7, c7, rfl, hc7, hB7⟩ := hol.reads
  simp only [List.length_nil]
  have hkk : (k : Int) - (T.length : Nat) = 0 := by rw [← Hl4.out]; omega
  rw [hkk]
  have hX4 := hX2.trans (hx3.trans hx4)
  clear hk hs
  by_cases q5 : k = 0
  · subst q5
    go_wp2
    go_ret
    exact ⟨rfl, hX4⟩
  · have q6 : ((k : Int) == 0) = false := by simp; omega
    rw [decide_eq_false q5]
    go_wp2
    go_ret
    exact ⟨rfl, hX4⟩

end Go.Proofs.Ytboihdhmahgggaa
