/- FrameGet: the walk of frame.Get. -/
import Derived.Test.YtboihdhmahgggaaFrame
import Derived.Test.YtboihdhmahgggaaCut
import Derived.Test.YtboihdhmahgggaaRegion
set_option linter.unusedVariables false
set_option linter.unusedSimpArgs false
set_option maxRecDepth 100000
namespace Go.Proofs.Ytboihdhmahgggaa
open Go.RowKit Go.Proofs.YtboihdhmahgggaaW.PrintWords Go.Proofs.YtboihdhmahgggaaW.PrintLast CrcPure

theorem fmin2_int (k k' : IntKind) (x y : Int) : Builtin.min2 (.int k x) (.int k' y) = pure (.int k (if y < x then y else x)) := by simp only [Builtin.min2]
theorem fmin_two (ats : Array TypeId) (ty : TypeId) (a b : Value) : Builtin.min_ ats ty #[a, b] = (Builtin.min2 a b >>= fun s => pure s) := by simp only [Builtin.min_, List.foldlM_cons, List.foldlM_nil]
theorem fmin_nat (ats : Array TypeId) (ty : TypeId) (n m : Nat) (h : m = min 5 n) : Builtin.min_ ats ty #[.int .i64 5, .int .i64 (n : Int)] = pure (.int .i64 (m : Int)) := by
  rw [fmin_two, fmin2_int, h]
  simp only [pure_bind]
  congr 2
  split <;> omega
theorem rd4_take (l : List UInt8) (k : Nat) : rd4 (l.take k) = rd4 ((l.take 4).take k) ∨ 4 < k := by
  by_cases h : 4 < k
  · exact Or.inr h
  · left; rw [List.take_take, Nat.min_eq_left (by omega)]

set_option maxHeartbeats 1600000 in
theorem fget_any (A : Option Addr) (n c : Nat) (b : List UInt8) (w : World) (hb : Bs w A b) (hn : n = b.length) (hc : n ≤ c) (hm : n ≤ 140737488355328) :
    Calls Try.prog 17 #[.slice A n c] w fun e w' => ∃ x y, e = .returned (.tuple #[x, y, .int .i64 ((fget b).2.2 : Nat)]) ∧ Ob w' w.heap.size x (fget b).1 ∧ Ob w' w.heap.size y (fget b).2.1 ∧ Ext w w' := by
  by_cases h0 : b = []
  · subst h0
    rw [fget_nil]
    subst hn
    go_enter Try.func17, Try.ntmps17
    go_wp2
    go_ret3
    exact ⟨_, _, rfl, Ob.nil _ _, Ob.nil _ _, Ext.refl _⟩
  have hn0 : 1 ≤ n := by
    rcases b with _ | ⟨x, l⟩
    · exact absurd rfl h0
    · subst hn; simp
  obtain ⟨m, Hm⟩ : ∃ m, Hid (m = min 5 n) := ⟨_, Lib.hid rfl⟩
  have hm1 : 1 ≤ m ∧ m ≤ n ∧ m ≤ 5 ∧ (5 ≤ n → m = 5) := by have := Hm.out; omega
  have hmin := fun ats ty => fmin_nat ats ty n m Hm.out
  obtain ⟨A1, hc1, hBf, hl1, hc1'⟩ := bs_mid A n c b 1 (m : Int) 1 m rfl rfl hn hc hm1.1 hm1.2.1
  have hB1 := hBf w hb
  clear hBf
  have e1 : (b.drop 1).take (m - 1) = (b.drop 1).take 4 := by
    by_cases h5 : 5 ≤ n
    · rw [hm1.2.2.2 h5]
    · rw [List.take_of_length_le (by rw [List.length_drop]; have := Hm.out; omega), List.take_of_length_le (by rw [List.length_drop]; omega)]
  have hone : b.getD 0 0 = b.getD 0 0 := rfl
  obtain ⟨ad, rfl, hcell⟩ := hb.at 0 (by omega)
  rw [show ad.add 0 = ad from by simp [Addr.add]] at hcell
  have hdef : fget b = fget b := rfl
  conv at hdef => rhs; unfold fget
  rw [if_neg h0] at hdef
  obtain ⟨L, HL⟩ : ∃ L, Hid ((b.drop 1).take 4 = L) := ⟨_, Lib.hid rfl⟩
  rw [HL.out] at hdef e1
  rw [e1] at hB1 hl1
  have hL4 : rd4 L < 4294967296 := rd4_lt4 L (by rw [hl1]; omega)
  obtain ⟨v, Hv⟩ : ∃ v, Hid (rd4 L = v) := ⟨_, Lib.hid rfl⟩
  obtain ⟨b0, Hb0⟩ : ∃ v, Hid (b.getD 0 0 = v) := ⟨_, Lib.hid rfl⟩
  rw [Hv.out] at hdef hL4
  rw [Hb0.out] at hdef hcell
  have hbr := B_range b0
  have Hn := Lib.hid hn
  have Hdef := Lib.hid hdef
  have Hl1 := Lib.hid hl1
  clear hdef hone h0 hn hl1 e1
  go_enter Try.func17, Try.ntmps17
  have hmL : m - 1 ≤ 4 := by omega
  go_wp2_with fail
  refine (fread_any A1 (m - 1) (c - 1) L w hB1 Hl1.out.symm hmL).mono ?_
  rintro e w1 ⟨rfl, hw1⟩
  obtain rfl := hw1
  rw [Hv.out]
  by_cases q1 : b0 = 1
  case neg =>
    have hres : fget b = ([], [], 3) := by rw [Hdef.out, if_pos (Or.inl q1)]
    have qb : ¬ ((b0.toNat : Int) = 1) := by
      have : b0.toNat ≠ 1 := fun h => q1 (UInt8.toNat_inj.1 h)
      omega
    clear q1
    go_wp2
    go_ret3
    exact ⟨_, _, by rw [hres]; rfl, by rw [hres]; exact Ob.nil _ _, by rw [hres]; exact Ob.nil _ _, Ext.refl _⟩
  case pos =>
    subst q1
    rw [show (((1 : UInt8).toNat : Int)) = 1 from rfl] at hcell
    by_cases q2 : 65536 < v
    · have hres : fget b = ([], [], 3) := by rw [Hdef.out, if_pos (Or.inr q2)]
      go_wp2
      go_ret3
      exact ⟨_, _, by rw [hres]; rfl, by rw [hres]; exact Ob.nil _ _, by rw [hres]; exact Ob.nil _ _, Ext.refl _⟩
    by_cases q3 : n < 9 + v
    · have hres : fget b = ([], [], 8) := by rw [Hdef.out, if_neg (by simp only [ne_eq, not_true_eq_false, false_or]; exact q2), if_pos (by rw [← Hn.out]; exact q3)]
      go_wp2
      go_ret3
      exact ⟨_, _, by rw [hres]; rfl, by rw [hres]; exact Ob.nil _ _, by rw [hres]; exact Ob.nil _ _, Ext.refl _⟩
    have hdef := Hdef.out
    rw [if_neg (by simp only [ne_eq, not_true_eq_false, false_or]; exact q2), if_neg (by rw [← Hn.out]; exact q3)] at hdef
    have Hdef := Lib.hid hdef
    clear hdef hmin hc1
    obtain ⟨A2, hc2, hBf2, hl2, hc2'⟩ := bs_mid (some ad) n c b 9 (9 + (v : Int)) 9 (9 + v) rfl (by omega) Hn.out hc (by omega) (by omega)
    obtain ⟨A3, hc3, hBf3, hl3, hc3'⟩ := bs_tail (some ad) n c b (9 + (v : Int)) (9 + v) (by omega) Hn.out hc (by omega)
    rw [show 9 + v - 9 = v from by omega] at hc2 hBf2 hl2 hc2'
    obtain ⟨nr, Hnr⟩ : ∃ nr, Hid (n - (9 + v) = nr) := ⟨_, Lib.hid rfl⟩
    obtain ⟨R, HR⟩ : ∃ R, Hid (b.drop (9 + v) = R) := ⟨_, Lib.hid rfl⟩
    obtain ⟨M, HM⟩ : ∃ M, Hid ((b.drop 9).take v = M) := ⟨_, Lib.hid rfl⟩
    rw [Hnr.out, HR.out] at hl3
    rw [Hnr.out] at hc3 hc3'
    rw [HR.out] at hBf3
    rw [HM.out] at hl2 hBf2
    obtain ⟨A4, hc4, hBf4, hl4, hc4'⟩ := bs_mid (some ad) n c b 1 5 1 5 rfl rfl Hn.out hc (by omega) (by omega)
    obtain ⟨A5, hc5, hBf5, hl5, hc5'⟩ := bs_mid (some ad) n c b 5 9 5 9 rfl rfl Hn.out hc (by omega) (by omega)
    simp only [Nat.reduceSub] at hc4 hBf4 hl4 hc4' hc5 hBf5 hl5 hc5'
    rw [HL.out] at hBf4 hl4
    obtain ⟨Z, HZ⟩ : ∃ Z, Hid ((b.drop 5).take 4 = Z) := ⟨_, Lib.hid rfl⟩
    rw [HZ.out] at hBf5 hl5
    have hB2 := hBf2 w hb
    have hB3 := hBf3 w hb
    have hB4 := hBf4 w hb
    have hB5 := hBf5 w hb
    have hdef := Hdef.out
    rw [HZ.out, HM.out, HR.out] at hdef
    obtain ⟨X, HX⟩ : ∃ X, Hid (crc (toN (L ++ M)) = X) := ⟨_, Lib.hid rfl⟩
    obtain ⟨Y, HY⟩ : ∃ Y, Hid (rd4 Z = Y) := ⟨_, Lib.hid rfl⟩
    rw [HX.out, HY.out] at hdef
    have Hdef := Lib.hid hdef
    have Hl2 := Lib.hid hl2
    have Hl3 := Lib.hid hl3
    have Hl4 := Lib.hid hl4
    have Hl5 := Lib.hid hl5
    clear hdef hBf2 hBf3 hBf4 hBf5 hl2 hl3 hl4 hl5
    go_wp2
    go_region
    go_wp2_with fail
    have hx9 : Ext w w.drew := (Ext.refl w).drew
    refine start_ (n := 9) (S := (fun W => Ext w W)) (ds := []) #[false, false, false, false, false, false, false, false, false] (by kernel_rfl) (by kernel_rfl) (by kernel_rfl) (hx9.drew) (fun hHeld => ?_)
    refine take_ (i := 0) (N := (some 39)) (v := ?_) (a' := ?_) #[true, false, false, false, false, false, false, false, false] rfl rfl (by kernel_rfl) (fun _ _ _ h => h) (Or.inl ⟨by rfl, ?_⟩) (by assumption) ?_ ?_
    rotate_left
    · intro w' hSw; (try dsimp only at hSw)
      go_simp
      try with_reducible rfl
    rotate_left
    · simp only [Act.put, List.setIfInBounds_toArray, List.set_cons_zero, List.set_cons_succ]
      rfl
    refine take_ (i := 1) (N := (some 40)) (v := ?_) (a' := ?_) #[true, true, false, false, false, false, false, false, false] rfl rfl (by kernel_rfl) (fun _ _ _ h => h) (Or.inl ⟨by rfl, ?_⟩) (by assumption) ?_ ?_
    rotate_left
    · intro w' hSw; (try dsimp only at hSw)
      go_simp
      try with_reducible rfl
    rotate_left
    · simp only [Act.put, List.setIfInBounds_toArray, List.set_cons_zero, List.set_cons_succ]
      rfl
    refine take_ (i := 2) (N := (some 41)) (v := ?_) (a' := ?_) #[true, true, true, false, false, false, false, false, false] rfl rfl (by kernel_rfl) (fun _ _ _ h => h) (Or.inl ⟨by rfl, ?_⟩) (by assumption) ?_ ?_
    rotate_left
    · intro w' hSw; (try dsimp only at hSw)
      go_simp
      try with_reducible rfl
    rotate_left
    · simp only [Act.put, List.setIfInBounds_toArray, List.set_cons_zero, List.set_cons_succ]
      rfl
    refine take_ (i := 5) (N := (some 44)) (v := ?_) (a' := ?_) #[true, true, true, false, false, true, false, false, false] rfl rfl (by kernel_rfl) (fun _ _ _ h => h) (Or.inl ⟨by rfl, ?_⟩) (by assumption) ?_ ?_
    rotate_left
    · intro w' hSw; (try dsimp only at hSw)
      go_simp
      try with_reducible rfl
    rotate_left
    · simp only [Act.put, List.setIfInBounds_toArray, List.set_cons_zero, List.set_cons_succ]
      rfl
    refine take_ (i := 6) (N := (some 45)) (v := ?_) (a' := ?_) #[true, true, true, false, false, true, true, false, false] rfl rfl (by kernel_rfl) (fun _ _ _ h => h) (Or.inl ⟨by rfl, ?_⟩) (by assumption) ?_ ?_
    rotate_left
    · intro w' hSw; (try dsimp only at hSw)
      go_simp
      try with_reducible rfl
    rotate_left
    · simp only [Act.put, List.setIfInBounds_toArray, List.set_cons_zero, List.set_cons_succ]
      rfl
    refine one_ (i := 3) (N := (some 42)) #[true, true, true, true, false, true, true, false, false] rfl rfl (by kernel_rfl) (by simp) (fun K hK => ?_)
    go_simp
    refine hK.out _ _ ?_ (fun hHeld => ?_)
    · exact hHeld.alloc _
    clear hK K
    (try simp only [Act.put, List.setIfInBounds_toArray, List.set_cons_zero, List.set_cons_succ])
    refine one_ (i := 4) (N := (some 43)) #[true, true, true, true, true, true, true, false, false] rfl rfl (by kernel_rfl) (by simp) (fun K hK => ?_)
    go_simp
    refine (of_any _ 2 [L, M] _ ((Bss.alloc_at w [(A4, c - 1, L), (A2, c - 9, M)] _ rfl (by simp) ?_ #[.slice A4 4 (c - 1), .slice A2 v (c - 9)] (by rw [← Hl2.out, ← Hl4.out]; rfl) _ _ rfl).ext ((Ext.refl _).drew.drew))).mono ?_
    · intro x hx
      simp only [List.mem_cons, List.not_mem_nil, or_false] at hx
      rcases hx with rfl | rfl
      · exact ⟨by rw [Hl4.out]; exact hc4', hB4⟩
      · exact ⟨by rw [Hl2.out]; exact hc2', hB2⟩
    rintro e w2 ⟨rfl, hw2⟩
    obtain rfl := hw2
    rw [show [L, M].flatten = L ++ M from by simp, HX.out]
    refine hK.out _ _ ?_ (fun hHeld => ?_)
    · first | assumption | exact hHeld.trans (by assumption)
    clear hK K
    (try simp only [Act.put, List.setIfInBounds_toArray, List.set_cons_zero, List.set_cons_succ])
    refine one_ (i := 7) (N := (some 46)) #[true, true, true, true, true, true, true, true, false] rfl rfl (by kernel_rfl) (by simp) (fun K hK => ?_)
    go_simp
    refine (fread_any A5 4 (c - 5) Z _ (hB5.ext hHeld) Hl5.out.symm (Nat.le_refl _)).mono ?_
    rintro e w3 ⟨rfl, hw3⟩
    obtain rfl := hw3
    rw [HY.out]
    refine hK.out _ _ ?_ (fun hHeld => ?_)
    · first | assumption | exact hHeld.trans (by assumption)
    clear hK K
    (try simp only [Act.put, List.setIfInBounds_toArray, List.set_cons_zero, List.set_cons_succ])
    refine take_ (i := 8) (N := (some 47)) (v := ?_) (a' := ?_) #[true, true, true, true, true, true, true, true, true] rfl rfl (by kernel_rfl) (fun _ _ _ h => h) (Or.inl ⟨by rfl, ?_⟩) (by assumption) ?_ ?_
    rotate_left
    · intro w' hSw; (try dsimp only at hSw)
      go_simp
      try with_reducible rfl
    rotate_left
    · simp only [Act.put, List.setIfInBounds_toArray, List.set_cons_zero, List.set_cons_succ]
      rfl
    refine done_ (by kernel_rfl) ?_
    have hX1 := hHeld
    by_cases q4 : X = Y
    case neg =>
      have hres : fget b = ([], [], 3) := by rw [Hdef.out, if_pos q4]
      have qb : ¬ ((X : Int) = (Y : Int)) := by omega
      clear q4
      go_wp2
      go_ret3
      exact ⟨_, _, by rw [hres]; rfl, by rw [hres]; exact Ob.nil _ _, by rw [hres]; exact Ob.nil _ _, hX1⟩
    case pos =>
      subst q4
      have hres : fget b = (M, R, 0) := by rw [Hdef.out, if_neg (by simp)]
      have qb : (X : Int) = (X : Int) := rfl
      go_wp2_with fail
      refine (clone_any A2 v (c - 9) M _ (hB2.ext hX1) Hl2.out.symm (by omega)).mono ?_
      rintro e w5 ⟨v5, rfl, ho5, hx5⟩
      have hX5 := hX1.trans hx5
      go_wp2_with fail
      refine (clone_any A3 nr (c - (9 + v)) R _ (hB3.ext hX5) Hl3.out (by have := Hnr.out; omega)).mono ?_
      rintro e w6 ⟨v6, rfl, ho6, hx6⟩
      go_wp2
      go_ret3
      exact ⟨_, _, by rw [hres]; rfl, by rw [hres]; exact (ho5.ext hx6).lower hX1.size, by rw [hres]; exact ho6.lower hX5.size, hX5.trans hx6⟩

end Go.Proofs.Ytboihdhmahgggaa
