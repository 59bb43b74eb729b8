/- RefFGet: the walk of the reference's Get. -/
import Derived.Test.YtboihdhmahgggaaRefSame
set_option linter.unusedVariables false
set_option linter.unusedSimpArgs false
set_option maxRecDepth 100000
namespace Go.Proofs.Ytboihdhmahgggaa
open Go.RowKit Go.Proofs.YtboihdhmahgggaaW.PrintWords Go.Proofs.YtboihdhmahgggaaW.PrintLast CrcPure

/-- A piece of bytes that came in. -/
def Sub (A : Option Addr) (b : List UInt8) (x : Value) (l : List UInt8) : Prop := ∃ A' c, x = .slice A' l.length c ∧ l.length ≤ c ∧ ∀ w, Bs w A b → Bs w A' l
theorem Sub.nil (A : Option Addr) (b : List UInt8) : Sub A b (.slice none 0 0) [] := ⟨none, 0, rfl, Nat.le_refl _, fun w _ => Bs.nil w⟩
theorem bits_or_i64 (a b : Nat) (ha : a < 4294967296) (hb : b < 4294967296) : bits .or .i64 (a : Int) (b : Int) = ((a ||| b : Nat) : Int) := by
  have hx : a ||| b < 2 ^ 32 := Nat.or_lt_two_pow (by omega) (by omega)
  have h1 : (BitVec.ofInt 64 (a : Int)).toNat = a := by
    rw [BitVec.ofInt_natCast, BitVec.toNat_ofNat]; exact Nat.mod_eq_of_lt (by omega)
  have h2 : (BitVec.ofInt 64 (b : Int)).toNat = b := by
    rw [BitVec.ofInt_natCast, BitVec.toNat_ofNat]; exact Nat.mod_eq_of_lt (by omega)
  show IntKind.i64.wrap ((BitVec.ofInt 64 (a : Int) ||| BitVec.ofInt 64 (b : Int)).toNat : Int) = _
  rw [BitVec.toNat_or, h1, h2, IntKind.wrap_i64]
  omega
theorem w64_small (x : Nat) (h : x < 4294967296) : wrap64 (x : Int) = (x : Int) := by
  unfold wrap64; omega

set_option maxHeartbeats 1600000 in
theorem rfget_any (A : Option Addr) (n c : Nat) (b : List UInt8) (w : World) (hb : Bs w A b) (hn : n = b.length) (hc : n ≤ c) (hm : n ≤ 140737488300000) :
    Calls Try.prog 20 #[.slice A n c] w fun e w' => ∃ x y, e = .returned (.tuple #[x, y, .int .i64 ((fget b).2.2 : Nat)]) ∧ Sub A b x (fget b).1 ∧ Sub A b y (fget b).2.1 ∧ Ext w w' := by
  by_cases h0 : b = []
  · subst h0
    rw [fget_nil]
    subst hn
    go_enter Try.func20, Try.ntmps20
    go_wp2
    go_ret3
    exact ⟨_, _, rfl, Sub.nil _ _, Sub.nil _ _, Ext.refl _⟩
  have hn0 : 1 ≤ n := by
    rcases b with _ | ⟨x, l⟩
    · exact absurd rfl h0
    · subst hn; simp
  obtain ⟨ad, rfl, hcell⟩ := hb.at 0 (by omega)
  rw [show ad.add 0 = ad from by simp [Addr.add]] at hcell
  have hdef : fget b = fget b := rfl
  conv at hdef => rhs; unfold fget
  rw [if_neg h0] at hdef
  obtain ⟨L, HL⟩ : ∃ L, Hid ((b.drop 1).take 4 = L) := ⟨_, Lib.hid rfl⟩
  have hLl : L.length = min 4 (n - 1) := by rw [← HL.out, List.length_take, List.length_drop, hn]
  rw [HL.out] at hdef
  have hL4 : rd4 L < 4294967296 := rd4_lt4 L (by omega)
  obtain ⟨b0, Hb0⟩ : ∃ v, Hid (b.getD 0 0 = v) := ⟨_, Lib.hid rfl⟩
  rw [Hb0.out] at hdef hcell
  have hbr := B_range b0
  have Hn := Lib.hid hn
  have Hdef := Lib.hid hdef
  have HLl := Lib.hid hLl
  clear hdef h0 hn hLl
  go_enter Try.func20, Try.ntmps20
  by_cases q1 : b0 = 1
  case neg =>
    have hres : fget b = ([], [], 3) := by rw [Hdef.out, if_pos (Or.inl q1)]
    have qb : ¬ ((b0.toNat : Int) = 1) := by
      have : b0.toNat ≠ 1 := fun h => q1 (UInt8.toNat_inj.1 h)
      omega
    clear q1
    go_wp2
    go_ret3
    exact ⟨_, _, by rw [hres]; rfl, by rw [hres]; exact Sub.nil _ _, by rw [hres]; exact Sub.nil _ _, Ext.refl _⟩
  subst q1
  rw [show (((1 : UInt8).toNat : Int)) = 1 from rfl] at hcell
  go_wp2
  clear hcell
  go_loop [5, 6] (fun s i => ∃ j : Nat, j ≤ L.length ∧ i = .int .i64 j ∧ s = .int .i64 (rd4 (L.take j) : Nat)) (fun _ i => L.length - (intOf i).toNat)
  case atStart => exact ⟨0, Nat.zero_le _, rfl, rfl⟩
  case round =>
    obtain ⟨j, hj, rfl, rfl⟩ := hrel
    by_cases hlj : j < L.length
    · have hj4 : j < 4 ∧ 1 + j < n := by have := HLl.out; omega
      have hs := rd4_step L j hlj (by have := HLl.out; omega)
      have hlt : rd4 (L.take j) < 4294967296 := rd4_lt4 _ (by rw [List.length_take]; have := HLl.out; omega)
      have hp : (L.getD j 0).toNat * 2 ^ (8 * j) < 4294967296 := by
        have := (L.getD j 0).toNat_lt
        have : 2 ^ (8 * j) ≤ 2 ^ 24 := Nat.pow_le_pow_right (by omega) (by omega)
        calc (L.getD j 0).toNat * 2 ^ (8 * j) ≤ 255 * 2 ^ 24 := Nat.mul_le_mul (by omega) this
          _ < _ := by decide
      obtain ⟨ad0, e0, hb1⟩ := hb.at (1 + j) (by rw [← Hn.out]; omega)
      injection e0 with e0
      subst e0
      have hLb : b.getD (1 + j) 0 = L.getD j 0 := by
        rw [← HL.out]
        simp only [List.getD_eq_getElem?_getD]
        rw [List.getElem?_take_of_lt hj4.1, List.getElem?_drop]
      rw [hLb] at hb1
      have hor := bits_or_i64 _ _ hlt hp
      rw [hs] at hor
      generalize hbb : L.getD j 0 = b1 at *
      generalize hS : rd4 (L.take j) = S at *
      have hbr := B_range b1
      have Hor := Lib.hid hor
      have Hp := Lib.hid hp
      clear hor hs hp hLb
      go_wp2
      go_round
      case rel => exact ⟨j + 1, by omega, by go_num, by rw [show ((b1.toNat : Int) * 2 ^ (8 * j)) = ((b1.toNat * 2 ^ (8 * j) : Nat) : Int) from by simp, w64_small _ Hp.out, Hor.out]⟩
      case measure => simp [intOf]; omega
    · have hjl : j = L.length := by omega
      subst hjl
      rw [List.take_length]
      have hj4 : ¬ (L.length < 4 ∧ 1 + L.length < n) := by have := HLl.out; omega
      obtain ⟨k, Hk⟩ : ∃ k, Hid (L.length = k) := ⟨_, Lib.hid rfl⟩
      rw [Hk.out] at hj4 ⊢
      obtain ⟨v, Hv⟩ : ∃ v, Hid (rd4 L = v) := ⟨_, Lib.hid rfl⟩
      rw [Hv.out]
      have hdef := Hdef.out
      rw [Hv.out] at hdef hL4
      by_cases q2 : 65536 < v
      · have hres : fget b = ([], [], 3) := by rw [hdef, if_pos (Or.inr q2)]
        have Hres := Lib.hid hres
        clear hdef hres
        by_cases q4 : k < 4
        · have q5 : ¬ (1 + (k : Int) < (n : Int)) := by omega
          go_wp2
          go_ret3
          exact ⟨_, _, by rw [Hres.out]; rfl, by rw [Hres.out]; exact Sub.nil _ _, by rw [Hres.out]; exact Sub.nil _ _, Ext.refl _⟩
        · go_wp2
          go_ret3
          exact ⟨_, _, by rw [Hres.out]; rfl, by rw [Hres.out]; exact Sub.nil _ _, by rw [Hres.out]; exact Sub.nil _ _, Ext.refl _⟩
      rw [if_neg (by simp only [ne_eq, not_true_eq_false, false_or]; exact q2)] at hdef
      by_cases q3 : n < 9 + v
      · have hres : fget b = ([], [], 8) := by rw [hdef, if_pos (by rw [← Hn.out]; exact q3)]
        have Hres := Lib.hid hres
        clear hdef hres
        by_cases q4 : k < 4
        · have q5 : ¬ (1 + (k : Int) < (n : Int)) := by omega
          go_wp2
          go_ret3
          exact ⟨_, _, by rw [Hres.out]; rfl, by rw [Hres.out]; exact Sub.nil _ _, by rw [Hres.out]; exact Sub.nil _ _, Ext.refl _⟩
        · go_wp2
          go_ret3
          exact ⟨_, _, by rw [Hres.out]; rfl, by rw [Hres.out]; exact Sub.nil _ _, by rw [Hres.out]; exact Sub.nil _ _, Ext.refl _⟩
      rw [if_neg (by rw [← Hn.out]; exact q3)] at hdef
      have hk4 : k = 4 := by
        have := HLl.out
        have := Hk.out
        omega
      subst hk4
      have Hdef := Lib.hid hdef
      clear hdef
      obtain ⟨A2, hc2, hBf2, hl2, hc2'⟩ := bs_mid (some ad) n c b 9 (9 + (v : Int)) 9 (9 + v) rfl (by omega) Hn.out hc (by omega) (by omega)
      obtain ⟨A3, hc3, hBf3, hl3, hc3'⟩ := bs_tail (some ad) n c b (9 + (v : Int)) (9 + v) (by omega) Hn.out hc (by omega)
      rw [show 9 + v - 9 = v from by omega] at hc2 hBf2 hl2 hc2'
      obtain ⟨nr, Hnr⟩ : ∃ nr, Hid (n - (9 + v) = nr) := ⟨_, Lib.hid rfl⟩
      obtain ⟨R, HR⟩ : ∃ R, Hid (b.drop (9 + v) = R) := ⟨_, Lib.hid rfl⟩
      obtain ⟨M, HM⟩ : ∃ M, Hid ((b.drop 9).take v = M) := ⟨_, Lib.hid rfl⟩
      rw [Hnr.out, HR.out] at hl3
      rw [Hnr.out] at hc3 hc3'
      rw [HR.out] at hBf3
      rw [HM.out] at hl2 hBf2
      obtain ⟨A4, hc4, hBf4, hl4, hc4'⟩ := bs_mid (some ad) n c b 1 5 1 5 rfl rfl Hn.out hc (by omega) (by omega)
      obtain ⟨A5, hc5, hBf5, hl5, hc5'⟩ := bs_mid (some ad) n c b 5 9 5 9 rfl rfl Hn.out hc (by omega) (by omega)
      simp only [Nat.reduceSub] at hc4 hBf4 hl4 hc4' hc5 hBf5 hl5 hc5'
      rw [HL.out] at hBf4 hl4
      obtain ⟨Z, HZ⟩ : ∃ Z, Hid ((b.drop 5).take 4 = Z) := ⟨_, Lib.hid rfl⟩
      rw [HZ.out] at hBf5 hl5
      have hB2 := hBf2 w hb
      have hB4 := hBf4 w hb
      have hB5 := hBf5 w hb
      have hdef := Hdef.out
      rw [HZ.out, HM.out, HR.out] at hdef
      obtain ⟨X, HX⟩ : ∃ X, Hid (crc (toN (L ++ M)) = X) := ⟨_, Lib.hid rfl⟩
      have hX4 : X < 4294967296 := by rw [← HX.out]; exact crc_lt _ (toN_lt _)
      rw [HX.out] at hdef
      have Hdef := Lib.hid hdef
      have Hl2 := Lib.hid hl2
      have Hl3 := Lib.hid hl3
      have Hl4 := Lib.hid hl4
      have Hl5 := Lib.hid hl5
      have HB2 := Lib.hid hBf2
      have HB3 := Lib.hid hBf3
      clear hdef hBf2 hBf3 hBf4 hBf5 hl2 hl3 hl4 hl5 hj4 hn0 hj
      have hcv5 : ∀ W, Ext w W → (convert 22 9 (.slice A5 4 (c - 5))).run Try.prog W = .ok (.string (Str Z)) W := fun W hW => (hB5.ext hW).string _ _ Hl5.out.symm
      go_wp2_with fail

      refine start_ (n := 13) (S := (fun W => Ext w W)) (ds := []) #[false, false, false, false, false, false, false, false, false, false, false, false, false] (by kernel_rfl) (by kernel_rfl) (by kernel_rfl) ((Ext.refl w).drew) (fun hHeld => ?_)
      refine take_ (i := 1) (N := (some 50)) (v := ?_) (a' := ?_) #[false, true, false, false, false, false, false, false, false, false, false, false, false] rfl rfl (by kernel_rfl) (fun _ _ _ h => h) (Or.inl ⟨by rfl, ?_⟩) (by assumption) ?_ ?_
      rotate_left
      · intro w' hSw; (try dsimp only at hSw)
        go_simp
        try with_reducible rfl
      rotate_left
      · simp only [Act.put, List.setIfInBounds_toArray, List.set_cons_zero, List.set_cons_succ]
        rfl
      refine take_ (i := 2) (N := (some 51)) (v := ?_) (a' := ?_) #[false, true, true, false, false, false, false, false, false, false, false, false, false] rfl rfl (by kernel_rfl) (fun _ _ _ h => h) (Or.inl ⟨by rfl, ?_⟩) (by assumption) ?_ ?_
      rotate_left
      · intro w' hSw; (try dsimp only at hSw)
        go_simp
        try with_reducible rfl
      rotate_left
      · simp only [Act.put, List.setIfInBounds_toArray, List.set_cons_zero, List.set_cons_succ]
        rfl
      refine take_ (i := 4) (N := (some 53)) (v := ?_) (a' := ?_) #[false, true, true, false, true, false, false, false, false, false, false, false, false] rfl rfl (by kernel_rfl) (fun _ _ _ h => h) (Or.inl ⟨by rfl, ?_⟩) (by assumption) ?_ ?_
      rotate_left
      · intro w' hSw; (try dsimp only at hSw)
        go_simp
        try with_reducible rfl
      rotate_left
      · simp only [Act.put, List.setIfInBounds_toArray, List.set_cons_zero, List.set_cons_succ]
        rfl
      refine take_ (i := 9) (N := (some 58)) (v := ?_) (a' := ?_) #[false, true, true, false, true, false, false, false, false, true, false, false, false] rfl rfl (by kernel_rfl) (fun _ _ _ h => h) (Or.inl ⟨by rfl, ?_⟩) (by assumption) ?_ ?_
      rotate_left
      · intro w' hSw; (try dsimp only at hSw)
        go_simp
        try with_reducible rfl
      rotate_left
      · simp only [Act.put, List.setIfInBounds_toArray, List.set_cons_zero, List.set_cons_succ]
        rfl
      refine take_ (i := 10) (N := (some 59)) (v := ?_) (a' := ?_) #[false, true, true, false, true, false, false, false, false, true, true, false, false] rfl rfl (by kernel_rfl) (fun _ _ _ h => h) (Or.inl ⟨by rfl, ?_⟩) (by assumption) ?_ ?_
      rotate_left
      · intro w' hSw; (try dsimp only at hSw)
        go_simp
        try with_reducible rfl
      rotate_left
      · simp only [Act.put, List.setIfInBounds_toArray, List.set_cons_zero, List.set_cons_succ]
        rfl
      refine take_ (i := 11) (N := (some 60)) (v := ?_) (a' := ?_) #[false, true, true, false, true, false, false, false, false, true, true, true, false] rfl rfl (by kernel_rfl) (fun _ _ _ h => h) (Or.inl ⟨by rfl, ?_⟩) (by assumption) ?_ ?_
      rotate_left
      · intro w' hSw; (try dsimp only at hSw)
        go_simp
        try with_reducible rfl
      rotate_left
      · simp only [Act.put, List.setIfInBounds_toArray, List.set_cons_zero, List.set_cons_succ]
        rfl
      refine one_ (i := 0) (N := (some 49)) #[true, true, true, false, true, false, false, false, false, true, true, true, false] rfl rfl (by kernel_rfl) (by simp) (fun K hK => ?_)
      go_simp
      have hO0 : Ob (w.alloc (.cells #[] 5)).drew w.heap.size (.slice (some ⟨w.heap.size, 0, none⟩) 0 0) [] := (Ob.alloc_at w w.heap.size [] (Nat.le_refl _) (by decide) _ rfl _ rfl _ rfl).ext (Ext.refl _).drew
      refine hK.out _ _ ?_ (fun hHeld => ?_)
      · exact hHeld.alloc _
      clear hK K
      (try simp only [Act.put, List.setIfInBounds_toArray, List.set_cons_zero, List.set_cons_succ])
      refine one_ (i := 3) (N := (some 52)) #[true, true, true, true, true, false, false, false, false, true, true, true, false] rfl rfl (by kernel_rfl) (by simp) (fun K hK => ?_)
      refine at_append (some 52) rfl rfl _ _ rfl _ [] rfl A4 L 4 (c - 1) rfl Hl4.out.symm w.heap.size hO0 (hB4.ext hHeld) hHeld.size (by have := Hl4.out; simp; omega) ?_
      intro v3 w3 ho3 hg3 _
      have hx3 : Ext w w3 := hHeld.grown hO0 (Nat.le_refl _) hg3
      rw [List.nil_append] at ho3
      clear hg3 hO0
      refine hK.out _ _ ?_ (fun hHeld => ?_)
      · first | assumption | exact hHeld.trans (by assumption)
      clear hK K
      (try simp only [Act.put, List.setIfInBounds_toArray, List.set_cons_zero, List.set_cons_succ])
      refine one_ (i := 5) (N := (some 54)) #[true, true, true, true, true, true, false, false, false, true, true, true, false] rfl rfl (by kernel_rfl) (by simp) (fun K hK => ?_)
      refine at_append (some 54) rfl rfl _ _ rfl _ L rfl A2 M v (c - 9) rfl Hl2.out.symm w.heap.size ho3 (hB2.ext hx3) hx3.size (by have := Hl4.out; have := Hl2.out; omega) ?_
      intro v5 w5 ho5 hg5 _
      have hx5 : Ext w w5 := hx3.grown ho3 (Nat.le_refl _) hg5
      obtain ⟨A6, c6, rfl, hl6, hB6⟩ := ho5.reads
      have hl6n : (L ++ M).length = 4 + v := by rw [List.length_append, Hl4.out, Hl2.out]
      rw [hl6n] at hl6
      rw [hl6n]
      have Hl6 := Lib.hid hl6n
      clear hg5 ho3 ho5 hl6n
      refine hK.out _ _ ?_ (fun hHeld => ?_)
      · first | assumption | exact hHeld.trans (by assumption)
      clear hK K
      (try simp only [Act.put, List.setIfInBounds_toArray, List.set_cons_zero, List.set_cons_succ])
      refine one_ (i := 6) (N := (some 55)) #[true, true, true, true, true, true, true, false, false, true, true, true, false] rfl rfl (by kernel_rfl) (by simp) (fun K hK => ?_)
      go_simp
      have hcr := ref_any A6 c6 (L ++ M) w5 hB6
      rw [HX.out, Hl6.out] at hcr
      refine hcr.mono ?_
      rintro e w6 ⟨rfl, hw6⟩
      obtain rfl := hw6
      clear hcr
      refine hK.out _ _ ?_ (fun hHeld => ?_)
      · first | assumption | exact hHeld.trans (by assumption)
      clear hK K
      (try simp only [Act.put, List.setIfInBounds_toArray, List.set_cons_zero, List.set_cons_succ])
      refine one_ (i := 7) (N := (some 56)) #[true, true, true, true, true, true, true, true, false, true, true, true, false] rfl rfl (by kernel_rfl) (by simp) (fun K hK => ?_)
      go_simp
      refine (four_any X w5 hX4).mono ?_
      rintro e w7 ⟨v7, rfl, ho7, hx7⟩
      obtain ⟨A7, c7, rfl, hl7, hB7⟩ := ho7.reads
      have h7n := n4_length X
      rw [h7n]
      generalize hN7 : n4 X = N7 at *
      have HN7 := Lib.hid hN7
      clear hN7
      have hX7 : Ext w w7 := hx5.trans hx7
      have hcv7 : ∀ W, Ext w7 W → (convert 22 9 (.slice A7 4 c7)).run Try.prog W = .ok (.string (Str N7)) W := fun W hW => (hB7.ext hW).string _ _ h7n.symm
      have hcv5' : ∀ W, Ext w7 W → (convert 22 9 (.slice A5 4 (c - 5))).run Try.prog W = .ok (.string (Str Z)) W := fun W hW => hcv5 W (hX7.trans hW)
      obtain ⟨bq, Hbq⟩ : ∃ bq, Hid (((Str N7).toList == (Str Z).toList) = bq) := ⟨_, Lib.hid rfl⟩
      have hbq := Hbq.out
      refine hK.out _ _ ?_ (fun hHeld => ?_)
      · exact hX7
      clear hK K
      (try simp only [Act.put, List.setIfInBounds_toArray, List.set_cons_zero, List.set_cons_succ])
      refine switch_ (S' := (fun W => Ext w7 W)) (fun W h => hX7.trans h) (Ext.refl w7) ?_
      have hHeld : Ext w7 w7 := Ext.refl w7
      refine take_ (i := 8) (N := (some 57)) (v := ?_) (a' := ?_) #[true, true, true, true, true, true, true, true, true, true, true, true, false] rfl rfl (by kernel_rfl) (fun _ _ _ h => h) (Or.inl ⟨by rfl, ?_⟩) (by assumption) ?_ ?_
      rotate_left
      · intro w' hSw; (try dsimp only at hSw)
        go_simp
        try with_reducible rfl
      rotate_left
      · simp only [Act.put, List.setIfInBounds_toArray, List.set_cons_zero, List.set_cons_succ]
        rfl
      refine take_ (i := 12) (N := (some 61)) (v := ?_) (a' := ?_) #[true, true, true, true, true, true, true, true, true, true, true, true, true] rfl rfl (by kernel_rfl) (fun _ _ _ h => h) (Or.inl ⟨by rfl, ?_⟩) (by assumption) ?_ ?_
      rotate_left
      · intro w' hSw; (try dsimp only at hSw)
        go_simp
        try with_reducible rfl
      rotate_left
      · simp only [Act.put, List.setIfInBounds_toArray, List.set_cons_zero, List.set_cons_succ]
        rfl
      refine done_ (by kernel_rfl) ?_
      by_cases q4 : X = rd4 Z
      case neg =>
        have hne : N7 ≠ Z := by
          rintro rfl
          apply q4
          rw [← HN7.out, rd4_n4 X hX4]
        obtain rfl : bq = false := by rw [← Hbq.out]; simp [Str_toList, hne]
        have hres : fget b = ([], [], 3) := by rw [Hdef.out, if_pos q4]
        have Hres := Lib.hid hres
        clear q4 hres hne
        go_wp2
        go_ret3
        exact ⟨_, _, by rw [Hres.out]; rfl, by rw [Hres.out]; exact Sub.nil _ _, by rw [Hres.out]; exact Sub.nil _ _, hX7⟩
      case pos =>
        obtain rfl : N7 = Z := by rw [← HN7.out, q4]; exact n4_rd4 _ Hl5.out
        have hres : fget b = (M, R, 0) := by rw [Hdef.out, if_neg (by rw [q4]; simp)]
        have Hres := Lib.hid hres
        obtain rfl : bq = true := by rw [← Hbq.out]; simp
        clear q4 hres
        go_wp2
        go_region
        go_wp2
        go_ret3
        refine ⟨_, _, by rw [Hres.out]; rfl, ?_, ?_, hX7.drew⟩
        · rw [Hres.out]
          exact ⟨A2, c - 9, by rw [Hl2.out]; rfl, by rw [Hl2.out]; exact hc2', HB2.out⟩
        · rw [Hres.out]
          exact ⟨A3, c - (9 + v), by rw [← Hl3.out]; rfl, by rw [← Hl3.out]; exact hc3', HB3.out⟩

end Go.Proofs.Ytboihdhmahgggaa
