/- PackRound: what is written is read again: plain. -/
import Derived.Test.YtlffbappgfimeaaDoorPackPure
namespace Go.Proofs.YtlffbappgfimeaaDoor.PackPure

theorem unzz_zz (v : Int) : unzz (zz v) = v := by
  unfold unzz zz
  split <;> split <;> omega
theorem zz_inj {a b : Int} (h : zz a = zz b) : a = b := by rw [← unzz_zz a, h, unzz_zz]

theorem grp_add (u x i : Nat) (hu : u < 2 ^ (7 * i)) (hx : x % 128 * 2 ^ (7 * i) < 18446744073709551616) : grp u x i = u + x % 128 * 2 ^ (7 * i) := by
  unfold grp
  rw [Nat.mod_eq_of_lt hx, Nat.or_comm, Nat.mul_comm, ← Nat.two_pow_add_eq_or_of_lt hu, Nat.add_comm]

theorem small_byte (x : Nat) (h : x < 128) : (UInt8.ofNat x).toNat = x := by rw [UInt8.toNat_ofNat']; omega
theorem big_byte (x : Nat) : (UInt8.ofNat (x % 128 + 128)).toNat = x % 128 + 128 := by rw [UInt8.toNat_ofNat']; omega

/-- What is written is read: the number, the last group's place, its byte. -/
theorem scan_enc (rest : List UInt8) (m : Nat) : ∀ (x i u : Nat), x < 128 ^ (m + 1) → i ≤ 9 → x * 2 ^ (7 * i) < 18446744073709551616 → u < 2 ^ (7 * i) →
    ∃ j c, scan i u (enc x ++ rest) = some (u + x * 2 ^ (7 * i), j, c) ∧ i ≤ j ∧ j ≤ 9 ∧ (enc x ++ rest).drop (j + 1 - i) = rest ∧ j + 1 = i + (enc x).length ∧ (i < j → c.toNat ≠ 0) ∧ c.toNat * 2 ^ (7 * j) ≤ x * 2 ^ (7 * i) := by
  induction m with
  | zero =>
    intro x i u hx hi hb hu
    have hx' : x < 128 := by simpa using hx
    rw [enc_small x hx']
    refine ⟨i, UInt8.ofNat x, ?_, Nat.le_refl _, hi, ?_, by simp, fun h => by omega, by rw [small_byte x hx']; exact Nat.le_refl _⟩
    · rw [List.singleton_append, scan, if_neg (by omega), small_byte x hx', if_pos hx', grp_add u x i hu (by rw [Nat.mod_eq_of_lt hx']; exact hb), Nat.mod_eq_of_lt hx']
    · rw [show i + 1 - i = 1 from by omega]; rfl
  | succ m ih =>
    intro x i u hx hi hb hu
    by_cases hx' : x < 128
    · rw [enc_small x hx']
      refine ⟨i, UInt8.ofNat x, ?_, Nat.le_refl _, hi, ?_, by simp, fun h => by omega, by rw [small_byte x hx']; exact Nat.le_refl _⟩
      · rw [List.singleton_append, scan, if_neg (by omega), small_byte x hx', if_pos hx', grp_add u x i hu (by rw [Nat.mod_eq_of_lt hx']; exact hb), Nat.mod_eq_of_lt hx']
      · rw [show i + 1 - i = 1 from by omega]; rfl
    · have hi9 : i < 9 := by
        rcases Nat.lt_or_ge i 9 with h | h
        · exact h
        · have : i = 9 := by omega
          subst this
          omega
      have hp : 2 ^ (7 * (i + 1)) = 128 * 2 ^ (7 * i) := by rw [Nat.mul_succ, Nat.pow_add, Nat.mul_comm]
      have hpos := Nat.two_pow_pos (7 * i)
      have hdm := Nat.div_add_mod x 128
      have hm : x % 128 < 128 := Nat.mod_lt _ (by omega)
      have hsum : x * 2 ^ (7 * i) = x / 128 * 2 ^ (7 * (i + 1)) + x % 128 * 2 ^ (7 * i) := by
        rw [hp, ← Nat.mul_assoc, ← Nat.add_mul, Nat.mul_comm (x / 128) 128, hdm]
      have hlo : x % 128 * 2 ^ (7 * i) ≤ 127 * 2 ^ (7 * i) := Nat.mul_le_mul_right _ (by omega)
      have hg := grp_add u x i hu (by omega)
      obtain ⟨j, c, h1, h2, h3, h4, h5, h6, h7⟩ := ih (x / 128) (i + 1) (u + x % 128 * 2 ^ (7 * i)) (by rw [Nat.div_lt_iff_lt_mul (by omega)]; rw [Nat.pow_succ] at hx; exact hx) (by omega) (by omega) (by rw [hp]; omega)
      rw [enc_big x hx']
      refine ⟨j, c, ?_, by omega, h3, ?_, by rw [List.length_cons]; omega, ?_, by omega⟩
      · rw [List.cons_append, scan, if_neg (by omega), big_byte, if_neg (by omega)]
        have hgm : grp u (x % 128 + 128) i = grp u x i := by
          unfold grp
          rw [show (x % 128 + 128) % 128 = x % 128 from by omega]
        rw [hgm, hg, h1, hsum]
        simp only [Option.some.injEq, Prod.mk.injEq, and_true]
        omega
      · rw [List.cons_append, show j + 1 - i = (j + 1 - (i + 1)) + 1 from by omega, List.drop_succ_cons]
        exact h4
      · intro _
        by_cases hj : i + 1 < j
        · exact h6 hj
        · have hj' : j = i + 1 := by omega
          subst hj'
          -- one group more: it is not zero
          have hx2 : 0 < x / 128 := Nat.div_pos (by omega) (by omega)
          have hl : (enc (x / 128)).length = 1 := by omega
          by_cases hs : x / 128 < 128
          · rw [enc_small _ hs, List.singleton_append, scan, if_neg (by omega), small_byte _ hs, if_pos hs] at h1
            simp only [Option.some.injEq, Prod.mk.injEq] at h1
            rw [← h1.2.2, small_byte _ hs]
            omega
          · rw [enc_big _ hs, List.length_cons] at hl
            have := enc_pos (x / 128 / 128)
            omega

/-- A number that was written is read again, if it is within the bounds. -/
theorem rdNum_num (v : Int) (h0 : -9223372036854775808 ≤ v) (h1 : v ≤ 9223372036854775807) (rest : List UInt8) (bad : Bool) (least most : Int) :
    rdNum (num v ++ rest) bad least most = if v < least ∨ most < v then (0, [], true) else (v, rest, bad) := by
  have hz := zz_lt v h0 h1
  obtain ⟨j, c, hs, _, hj, hd, _, hc, hb⟩ := scan_enc rest 9 (zz v) 0 0 (Nat.lt_of_lt_of_le hz (by decide)) (by omega) (by simpa using hz) (by simp)
  simp only [Nat.mul_zero, Nat.pow_zero, Nat.mul_one, Nat.zero_add, Nat.sub_zero] at hs hd hb
  rw [rdNum, num, hs]
  simp only [unzz_zz, hd]
  have e1 : ¬ (0 < j ∧ c.toNat = 0) := fun h => hc h.1 h.2
  have e2 : ¬ (j = 9 ∧ 1 < c.toNat) := by
    rintro ⟨rfl, h⟩
    have : 2 * 2 ^ (7 * 9) ≤ c.toNat * 2 ^ (7 * 9) := Nat.mul_le_mul_right _ h
    have : zz v < 2 * 2 ^ (7 * 9) := hz
    omega
  simp only [e1, e2, false_or]

theorem num_inj {a b : Int} (ha0 : -9223372036854775808 ≤ a) (ha1 : a ≤ 9223372036854775807) (hb0 : -9223372036854775808 ≤ b) (hb1 : b ≤ 9223372036854775807) (h : num a = num b) : a = b := by
  have h1 := rdNum_num a ha0 ha1 [] false (-9223372036854775808) 9223372036854775807
  have h2 := rdNum_num b hb0 hb1 [] false (-9223372036854775808) 9223372036854775807
  rw [if_neg (by omega)] at h1 h2
  rw [h, h2] at h1
  exact (Prod.mk.inj h1).1.symm

theorem num_150 : num 150 = [172, 2] := by
  rw [num, show zz 150 = 300 from rfl, enc_big _ (by decide), enc_small _ (by decide)]
  rfl
theorem num_m1 : num (-1) = [1] := by
  rw [num, show zz (-1) = 1 from rfl, enc_small _ (by decide)]
  rfl

end Go.Proofs.YtlffbappgfimeaaDoor.PackPure
