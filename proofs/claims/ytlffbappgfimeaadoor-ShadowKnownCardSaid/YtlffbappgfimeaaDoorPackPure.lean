/- PackPure: numbers in bytes, plainly. -/
namespace Go.Proofs.YtlffbappgfimeaaDoor.PackPure

/-- Seven bits a byte, the lowest first. -/
def enc (u : Nat) : List UInt8 := if u < 128 then [UInt8.ofNat u] else UInt8.ofNat (u % 128 + 128) :: enc (u / 128)
termination_by u
decreasing_by omega
/-- Signs in the lowest bit. -/
def zz (v : Int) : Nat := if 0 ≤ v then (2 * v).toNat else (-2 * v - 1).toNat
def num (v : Int) : List UInt8 := enc (zz v)

theorem enc_small (u : Nat) (h : u < 128) : enc u = [UInt8.ofNat u] := by rw [enc, if_pos h]
theorem enc_big (u : Nat) (h : ¬ u < 128) : enc u = UInt8.ofNat (u % 128 + 128) :: enc (u / 128) := by rw [enc, if_neg h]
theorem enc_pos (u : Nat) : 1 ≤ (enc u).length := by
  by_cases h : u < 128
  · rw [enc_small u h]; exact Nat.le_refl _
  · rw [enc_big u h]; simp
theorem enc_le (n : Nat) : ∀ u, u < 128 ^ (n + 1) → (enc u).length ≤ n + 1 := by
  induction n with
  | zero => intro u h; rw [enc_small u (by simpa using h)]; exact Nat.le_refl _
  | succ n ih =>
    intro u h
    by_cases h' : u < 128
    · rw [enc_small u h']; simp
    · rw [enc_big u h', List.length_cons]
      have := ih (u / 128) (by rw [Nat.div_lt_iff_lt_mul (by omega)]; rw [Nat.pow_succ] at h; exact h)
      omega
theorem zz_lt (v : Int) (h0 : -9223372036854775808 ≤ v) (h1 : v ≤ 9223372036854775807) : zz v < 18446744073709551616 := by
  unfold zz; split <;> omega
theorem num_le (v : Int) (h0 : -9223372036854775808 ≤ v) (h1 : v ≤ 9223372036854775807) : (num v).length ≤ 10 :=
  enc_le 9 _ (Nat.lt_of_lt_of_le (zz_lt v h0 h1) (by decide))
theorem num_pos (v : Int) : 1 ≤ (num v).length := enc_pos _

/-- One more group of seven bits. -/
def grp (u c i : Nat) : Nat := u ||| (c % 128 * 2 ^ (7 * i)) % 18446744073709551616
/-- A number's groups: the number, the last group's place, the last byte. -/
def scan : Nat → Nat → List UInt8 → Option (Nat × Nat × UInt8)
  | _, _, [] => none
  | i, u, c :: r => if 10 ≤ i then none else if c.toNat < 128 then some (grp u c.toNat i, i, c) else scan (i + 1) (grp u c.toNat i) r
/-- A number's sign out of its lowest bit. -/
def unzz (u : Nat) : Int := if u % 2 = 1 then -((u / 2 : Nat) : Int) - 1 else ((u / 2 : Nat) : Int)
/-- What a reader answers: the number, what is left, is it bad. -/
def rdNum (l : List UInt8) (bad : Bool) (least most : Int) : Int × List UInt8 × Bool :=
  match scan 0 0 l with
  | none => (0, [], true)
  | some (u, i, c) => if (0 < i ∧ c.toNat = 0) ∨ (i = 9 ∧ 1 < c.toNat) ∨ unzz u < least ∨ most < unzz u then (0, [], true) else (unzz u, l.drop (i + 1), bad)
theorem grp_lt (u c i : Nat) (h : u < 18446744073709551616) : grp u c i < 18446744073709551616 := Nat.or_lt_two_pow (n := 64) h (Nat.mod_lt _ (by decide))

end Go.Proofs.YtlffbappgfimeaaDoor.PackPure
