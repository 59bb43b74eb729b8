/- CrcFlip: bits turned in bytes, and what becomes of the sum: plain arithmetic. -/
import Derived.Test.YtboihdhmahgggaaCrcPure
namespace Go.Proofs.Ytboihdhmahgggaa.CrcPure

theorem mul_xor (j a b : Nat) : 2 ^ j * (a ^^^ b) = 2 ^ j * a ^^^ 2 ^ j * b := by
  have := Nat.shiftLeft_xor_distrib (a := a) (b := b) (i := j)
  rw [Nat.shiftLeft_eq, Nat.shiftLeft_eq, Nat.shiftLeft_eq] at this
  rw [Nat.mul_comm, this, Nat.mul_comm a, Nat.mul_comm b]

/-- One bit turned. -/
def flipN (l : List Nat) (p : Nat) : List Nat := l.set (p / 8) (l.getD (p / 8) 0 ^^^ 2 ^ (p % 8))
theorem val_flipN (l : List Nat) : ∀ p, p < 8 * l.length → val (flipN l p) = val l ^^^ 2 ^ p := by
  induction l with
  | nil => intro p h; simp at h
  | cons b l ih =>
    intro p h
    rcases Nat.lt_or_ge p 8 with hp | hp
    · have h0 : p / 8 = 0 := by omega
      have h1 : p % 8 = p := by omega
      simp only [flipN, h0, h1, List.set_cons_zero, val, List.getD_cons_zero]
      rw [Nat.xor_assoc, Nat.xor_comm (2 ^ p), ← Nat.xor_assoc]
    · obtain ⟨q, rfl⟩ : ∃ q, p = q + 8 := ⟨p - 8, by omega⟩
      have h0 : (q + 8) / 8 = q / 8 + 1 := by omega
      have h1 : (q + 8) % 8 = q % 8 := by omega
      have hq := ih q (by simp only [List.length_cons] at h; omega)
      simp only [flipN, h0, h1, List.set_cons_succ, val, List.getD_cons_succ]
      simp only [flipN] at hq
      rw [hq, show (256 : Nat) = 2 ^ 8 from rfl, mul_xor, ← Nat.xor_assoc, Nat.pow_add, Nat.mul_comm (2 ^ q)]

/-- The bits that are turned, as far as k. -/
def mask (n at_ bt : Nat) : Nat → Nat
  | 0 => 0
  | k + 1 => mask n at_ bt k ^^^ (if at_ + k < 8 * n ∧ bt / 2 ^ k % 2 = 1 then 2 ^ k else 0)
def flipsN (l : List Nat) (at_ bt : Nat) : Nat → List Nat
  | 0 => l
  | k + 1 => if at_ + k < 8 * l.length ∧ bt / 2 ^ k % 2 = 1 then flipN (flipsN l at_ bt k) (at_ + k) else flipsN l at_ bt k
theorem flipsN_length (l : List Nat) (at_ bt k : Nat) : (flipsN l at_ bt k).length = l.length := by
  induction k with
  | zero => rfl
  | succ k ih =>
    simp only [flipsN]
    split
    · simp [flipN, ih]
    · exact ih
theorem val_flipsN (l : List Nat) (at_ bt k : Nat) : val (flipsN l at_ bt k) = val l ^^^ 2 ^ at_ * mask l.length at_ bt k := by
  induction k with
  | zero => simp [flipsN, mask]
  | succ k ih =>
    simp only [flipsN, mask]
    by_cases h : at_ + k < 8 * l.length ∧ bt / 2 ^ k % 2 = 1
    · rw [if_pos h, if_pos h, val_flipN _ _ (by rw [flipsN_length]; exact h.1), ih, mul_xor, Nat.xor_assoc, Nat.pow_add]
    · rw [if_neg h, if_neg h, ih, Nat.xor_zero]
theorem mask_lt (n at_ bt k : Nat) : mask n at_ bt k < 2 ^ k := by
  induction k with
  | zero => simp [mask]
  | succ k ih =>
    simp only [mask]
    apply Nat.xor_lt_two_pow
    · rw [Nat.pow_succ]; omega
    · split
      · rw [Nat.pow_succ]; have := Nat.two_pow_pos k; omega
      · exact Nat.two_pow_pos _
theorem xor_right_eq_self (a b : Nat) : a ^^^ b = a ↔ b = 0 := by
  constructor
  · intro h
    have : a ^^^ (a ^^^ b) = a ^^^ a := by rw [h]
    rw [← Nat.xor_assoc, Nat.xor_self, Nat.zero_xor] at this
    exact this
  · intro h; rw [h, Nat.xor_zero]
/-- A run of at most 32 bits: the sum stays just where no bit is turned. -/
theorem crc_flips (l : List Nat) (at_ bt : Nat) (hat : at_ ≤ 8 * l.length) : crc (flipsN l at_ bt 32) = crc l ↔ mask l.length at_ bt 32 = 0 := by
  have hm := mask_lt l.length at_ bt 32
  unfold crc
  rw [run_val, run_val, flipsN_length, val_flipsN, ← Nat.xor_assoc]
  generalize mask l.length at_ bt 32 = m at *
  have e : it (8 * l.length) (4294967295 ^^^ val l ^^^ 2 ^ at_ * m) = it (8 * l.length) (4294967295 ^^^ val l) ^^^ it (8 * l.length - at_) m := by
    rw [it_xor]
    congr 1
    rw [show 8 * l.length = at_ + (8 * l.length - at_) from by omega, it_add, it_shift, Nat.add_sub_cancel_left]
  rw [e]
  constructor
  · intro h
    apply it_eq_zero (8 * l.length - at_) m hm
    have h' := congrArg (· ^^^ 4294967295) h
    simp only [Nat.xor_assoc, Nat.xor_self, Nat.xor_zero] at h'
    exact (xor_right_eq_self _ _).1 h'
  · intro h
    rw [h, it_zero', Nat.xor_zero]

theorem val_inj (l : List Nat) : ∀ m, l.length = m.length → (∀ b ∈ l, b < 256) → (∀ b ∈ m, b < 256) → val l = val m → l = m := by
  induction l with
  | nil => intro m h _ _ _; exact (List.eq_nil_of_length_eq_zero h.symm).symm
  | cons a l ih =>
    intro m h ha hb hv
    match m, h with
    | b :: m, h =>
      have h1 := ha a List.mem_cons_self
      have h2 := hb b List.mem_cons_self
      simp only [val] at hv
      rw [xadd _ _ h1, xadd _ _ h2] at hv
      obtain rfl : a = b := by omega
      rw [ih m (by simpa using h) (fun x hx => ha x (List.mem_cons_of_mem _ hx)) (fun x hx => hb x (List.mem_cons_of_mem _ hx)) (by omega)]
theorem flipsN_eq (l : List Nat) (at_ bt : Nat) (hb : ∀ b ∈ l, b < 256) (hf : ∀ b ∈ flipsN l at_ bt 32, b < 256) : flipsN l at_ bt 32 = l ↔ mask l.length at_ bt 32 = 0 := by
  constructor
  · intro h
    have hv := val_flipsN l at_ bt 32
    rw [h] at hv
    have := (xor_right_eq_self _ _).1 hv.symm
    rcases Nat.mul_eq_zero.1 this with h0 | h0
    · have := Nat.two_pow_pos at_; omega
    · exact h0
  · intro h
    apply val_inj _ _ (flipsN_length _ _ _ _) hf hb
    rw [val_flipsN, h, Nat.mul_zero, Nat.xor_zero]

end Go.Proofs.Ytboihdhmahgggaa.CrcPure
