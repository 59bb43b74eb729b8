/- CrcPure: sums of bytes as plain arithmetic: one bit's step is linear and loses nothing; the sum of bytes is the step, as often as there are bits, of what the bytes are as one number. -/
namespace Go.Proofs.Ytboihdhmahgggaa.CrcPure

/-- One bit's step. -/
def stp (s : Nat) : Nat := (s / 2) ^^^ (if s % 2 = 1 then 3988292384 else 0)
def it : Nat → Nat → Nat
  | 0, s => s
  | n + 1, s => it n (stp s)
/-- The running sum behind bytes. -/
def run : Nat → List Nat → Nat
  | s, [] => s
  | s, b :: l => run (it 8 (s ^^^ b)) l
/-- The sum. -/
def crc (l : List Nat) : Nat := run 4294967295 l ^^^ 4294967295
/-- Bytes as one number, the lowest first. -/
def val : List Nat → Nat
  | [] => 0
  | b :: l => b ^^^ (256 * val l)

theorem xor_div2 (a b : Nat) : (a ^^^ b) / 2 = a / 2 ^^^ b / 2 := by
  apply Nat.eq_of_testBit_eq
  intro i
  simp [Nat.testBit_xor, Nat.testBit_div_two]

theorem stp_xor (a b : Nat) : stp (a ^^^ b) = stp a ^^^ stp b := by
  unfold stp
  rw [xor_div2]
  have h := @Nat.xor_mod_two_eq_one a b
  generalize (3988292384 : Nat) = P
  by_cases ha : a % 2 = 1 <;> by_cases hb : b % 2 = 1 <;> by_cases hc : (a ^^^ b) % 2 = 1 <;> simp only [ha, hb, hc, if_true, if_false, Nat.xor_zero] <;> first | (simp [ha, hb, hc] at h; done) | skip
  · rw [Nat.xor_assoc, Nat.xor_comm P (b / 2 ^^^ P), Nat.xor_assoc, Nat.xor_self, Nat.xor_zero]
  · rw [Nat.xor_assoc, Nat.xor_assoc, Nat.xor_comm P]
  · rw [Nat.xor_assoc]

theorem stp_double (y : Nat) : stp (2 * y) = y := by
  unfold stp
  rw [if_neg (by omega), Nat.xor_zero]
  omega

theorem stp_lt (s : Nat) (h : s < 2 ^ 32) : stp s < 2 ^ 32 := by
  unfold stp
  apply Nat.xor_lt_two_pow
  · omega
  · split <;> omega

theorem xor_eq_zero (a b : Nat) (h : a ^^^ b = 0) : a = b := by
  apply Nat.eq_of_testBit_eq
  intro i
  have := congrArg (fun x => Nat.testBit x i) h
  simpa [Nat.testBit_xor] using this

theorem stp_zero (s : Nat) (h : s < 2 ^ 32) (h0 : stp s = 0) : s = 0 := by
  unfold stp at h0
  have h1 := xor_eq_zero _ _ h0
  split at h1 <;> omega

theorem it_xor (n : Nat) : ∀ a b, it n (a ^^^ b) = it n a ^^^ it n b := by
  induction n with
  | zero => intro a b; rfl
  | succ n ih => intro a b; simp only [it]; rw [stp_xor, ih]

theorem it_add (m n : Nat) : ∀ s, it (m + n) s = it n (it m s) := by
  induction m with
  | zero => intro s; simp [it]
  | succ m ih => intro s; rw [Nat.succ_add]; simp only [it]; exact ih _

theorem it_shift (n : Nat) : ∀ y, it n (2 ^ n * y) = y := by
  induction n with
  | zero => intro y; simp [it]
  | succ n ih =>
    intro y
    simp only [it]
    rw [show 2 ^ (n + 1) * y = 2 * (2 ^ n * y) from by rw [Nat.pow_succ, Nat.mul_comm (2 ^ n) 2, Nat.mul_assoc], stp_double, ih]

theorem it_lt (n : Nat) : ∀ s, s < 2 ^ 32 → it n s < 2 ^ 32 := by
  induction n with
  | zero => intro s h; exact h
  | succ n ih => intro s h; exact ih _ (stp_lt s h)

theorem it_zero' (n : Nat) : it n 0 = 0 := by
  induction n with
  | zero => rfl
  | succ n ih => simp only [it]; rw [show stp 0 = 0 from rfl]; exact ih

theorem it_eq_zero (n : Nat) : ∀ s, s < 2 ^ 32 → it n s = 0 → s = 0 := by
  induction n with
  | zero => intro s _ h; exact h
  | succ n ih => intro s h h0; exact stp_zero s h (ih _ (stp_lt s h) h0)

theorem run_val (l : List Nat) : ∀ s, run s l = it (8 * l.length) (s ^^^ val l) := by
  induction l with
  | nil => intro s; simp [run, val, it]
  | cons b l ih =>
    intro s
    simp only [run, val, List.length_cons]
    rw [ih, Nat.mul_succ, Nat.add_comm, it_add, ← Nat.xor_assoc, it_xor 8 (s ^^^ b)]
    rw [show (256 : Nat) = 2 ^ 8 from rfl, it_shift]

theorem run_lt (l : List Nat) : ∀ s, s < 2 ^ 32 → (∀ b ∈ l, b < 256) → run s l < 2 ^ 32 := by
  induction l with
  | nil => intro s h _; exact h
  | cons b l ih =>
    intro s h hb
    simp only [run]
    refine ih _ (it_lt 8 _ (Nat.xor_lt_two_pow h ?_)) (fun x hx => hb x (List.mem_cons_of_mem _ hx))
    have := hb b List.mem_cons_self
    omega

theorem crc_lt (l : List Nat) (hb : ∀ b ∈ l, b < 256) : crc l < 2 ^ 32 := Nat.xor_lt_two_pow (run_lt l _ (by decide) hb) (by decide)

theorem run_append (l l' : List Nat) : ∀ s, run s (l ++ l') = run (run s l) l' := by
  induction l with
  | nil => intro s; rfl
  | cons b l ih => intro s; simp only [List.cons_append, run]; exact ih _

end Go.Proofs.Ytboihdhmahgggaa.CrcPure
