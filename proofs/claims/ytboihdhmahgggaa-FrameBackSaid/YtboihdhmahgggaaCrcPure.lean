/- CrcPure: sums of bytes as plain arithmetic: one bit's step is linear and loses nothing; the sum of bytes is the step, as often as there are bits, of what the bytes are as one number. -/
namespace Go.Proofs.Ytboihdhmahgggaa.CrcPure

/-- One bit's step. -/
def stp (s : Nat) : Nat := (s / 2) ^^^ (if s % 2 = 1 then 3988292384 else 0)
def it : Nat → Nat → Nat
  | 0, s => s
  | n + 1, s => it n (stp s)
/-- The running sum behind bytes. -/
def run : Nat → List Nat → Nat
  | s, [] => s
  | s, b :: l => run (it 8 (s ^^^ b)) l
/-- The sum. -/
def crc (l : List Nat) : Nat := run 4294967295 l ^^^ 4294967295
/-- Bytes as one number, the lowest first. -/
def val : List Nat → Nat
  | [] => 0
  | b :: l => b ^^^ (256 * val l)

theorem xor_div2 (a b : Nat) : (a ^^^ b) / 2 = a / 2 ^^^ b / 2 := by
  apply Nat.eq_of_testBit_eq
  intro i
  simp [Nat.testBit_xor, Nat.testBit_div_two]

theorem stp_xor (a b : Nat) : stp (a ^^^ b) = stp a ^^^ stp b := by
  unfold stp
  rw [xor_div2]
  have h := @Nat.xor_mod_two_eq_one a b
  generalize (3988292384 : Nat) = P
  by_cases ha : a % 2 = 1 <;> by_cases hb : b % 2 = 1 <;> by_cases hc : (a ^^^ b) % 2 = 1 <;> simp only [ha, hb, hc, if_true, if_false, Nat.xor_zero] <;> first | (simp [ha, hb, hc] at h; done) | skip
  · rw [Nat.xor_assoc, Nat.xor_comm P (b / 2 ^^^ P), Nat.xor_assoc, Nat.xor_self, Nat.xor_zero]
  · rw [Nat.xor_assoc, Nat.xor_assoc, Nat.xor_comm P]
  · rw [Nat.xor_assoc]

theorem stp_double (y : Nat) : stp (2 * y) = y := by
  unfold stp
  rw [if_neg (by omega), Nat.xor_zero]
  omega

theorem stp_lt (s : Nat) (h : s < 2 ^ 32) : stp s < 2 ^ 32 := by
  unfold stp
  apply Nat.xor_lt_two_pow
  · omega
  · split <;> omega

theorem xor_eq_zero (a b : Nat) (h : a ^^^ b = 0) : a = b := by
  apply Nat.eq_of_testBit_eq
  intro i
  have := congrArg (fun x => Nat.testBit x i) h
  simpa [Nat.testBit_xor] using this

theorem stp_zero (s : Nat) (h : s < 2 ^ 32) (h0 : stp s = 0) : s = 0 := by
  unfold stp at h0
  have h1 := xor_eq_zero _ _ h0
  split at h1 <;> omega

theorem it_xor (n : Nat) : ∀ a b, it n (a ^^^ b) = it n a ^^^ it n b := by
  induction n with
  | zero => intro a b; rfl
  | succ n ih => intro a b; simp only [it]; rw [stp_xor, ih]

theorem it_add (m n : Nat) : ∀ s, it (m + n) s = it n (it m s) := by
  induction m with
  | zero => intro s; simp [it]
  | succ m ih => intro s; rw [Nat.succ_add]; simp only [it]; exact ih _

theorem it_shift (n : Nat) : ∀ y, it n (2 ^ n * y) = y := by
  induction n with
  | zero => intro y; simp [it]
  | succ n ih =>
    intro y
    simp only [it]
    rw [show 2 ^ (n + 1) * y = 2 * (2 ^ n * y) from by rw [Nat.pow_succ, Nat.mul_comm (2 ^ n) 2, Nat.mul_assoc], stp_double, ih]

theorem it_lt (n : Nat) : ∀ s, s < 2 ^ 32 → it n s < 2 ^ 32 := by
  induction n with
  | zero => intro s h; exact h
  | succ n ih => intro s h; exact ih _ (stp_lt s h)

theorem it_zero' (n : Nat) : it n 0 = 0 := by
  induction n with
  | zero => rfl
  | succ n ih => simp only [it]; rw [show stp 0 = 0 from rfl]; exact ih

theorem it_eq_zero (n : Nat) : ∀ s, s < 2 ^ 32 → it n s = 0 → s = 0 := by
  induction n with
  | zero => intro s _ h; exact h
  | succ n ih => intro s h h0; exact stp_zero s h (ih _ (stp_lt s h) h0)

theorem run_val (l : List Nat) : ∀ s, run s l = it (8 * l.length) (s ^^^ val l) := by
  induction l with
  | nil => intro s; simp [run, val, it]
  | cons b l ih =>
    intro s
    simp only [run, val, List.length_cons]
    rw [ih, Nat.mul_succ, Nat.add_comm, it_add, ← Nat.xor_assoc, it_xor 8 (s ^^^ b)]
    rw [show (256 : Nat) = 2 ^ 8 from rfl, it_shift]

theorem run_lt (l : List Nat) : ∀ s, s < 2 ^ 32 → (∀ b ∈ l, b < 256) → run s l < 2 ^ 32 := by
  induction l with
  | nil => intro s h _; exact h
  | cons b l ih =>
    intro s h hb
    simp only [run]
    refine ih _ (it_lt 8 _ (Nat.xor_lt_two_pow h ?_)) (fun x hx => hb x (List.mem_cons_of_mem _ hx))
    have := hb b List.mem_cons_self
    omega

theorem crc_lt (l : List Nat) (hb : ∀ b ∈ l, b < 256) : crc l < 2 ^ 32 := Nat.xor_lt_two_pow (run_lt l _ (by decide) hb) (by decide)

theorem run_append (l l' : List Nat) : ∀ s, run s (l ++ l') = run (run s l) l' := by
  induction l with
  | nil => intro s; rfl
  | cons b l ih => intro s; simp only [List.cons_append, run]; exact ih _

theorem xadd (a b : Nat) (ha : a < 256) : a ^^^ (256 * b) = a + 256 * b := by
  have h1 : (a ^^^ (256 * b)) % 2 ^ 8 = a := by
    rw [Nat.xor_mod_two_pow]
    rw [show a % 2 ^ 8 = a from Nat.mod_eq_of_lt ha, show 256 * b % 2 ^ 8 = 0 from by omega, Nat.xor_zero]
  have h2 : (a ^^^ (256 * b)) / 2 ^ 8 = b := by
    rw [← Nat.shiftRight_eq_div_pow, Nat.shiftRight_xor_distrib, Nat.shiftRight_eq_div_pow, Nat.shiftRight_eq_div_pow, show a / 2 ^ 8 = 0 from Nat.div_eq_of_lt ha, show 256 * b / 2 ^ 8 = b from by omega, Nat.zero_xor]
  have := Nat.div_add_mod (a ^^^ (256 * b)) (2 ^ 8)
  rw [h1, h2] at this
  omega

/-- Four bytes of a number. -/
def le4 (v : Nat) : List Nat := [v % 256, v / 256 % 256, v / 65536 % 256, v / 16777216 % 256]
theorem val_le4 (v : Nat) (h : v < 2 ^ 32) : val (le4 v) = v := by
  simp only [le4, val, Nat.mul_zero, Nat.xor_zero]
  rw [xadd _ _ (by omega), xadd _ _ (by omega), xadd _ _ (by omega)]
  omega
theorem run_le4 (s v : Nat) (h : v < 2 ^ 32) : run s (le4 v) = it 32 (s ^^^ v) := by
  rw [run_val, val_le4 v h]; rfl
/-- Behind its own sum. -/
theorem crc_self (a : List Nat) (hb : ∀ b ∈ a, b < 256) : crc (a ++ le4 (crc a)) = it 32 4294967295 ^^^ 4294967295 := by
  rw [crc, run_append, run_le4 _ _ (crc_lt a hb), crc, ← Nat.xor_assoc, Nat.xor_self, Nat.zero_xor]

/-- Three rows of one length, put on one another. -/
def xor3 : List Nat → List Nat → List Nat → List Nat
  | a :: l, b :: m, c :: n => (a ^^^ b ^^^ c) :: xor3 l m n
  | _, _, _ => []
theorem xor3_comm4 (a b c d e f : Nat) : (a ^^^ b ^^^ c) ^^^ (d ^^^ e ^^^ f) = (a ^^^ d) ^^^ (b ^^^ e) ^^^ (c ^^^ f) := by
  apply Nat.eq_of_testBit_eq
  intro i
  simp only [Nat.testBit_xor]
  cases a.testBit i <;> cases b.testBit i <;> cases c.testBit i <;> cases d.testBit i <;> cases e.testBit i <;> cases f.testBit i <;> rfl
theorem run_xor3 (l : List Nat) : ∀ m n r s t, m.length = l.length → n.length = l.length → run (r ^^^ s ^^^ t) (xor3 l m n) = run r l ^^^ run s m ^^^ run t n := by
  induction l with
  | nil =>
    intro m n r s t hm hn
    obtain rfl := List.eq_nil_of_length_eq_zero hm
    obtain rfl := List.eq_nil_of_length_eq_zero hn
    rfl
  | cons a l ih =>
    intro m n r s t hm hn
    match m, n, hm, hn with
    | b :: m, c :: n, hm, hn =>
      simp only [xor3, run]
      rw [← ih m n _ _ _ (by simpa using hm) (by simpa using hn), xor3_comm4, it_xor, it_xor]
theorem crc_xor3 (l m n : List Nat) (hm : m.length = l.length) (hn : n.length = l.length) : crc (xor3 l m n) = crc l ^^^ crc m ^^^ crc n := by
  unfold crc
  have h := run_xor3 l m n 4294967295 4294967295 4294967295 hm hn
  rw [show (4294967295 ^^^ 4294967295 ^^^ 4294967295 : Nat) = 4294967295 from rfl] at h
  rw [h]
  apply Nat.eq_of_testBit_eq
  intro i
  simp only [Nat.testBit_xor]
  cases (run 4294967295 l).testBit i <;> cases (run 4294967295 m).testBit i <;> cases (run 4294967295 n).testBit i <;> cases (4294967295 : Nat).testBit i <;> rfl

end Go.Proofs.Ytboihdhmahgggaa.CrcPure
