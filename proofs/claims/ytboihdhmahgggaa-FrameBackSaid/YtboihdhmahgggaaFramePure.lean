/- FramePure: frames as plain lists: what is put is got again, whatever lies behind; cut short there is a gap; all records are found. -/
import Derived.Test.YtboihdhmahgggaaCrcOf
set_option linter.unusedVariables false
namespace Go.Proofs.Ytboihdhmahgggaa
open CrcPure

/-- Four bytes of a number, the lowest first. -/
def n4 (v : Nat) : List UInt8 := [UInt8.ofNat (v % 256), UInt8.ofNat (v / 256 % 256), UInt8.ofNat (v / 65536 % 256), UInt8.ofNat (v / 16777216 % 256)]
/-- Bytes as one number, the lowest first. -/
def rd4 : List UInt8 → Nat
  | [] => 0
  | b :: l => b.toNat + 256 * rd4 l
theorem n4_length (v : Nat) : (n4 v).length = 4 := rfl
theorem rd4_n4 (v : Nat) (h : v < 4294967296) : rd4 (n4 v) = v := by
  simp only [n4, rd4, UInt8.toNat_ofNat']
  omega
theorem rd4_lt (l : List UInt8) : rd4 l < 256 ^ l.length := by
  induction l with
  | nil => simp [rd4]
  | cons b l ih =>
    have := b.toNat_lt
    rw [List.length_cons, Nat.pow_succ, rd4]
    omega
theorem rd4_lt4 (l : List UInt8) (h : l.length ≤ 4) : rd4 l < 4294967296 :=
  Nat.lt_of_lt_of_le (rd4_lt l) (Nat.pow_le_pow_right (n := 256) (by omega) h)
theorem rd4_snoc (l : List UInt8) (b : UInt8) : rd4 (l ++ [b]) = rd4 l + b.toNat * 256 ^ l.length := by
  induction l with
  | nil => simp [rd4]
  | cons c l ih =>
    rw [List.cons_append, rd4, ih, rd4, List.length_cons, Nat.pow_succ, Nat.mul_add, Nat.add_assoc, Nat.mul_comm (256 ^ l.length) 256, Nat.mul_left_comm]
theorem n4_rd4 (l : List UInt8) (h : l.length = 4) : n4 (rd4 l) = l := by
  match l, h with
  | [a, b, c, d], _ =>
    have ha := a.toNat_lt
    have hb := b.toNat_lt
    have hc := c.toNat_lt
    have hd := d.toNat_lt
    simp only [rd4, n4]
    rw [show (a.toNat + 256 * (b.toNat + 256 * (c.toNat + 256 * (d.toNat + 256 * 0)))) % 256 = a.toNat from by omega,
      show (a.toNat + 256 * (b.toNat + 256 * (c.toNat + 256 * (d.toNat + 256 * 0)))) / 256 % 256 = b.toNat from by omega,
      show (a.toNat + 256 * (b.toNat + 256 * (c.toNat + 256 * (d.toNat + 256 * 0)))) / 65536 % 256 = c.toNat from by omega,
      show (a.toNat + 256 * (b.toNat + 256 * (c.toNat + 256 * (d.toNat + 256 * 0)))) / 16777216 % 256 = d.toNat from by omega]
    simp

/-- The sum of a record with its length ahead. -/
def fsum (r : List UInt8) : Nat := crc (toN (n4 r.length ++ r))
theorem fsum_lt (r : List UInt8) : fsum r < 4294967296 := crc_lt _ (toN_lt _)
/-- A record framed. -/
def fr (r : List UInt8) : List UInt8 := 1 :: (n4 r.length ++ (n4 (fsum r) ++ r))
theorem fr_length (r : List UInt8) : (fr r).length = 9 + r.length := by simp [fr, n4_length]; omega

/-- What Get reads: record, rest, error. -/
def fget (b : List UInt8) : List UInt8 × List UInt8 × Nat :=
  if b = [] then ([], [], 8)
  else if b.getD 0 0 ≠ 1 ∨ 65536 < rd4 ((b.drop 1).take 4) then ([], [], 3)
  else if b.length < 9 + rd4 ((b.drop 1).take 4) then ([], [], 8)
  else if crc (toN ((b.drop 1).take 4 ++ (b.drop 9).take (rd4 ((b.drop 1).take 4)))) ≠ rd4 ((b.drop 5).take 4) then ([], [], 3)
  else ((b.drop 9).take (rd4 ((b.drop 1).take 4)), b.drop (9 + rd4 ((b.drop 1).take 4)), 0)
theorem fget_nil : fget [] = ([], [], 8) := by simp [fget]
theorem fget_bad (b : List UInt8) (h : (fget b).2.2 ≠ 0) : (fget b).1 = [] ∧ (fget b).2.1 = [] := by
  unfold fget at h ⊢
  split
  · exact ⟨rfl, rfl⟩
  · split
    · exact ⟨rfl, rfl⟩
    · split
      · exact ⟨rfl, rfl⟩
      · split
        · exact ⟨rfl, rfl⟩
        · rename_i h1 h2 h3 h4
          rw [if_neg h1, if_neg h2, if_neg h3, if_neg h4] at h
          exact absurd rfl h
/-- What is put is got again, whatever lies behind. -/
theorem fget_fr (r rest : List UInt8) (h : r.length ≤ 65536) : fget (fr r ++ rest) = (r, rest, 0) := by
  have e1 : ((fr r ++ rest).drop 1).take 4 = n4 r.length := by simp [fr, n4]
  have e2 : ((fr r ++ rest).drop 5).take 4 = n4 (fsum r) := by simp [fr, n4]
  have e3 : (fr r ++ rest).drop 9 = r ++ rest := by simp [fr, n4]
  have e4 : (fr r ++ rest).drop (9 + r.length) = rest := by
    rw [← List.drop_drop, e3]; simp
  have hl : rd4 (n4 r.length) = r.length := rd4_n4 _ (by omega)
  unfold fget
  rw [e1, e2, e3, hl, e4, rd4_n4 _ (fsum_lt r)]
  rw [if_neg (by simp [fr]), if_neg (by simp [fr]; omega), if_neg (by rw [List.length_append, fr_length]; omega)]
  rw [List.take_left, if_neg (by simp [fsum])]
/-- A beginning of a frame is a gap. -/
theorem fget_torn (r : List UInt8) (h : r.length ≤ 65536) (k : Nat) (hk : k < (fr r).length) : fget ((fr r).take k) = ([], [], 8) := by
  unfold fget
  by_cases h0 : k = 0
  · subst h0
    simp
  rw [if_neg (by simp [fr, h0])]
  have hle : (((fr r).take k).drop 1).take 4 = (n4 r.length).take (k - 1) := by
    obtain ⟨j, rfl⟩ : ∃ j, k = j + 1 := ⟨k - 1, by omega⟩
    simp only [fr, List.take_succ_cons, List.drop_succ_cons, List.drop_zero, Nat.add_sub_cancel]
    rw [List.take_append, n4_length, List.take_append, List.take_take, List.length_take, n4_length]
    by_cases hj : j ≤ 4
    · rw [show j - 4 = 0 from by omega, List.take_zero, List.take_nil, List.append_nil, Nat.min_eq_right hj]
    · rw [show 4 - min j 4 = 0 from by omega, List.take_zero, List.append_nil, Nat.min_eq_left (by omega), List.take_of_length_le (by rw [n4_length]; exact Nat.le_refl _), List.take_of_length_le (by rw [n4_length]; omega)]
  have hrd : rd4 ((n4 r.length).take (k - 1)) ≤ r.length ∧ (5 ≤ k → rd4 ((n4 r.length).take (k - 1)) = r.length) := by
    have hfull := rd4_n4 r.length (by omega)
    refine ⟨?_, fun h5 => by rw [List.take_of_length_le (by rw [n4_length]; omega)]; exact hfull⟩
    have hp : ∀ (l m : List UInt8), rd4 l ≤ rd4 (l ++ m) := by
      intro l m
      induction l with
      | nil => simp [rd4]
      | cons b l ih => simp only [List.cons_append, rd4]; omega
    have := hp ((n4 r.length).take (k - 1)) ((n4 r.length).drop (k - 1))
    rw [List.take_append_drop, hfull] at this
    exact this
  rw [hle]
  rw [fr_length] at hk
  have hb : ((fr r).take k).getD 0 0 = 1 := by
    obtain ⟨j, rfl⟩ : ∃ j, k = j + 1 := ⟨k - 1, by omega⟩
    rfl
  rw [if_neg (not_or.2 ⟨fun h => h hb, by omega⟩)]
  rw [if_pos (by
    rw [List.length_take, fr_length]
    by_cases h5 : 5 ≤ k
    · have := hrd.2 h5; omega
    · omega)]

/-- All records from the beginning: records, where it stopped, whether that is the end. -/
def fscan : Nat → List UInt8 → List (List UInt8) × List UInt8 × Bool
  | 0, b => ([], b, b.isEmpty)
  | fuel + 1, b => if (fget b).2.2 = 0 then ((fget b).1 :: (fscan fuel (fget b).2.1).1, (fscan fuel (fget b).2.1).2) else ([], b, b.isEmpty)
theorem fget_rest (b : List UInt8) (h : (fget b).2.2 = 0) : ∃ n, (fget b).2.1 = b.drop n ∧ 9 ≤ n ∧ n ≤ b.length ∧ n = 9 + (fget b).1.length ∧ (fget b).1 = (b.drop 9).take (n - 9) := by
  unfold fget at h ⊢
  split
  · rename_i h1; rw [if_pos h1] at h; simp at h
  · rename_i h1
    rw [if_neg h1] at h
    split
    · rename_i h2; rw [if_pos h2] at h; simp at h
    · rename_i h2
      rw [if_neg h2] at h
      split
      · rename_i h3; rw [if_pos h3] at h; simp at h
      · rename_i h3
        rw [if_neg h3] at h
        split
        · rename_i h4; rw [if_pos h4] at h; simp at h
        · refine ⟨_, rfl, by omega, by omega, ?_, ?_⟩
          · rw [List.length_take, List.length_drop]; omega
          · rw [Nat.add_sub_cancel_left]
end Go.Proofs.Ytboihdhmahgggaa
