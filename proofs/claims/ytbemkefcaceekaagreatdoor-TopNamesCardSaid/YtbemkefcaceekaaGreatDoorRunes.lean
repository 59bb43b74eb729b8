/- A text, rune by rune: plain Lean over the model's own decoding; no program in sight. -/
import Derived.Lib.MapLaws
import Derived.Lib.TrimUEq
import Derived.Lib.TrimAscii
import Derived.Lib.RuneBytes
import Derived.Lib.IsU
import Derived.Lib.CaseU
import Derived.KernelRfl
set_option linter.unusedVariables false
namespace Go.Proofs.YtbemkefcaceekaaGreatDoor
open Go.Lib

/-- A text's pieces: each rune's bytes, and the rune. -/
def pcs : Nat → List UInt8 → List (List UInt8 × Nat)
  | 0, _ => []
  | n + 1, l => if l = [] then [] else (l.take (decodeL l).2, (decodeL l).1) :: pcs n (l.drop (decodeL l).2)
def chunks (l : List UInt8) : List (List UInt8 × Nat) := pcs l.length l
/-- The bytes of pieces. -/
def flat (c : List (List UInt8 × Nat)) : List UInt8 := c.flatMap (·.1)
def runes (l : List UInt8) : List Nat := (chunks l).map (·.2)

theorem pcs_nil : ∀ n, pcs n [] = []
  | 0 => rfl
  | _ + 1 => by simp [pcs]
theorem pcs_fuel : ∀ (n m : Nat) (l : List UInt8), l.length ≤ n → l.length ≤ m → pcs n l = pcs m l
  | 0, m, l, hn, _ => by
    have : l = [] := List.eq_nil_of_length_eq_zero (by omega)
    subst this
    rw [pcs_nil, pcs_nil]
  | n + 1, 0, l, _, hm => by
    have : l = [] := List.eq_nil_of_length_eq_zero (by omega)
    subst this
    rw [pcs_nil, pcs_nil]
  | n + 1, m + 1, l, hn, hm => by
    by_cases hne : l = []
    · subst hne
      rw [pcs_nil, pcs_nil]
    · have hw := decodeL_width l
      have hl : 0 < l.length := List.length_pos_iff.2 hne
      simp only [pcs, if_neg hne]
      rw [pcs_fuel n m _ (by rw [List.length_drop]; omega) (by rw [List.length_drop]; omega)]
theorem chunks_nil : chunks [] = [] := rfl
theorem chunks_step (l : List UInt8) (h : l ≠ []) : chunks l = (l.take (decodeL l).2, (decodeL l).1) :: chunks (l.drop (decodeL l).2) := by
  have hw := decodeL_width l
  have hl : 0 < l.length := List.length_pos_iff.2 h
  unfold chunks
  obtain ⟨n, hn⟩ : ∃ n, l.length = n + 1 := ⟨l.length - 1, by omega⟩
  rw [hn]
  simp only [pcs, if_neg h]
  rw [pcs_fuel n _ _ (by rw [List.length_drop]; omega) (Nat.le_refl _)]
/-- By the pieces: an induction over a text. -/
theorem by_piece {p : List UInt8 → Prop} (h0 : p []) (h1 : ∀ l, l ≠ [] → p (l.drop (decodeL l).2) → p l) : ∀ l, p l := by
  have h : ∀ n (l : List UInt8), l.length ≤ n → p l := by
    intro n
    induction n with
    | zero => intro l hl; rw [List.eq_nil_of_length_eq_zero (by omega : l.length = 0)]; exact h0
    | succ n ih =>
      intro l hl
      by_cases hne : l = []
      · rw [hne]; exact h0
      · have hw := decodeL_width l
        exact h1 l hne (ih _ (by rw [List.length_drop]; omega))
  exact fun l => h l.length l (Nat.le_refl _)
theorem chunks_flat (l : List UInt8) : flat (chunks l) = l := by
  induction l using by_piece with
  | h0 => rfl
  | h1 l hne ih =>
    rw [chunks_step l hne]
    unfold flat at ih ⊢
    rw [List.flatMap_cons, ih, List.take_append_drop]
theorem chunks_length (l : List UInt8) : (chunks l).length ≤ l.length := by
  induction l using by_piece with
  | h0 => exact Nat.le_refl _
  | h1 l hne ih =>
    have hw := decodeL_width l
    have hl : 0 < l.length := List.length_pos_iff.2 hne
    rw [chunks_step l hne, List.length_cons]
    rw [List.length_drop] at ih
    omega
theorem flat_append (a b : List (List UInt8 × Nat)) : flat (a ++ b) = flat a ++ flat b := by simp [flat]
theorem flat_cons (a : List UInt8 × Nat) (b : List (List UInt8 × Nat)) : flat (a :: b) = a.1 ++ flat b := by simp [flat]
theorem flat_nil : flat [] = [] := rfl

/-! ### A beginning of a text -/
set_option maxHeartbeats 8000000 in
set_option maxRecDepth 100000 in
theorem decodeN_cut (n b0 b1 b2 b3 k : Nat) (hn : 1 ≤ n) (hk : (decodeN n b0 b1 b2 b3).2 ≤ k) :
    decodeN (min k n) b0 (if 1 < k then b1 else 0) (if 2 < k then b2 else 0) (if 3 < k then b3 else 0) = decodeN n b0 b1 b2 b3 := by
  rcases decodeN_shape n b0 b1 b2 b3 with ⟨c, e⟩ | ⟨c1, c2, c3, cv, e⟩ | ⟨c1, c2, c3, c4, cv, cs, e⟩ | ⟨c1, c2, c3, c4, c5, cv, cw, e⟩ | e
  · rw [e]; simp [decodeN, c]
  · rw [e] at hk ⊢
    have k1 : 1 < k := hk
    have : 1 < min k n := by omega
    simp only [k1, if_true]
    unfold decodeN
    repeat' split
    all_goals first | rfl | (exfalso; omega)
  · rw [e] at hk ⊢
    have k1 : 2 < k := hk
    have k2 : 1 < k := by omega
    have : 2 < min k n := by omega
    simp only [k1, k2, if_true]
    unfold decodeN
    repeat' split
    all_goals first | rfl | (exfalso; omega)
  · rw [e] at hk ⊢
    have k1 : 3 < k := hk
    have k2 : 1 < k := by omega
    have k3 : 2 < k := by omega
    have : 3 < min k n := by omega
    simp only [k1, k2, k3, if_true]
    unfold decodeN
    repeat' split
    all_goals first | rfl | (exfalso; omega)
  · have e0 := e
    rw [e] at hk ⊢
    have k1 : 1 ≤ k := hk
    by_cases h1 : 1 < k
    · by_cases h2 : 2 < k
      · by_cases h3 : 3 < k
        · simp only [h1, h2, h3, if_true]
          unfold decodeN at e ⊢
          have m1 : (1 < min k n) = (1 < n) := propext ⟨fun h => by omega, fun h => by omega⟩
          have m2 : (2 < min k n) = (2 < n) := propext ⟨fun h => by omega, fun h => by omega⟩
          have m3 : (3 < min k n) = (3 < n) := propext ⟨fun h => by omega, fun h => by omega⟩
          simp only [m1, m2, m3]
          exact e
        · have m1 : (1 < min k n) = (1 < n) := propext ⟨fun h => by omega, fun h => by omega⟩
          have m2 : (2 < min k n) = (2 < n) := propext ⟨fun h => by omega, fun h => by omega⟩
          have m3 : (3 < min k n) = False := propext ⟨fun h => by omega, fun h => h.elim⟩
          simp only [h1, h2, h3, if_true, if_false]
          unfold decodeN at e ⊢
          simp only [m1, m2, m3]
          split
          · rename_i q; rw [if_pos q] at e; exact e
          · rename_i q
            rw [if_neg q] at e
            split
            · rename_i q2; rw [if_pos q2] at e; exact e
            · rename_i q2
              rw [if_neg q2] at e
              split
              · rename_i q3; rw [if_pos q3] at e; exact e
              · simp
      · have m1 : (1 < min k n) = (1 < n) := propext ⟨fun h => by omega, fun h => by omega⟩
        have m2 : (2 < min k n) = False := propext ⟨fun h => by omega, fun h => h.elim⟩
        simp only [h1, h2, if_true, if_false]
        unfold decodeN at e ⊢
        simp only [m1, m2]
        split
        · rename_i q; rw [if_pos q] at e; exact e
        · rename_i q
          rw [if_neg q] at e
          split
          · rename_i q2; rw [if_pos q2] at e; exact e
          · simp
    · have m1 : (1 < min k n) = False := propext ⟨fun h => by omega, fun h => h.elim⟩
      simp only [h1, if_false]
      unfold decodeN at e ⊢
      simp only [m1]
      split
      · rename_i q; rw [if_pos q] at e; exact e
      · simp
theorem getD_take (l : List UInt8) (k i : Nat) : ((l.take k).getD i 0).toNat = if i < k then (l.getD i 0).toNat else 0 := by
  by_cases h : i < k
  · rw [if_pos h]; simp [List.getD, h]
  · rw [if_neg h, List.getD, List.getElem?_eq_none (by rw [List.length_take]; omega)]; rfl
/-- A rune is told by its own bytes. -/
theorem decodeL_take (l : List UInt8) (k : Nat) (hne : l ≠ []) (hk : (decodeL l).2 ≤ k) : decodeL (l.take k) = decodeL l := by
  have hl : 0 < l.length := List.length_pos_iff.2 hne
  have hw := decodeL_width l
  rw [decodeL_N] at hk hw ⊢
  rw [decodeL_N l, getD_take, getD_take, getD_take, getD_take, List.length_take, if_pos (show 0 < k by omega)]
  exact decodeN_cut l.length _ _ _ _ k hl hk
/-- A text's first pieces are their bytes' pieces. -/
theorem chunks_pre (m : Nat) : ∀ l : List UInt8, chunks (flat ((chunks l).take m)) = (chunks l).take m := by
  induction m with
  | zero => intro l; rfl
  | succ m ih =>
    intro l
    by_cases hne : l = []
    · subst hne; rfl
    · have hw := decodeL_width l
      have hle := decodeL_le l hne
      have hl : 0 < l.length := List.length_pos_iff.2 hne
      rw [chunks_step l hne, List.take_succ_cons, flat_cons]
      generalize hr : flat ((chunks (l.drop (decodeL l).2)).take m) = rest
      have ih1 := ih (l.drop (decodeL l).2)
      rw [hr] at ih1
      have hd : l.drop (decodeL l).2 = rest ++ flat ((chunks (l.drop (decodeL l).2)).drop m) := by
        rw [← hr, ← flat_append, List.take_append_drop, chunks_flat]
      have hp : l.take (decodeL l).2 ++ rest = l.take ((decodeL l).2 + rest.length) := by rw [List.take_add, hd, List.take_left]
      have hlt : (l.take (decodeL l).2).length = (decodeL l).2 := by rw [List.length_take]; omega
      have hdec : decodeL (l.take (decodeL l).2 ++ rest) = decodeL l := by rw [hp]; exact decodeL_take l _ hne (by omega)
      have hne2 : l.take (decodeL l).2 ++ rest ≠ [] := by
        intro h
        have := congrArg List.length h
        rw [List.length_append, hlt] at this
        simp at this; omega
      rw [chunks_step _ hne2, hdec, List.take_left' hlt, List.drop_left' hlt, ih1]
/-- .. and those behind them. -/
theorem chunks_post (m : Nat) : ∀ l : List UInt8, chunks (l.drop (flat ((chunks l).take m)).length) = (chunks l).drop m := by
  induction m with
  | zero => intro l; rfl
  | succ m ih =>
    intro l
    by_cases hne : l = []
    · subst hne; rfl
    · have hle := decodeL_le l hne
      have hlt : (l.take (decodeL l).2).length = (decodeL l).2 := by rw [List.length_take]; omega
      rw [chunks_step l hne, List.take_succ_cons, flat_cons, List.length_append, hlt, List.drop_succ_cons, ← List.drop_drop]
      exact ih _

/-! ### A rune's own bytes -/
set_option maxHeartbeats 4000000 in
theorem decodeN_enc2 (n b0 b1 b2 b3 : Nat) (hn : 2 ≤ n) (h0 : 194 ≤ b0 ∧ b0 ≤ 223) (h1 : 128 ≤ b1 ∧ b1 ≤ 191) : (decodeN n b0 b1 b2 b3).2 = 2 := by
  unfold decodeN
  repeat' split
  all_goals first | rfl | (exfalso; omega)
set_option maxHeartbeats 4000000 in
theorem decodeN_enc3 (n b0 b1 b2 b3 : Nat) (hn : 3 ≤ n) (h0 : 224 ≤ b0 ∧ b0 ≤ 239) (h1 : 128 ≤ b1 ∧ b1 ≤ 191) (h2 : 128 ≤ b2 ∧ b2 ≤ 191) (hlo : b0 = 224 → 160 ≤ b1) (hs : b0 = 237 → b1 ≤ 159) : (decodeN n b0 b1 b2 b3).2 = 3 := by
  unfold decodeN
  repeat' split
  all_goals first | rfl | (exfalso; omega)
set_option maxHeartbeats 4000000 in
theorem decodeN_enc4 (n b0 b1 b2 b3 : Nat) (hn : 4 ≤ n) (h0 : 240 ≤ b0 ∧ b0 ≤ 244) (h1 : 128 ≤ b1 ∧ b1 ≤ 191) (h2 : 128 ≤ b2 ∧ b2 ≤ 191) (h3 : 128 ≤ b3 ∧ b3 ≤ 191) (hlo : b0 = 240 → 144 ≤ b1) (hs : b0 = 244 → b1 ≤ 143) : (decodeN n b0 b1 b2 b3).2 = 4 := by
  unfold decodeN
  repeat' split
  all_goals first | rfl | (exfalso; omega)
/-- A rune's own bytes, ahead of others, are one piece. -/
theorem decodeL_cons (b0 : UInt8) (t : List UInt8) : decodeL (b0 :: t) = decodeN (t.length + 1) b0.toNat (t.getD 0 0).toNat (t.getD 1 0).toNat (t.getD 2 0).toNat := by
  rw [decodeL_N]; simp [List.getD]
theorem byteZ (z : Int) (h0 : 0 ≤ z) (h1 : z < 256) : (z.toNat.toUInt8).toNat = z.toNat := by
  have : z.toNat < 256 := by omega
  simp; omega
theorem enc_width (r : Int) (t : List UInt8) : (decodeL (encodeRune r ++ t)).2 = (encodeRune r).length := by
  by_cases c1 : 0 ≤ r ∧ r ≤ 127
  · rw [encodeRune, encodeRuneZ_one c1.1 c1.2]
    show (decodeL (r.toNat.toUInt8 :: t)).2 = 1
    rw [decodeL_ascii _ _ (by rw [byteZ r (by omega) (by omega)]; omega)]
  · by_cases c2 : 128 ≤ r ∧ r ≤ 2047
    · rw [encodeRune, encodeRuneZ_two c2.1 c2.2]
      show (decodeL ((192 + r / 64).toNat.toUInt8 :: (128 + r % 64).toNat.toUInt8 :: t)).2 = 2
      rw [decodeL_cons]
      refine decodeN_enc2 _ _ _ _ _ (by simp) ?_ ?_
      · rw [byteZ _ (by omega) (by omega)]; omega
      · show 128 ≤ ((128 + r % 64).toNat.toUInt8).toNat ∧ ((128 + r % 64).toNat.toUInt8).toNat ≤ 191
        rw [byteZ _ (by omega) (by omega)]; omega
    · by_cases c3 : (2048 ≤ r ∧ r < 55296) ∨ (57343 < r ∧ r ≤ 65535)
      · rw [encodeRune, encodeRuneZ_three c3]
        show (decodeL ((224 + r / 4096).toNat.toUInt8 :: (128 + r / 64 % 64).toNat.toUInt8 :: (128 + r % 64).toNat.toUInt8 :: t)).2 = 3
        rw [decodeL_cons]
        show (decodeN _ _ ((128 + r / 64 % 64).toNat.toUInt8).toNat ((128 + r % 64).toNat.toUInt8).toNat _).2 = 3
        rw [byteZ (224 + r / 4096) (by omega) (by omega), byteZ (128 + r / 64 % 64) (by omega) (by omega), byteZ (128 + r % 64) (by omega) (by omega)]
        exact decodeN_enc3 _ _ _ _ _ (by simp) (by omega) (by omega) (by omega) (by omega) (by omega)
      · by_cases c4 : 65536 ≤ r ∧ r ≤ 1114111
        · rw [encodeRune, encodeRuneZ_four c4.1 c4.2]
          show (decodeL ((240 + r / 262144).toNat.toUInt8 :: (128 + r / 4096 % 64).toNat.toUInt8 :: (128 + r / 64 % 64).toNat.toUInt8 :: (128 + r % 64).toNat.toUInt8 :: t)).2 = 4
          rw [decodeL_cons]
          show (decodeN _ _ ((128 + r / 4096 % 64).toNat.toUInt8).toNat ((128 + r / 64 % 64).toNat.toUInt8).toNat ((128 + r % 64).toNat.toUInt8).toNat).2 = 4
          rw [byteZ (240 + r / 262144) (by omega) (by omega), byteZ (128 + r / 4096 % 64) (by omega) (by omega), byteZ (128 + r / 64 % 64) (by omega) (by omega), byteZ (128 + r % 64) (by omega) (by omega)]
          exact decodeN_enc4 _ _ _ _ _ (by simp) (by omega) (by omega) (by omega) (by omega) (by omega) (by omega)
        · rw [encodeRune, encodeRuneZ_bad (by omega)]
          show (decodeL (239 :: 191 :: 189 :: t)).2 = 3
          rw [decodeL_cons]
          exact decodeN_enc3 _ _ _ _ _ (by simp) (by decide) (by simp) (by simp) (by simp) (by simp)
theorem enc_length (r : Int) : 1 ≤ (encodeRune r).length ∧ (encodeRune r).length ≤ 4 := by
  have := encodeRuneZ_length r
  simpa [encodeRune] using this
theorem chunks_enc (r : Int) (t : List UInt8) : ∃ c, chunks (encodeRune r ++ t) = (encodeRune r, c) :: chunks t := by
  have h1 := enc_length r
  have hne : encodeRune r ++ t ≠ [] := by
    intro h
    have := congrArg List.length h
    rw [List.length_append, List.length_nil] at this
    omega
  refine ⟨(decodeL (encodeRune r ++ t)).1, ?_⟩
  rw [chunks_step _ hne, enc_width, List.take_left, List.drop_left]
/-- A text of runes has as many pieces. -/
theorem chunks_encs (f : List UInt8 × Nat → Int) : ∀ l : List (List UInt8 × Nat), (chunks (l.flatMap fun c => encodeRune (f c))).length = l.length
  | [] => rfl
  | c :: l => by
    rw [List.flatMap_cons]
    obtain ⟨x, hx⟩ := chunks_enc (f c) (l.flatMap fun c => encodeRune (f c))
    rw [hx, List.length_cons, List.length_cons, chunks_encs f l]
end Go.Proofs.YtbemkefcaceekaaGreatDoor
