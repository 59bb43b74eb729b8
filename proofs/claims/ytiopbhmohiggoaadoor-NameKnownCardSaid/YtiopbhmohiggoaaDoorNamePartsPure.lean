/- The parts of a text: plain Lean. -/
import Derived.Test.YtiopbhmohiggoaaDoorName4
set_option linter.unusedVariables false
namespace Go.Proofs.YtiopbhmohiggoaaDoor
open Go.Lib

/-- The parts, by pieces. -/
def splitP (c : Int) : List (List UInt8 × Nat) → List (List UInt8 × Nat) → List (List (List UInt8 × Nat))
  | cur, [] => [cur]
  | cur, p :: t => if (p.2 : Int) = c then cur :: splitP c [] t else splitP c (cur ++ [p]) t
theorem splitC_eq (c : Int) : ∀ (t cur : List (List UInt8 × Nat)), splitC c (flat cur) t = (splitP c cur t).map flat
  | [], cur => rfl
  | p :: t, cur => by
    have h1 := splitC_eq c t []
    have h2 := splitC_eq c t (cur ++ [p])
    rw [flat_append, flat_cons, flat_nil, List.append_nil] at h2
    rw [flat_nil] at h1
    unfold splitC splitP
    split
    · rw [List.map_cons, h1]
    · rw [h2]
theorem splitP_ne (c : Int) : ∀ (t cur : List (List UInt8 × Nat)), splitP c cur t ≠ []
  | [], cur => by simp [splitP]
  | p :: t, cur => by
    unfold splitP
    split
    · simp
    · exact splitP_ne c t _
/-- How many pieces the parts have: all but those that part. -/
theorem splitP_sum (c : Int) : ∀ (t cur : List (List UInt8 × Nat)), ((splitP c cur t).map List.length).sum + (splitP c cur t).length = cur.length + t.length + 1
  | [], cur => by simp [splitP]
  | p :: t, cur => by
    have h1 := splitP_sum c t []
    have h2 := splitP_sum c t (cur ++ [p])
    unfold splitP
    split
    · rw [List.map_cons, List.sum_cons, List.length_cons, List.length_cons]
      simp only [List.length_nil] at h1
      omega
    · rw [List.length_append] at h2
      simp only [List.length_cons, List.length_nil] at h2 ⊢
      omega
/-- No part has a piece that parts. -/
theorem splitP_no (c : Int) : ∀ (t cur : List (List UInt8 × Nat)), (∀ q ∈ cur, (q.2 : Int) ≠ c) → ∀ P ∈ splitP c cur t, ∀ q ∈ P, (q.2 : Int) ≠ c
  | [], cur, h, P, hP, q, hq => by
    simp only [splitP, List.mem_singleton] at hP
    subst hP
    exact h q hq
  | p :: t, cur, h, P, hP, q, hq => by
    unfold splitP at hP
    split at hP
    · rcases List.mem_cons.1 hP with rfl | hP
      · exact h q hq
      · exact splitP_no c t [] (fun _ h => by simp at h) P hP q hq
    · rename_i hc
      refine splitP_no c t (cur ++ [p]) (fun x hx => ?_) P hP q hq
      rcases List.mem_append.1 hx with hx | hx
      · exact h x hx
      · rw [List.mem_singleton.1 hx]; exact hc
/-- Each part stands in the text. -/
theorem splitP_mid (c : Int) : ∀ (t cur A : List (List UInt8 × Nat)), ∀ P ∈ splitP c cur t, ∃ X Y, A ++ cur ++ t = X ++ P ++ Y
  | [], cur, A, P, hP => by
    simp only [splitP, List.mem_singleton] at hP
    subst hP
    exact ⟨A, [], rfl⟩
  | p :: t, cur, A, P, hP => by
    unfold splitP at hP
    split at hP
    · rcases List.mem_cons.1 hP with rfl | hP
      · exact ⟨A, p :: t, rfl⟩
      · obtain ⟨X, Y, h⟩ := splitP_mid c t [] (A ++ cur ++ [p]) P hP
        exact ⟨X, Y, by rw [← h]; simp⟩
    · obtain ⟨X, Y, h⟩ := splitP_mid c t (cur ++ [p]) A P hP
      exact ⟨X, Y, by rw [← h]; simp⟩
theorem chunks_mid (l : List UInt8) (A P B : List (List UInt8 × Nat)) (h : chunks l = A ++ P ++ B) : chunks (flat P) = P := by
  have h1 := chunks_post A.length l
  rw [h, List.append_assoc, List.take_left, List.drop_left] at h1
  have h2 := chunks_pre P.length (l.drop (flat A).length)
  rw [h1, List.take_left] at h2
  exact h2
theorem part_chunks (l : List UInt8) (c : Int) (P : List (List UInt8 × Nat)) (hP : P ∈ splitP c [] (chunks l)) : chunks (flat P) = P := by
  obtain ⟨X, Y, h⟩ := splitP_mid c (chunks l) [] [] P hP
  exact chunks_mid l X P Y h
end Go.Proofs.YtiopbhmohiggoaaDoor
