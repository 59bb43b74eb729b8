/- The reference's bad, Cut, Cmp, GoodName. -/
import Derived.Test.YtlffbappgfimeaaDoorRefName1
import Derived.Test.YtlffbappgfimeaaDoorShName
set_option linter.unusedVariables false
namespace Go.Proofs.YtlffbappgfimeaaDoor
open Go.RowKit Go.Lib Go.Shelf Go.Proofs.YtlffbappgfimeaaDoorW.PrintWords
set_option maxHeartbeats 4000000
set_option maxRecDepth 100000

theorem ofsF_length : ∀ (l : List (List UInt8 × Nat)) (p : Nat), (ofsF p l).length = l.length + 1
  | [], p => rfl
  | c :: t, p => by rw [ofsF, List.length_cons, ofsF_length t, List.length_cons]
theorem ofs_length (s : ByteArray) : (ofs s).length = (CH s).length + 1 := ofsF_length _ _
/-- Where piece i begins. -/
def pos_ (s : ByteArray) (i : Nat) : Nat := (flat ((CH s).take i)).length
theorem ofsF_get : ∀ (l : List (List UInt8 × Nat)) (p i : Nat), i ≤ l.length → (ofsF p l)[i]? = some ((p + (flat (l.take i)).length : Nat) : Int)
  | [], p, 0, _ => by simp [ofsF, flat_nil]
  | [], p, i + 1, h => by simp at h
  | c :: t, p, 0, _ => by simp [ofsF, flat_nil]
  | c :: t, p, i + 1, h => by
    rw [ofsF, List.getElem?_cons_succ, ofsF_get t _ i (by simpa using h), List.take_succ_cons, flat_cons, List.length_append, Nat.add_assoc]
theorem ofs_get (s : ByteArray) (i : Nat) (h : i ≤ (CH s).length) : (ofs s)[i]? = some (pos_ s i : Int) := by
  rw [ofs, ofsF_get _ _ _ h, Nat.zero_add]; rfl
theorem flat_split (s : ByteArray) (i : Nat) : s.data.toList = flat ((CH s).take i) ++ flat ((CH s).drop i) := by
  rw [← flat_append, List.take_append_drop]
  exact (chunks_flat _).symm
theorem pos_le (s : ByteArray) (i : Nat) : pos_ s i ≤ s.size := by
  have := congrArg List.length (flat_split s i)
  rw [List.length_append, slen] at this
  unfold pos_; omega
theorem pos_zero (s : ByteArray) : pos_ s 0 = 0 := rfl
theorem pos_end (s : ByteArray) (i : Nat) (h : (CH s).length ≤ i) : pos_ s i = s.size := by
  have := congrArg List.length (flat_split s i)
  rw [List.drop_of_length_le h, flat_nil, List.append_nil, slen] at this
  exact this.symm
theorem pos_succ (s : ByteArray) (i : Nat) (c : List UInt8 × Nat) (h : (CH s)[i]? = some c) : pos_ s (i + 1) = pos_ s i + c.1.length ∧ (s.data.toList.drop (pos_ s i)).take c.1.length = c.1 ∧ (CH s).drop i = c :: (CH s).drop (i + 1) := by
  have h1 : (CH s).drop i = c :: (CH s).drop (i + 1) := by
    have hi := (List.getElem?_eq_some_iff.1 h).1
    rw [List.drop_eq_getElem_cons hi, (List.getElem?_eq_some_iff.1 h).2]
  refine ⟨?_, ?_, h1⟩
  · unfold pos_
    rw [List.take_add_one, h, flat_append, List.length_append]
    simp [flat_cons, flat_nil]
  · have h2 := flat_split s i
    rw [h1, flat_cons] at h2
    rw [h2]
    unfold pos_
    rw [List.drop_left, List.take_left]
theorem CH_rune (s : ByteArray) (i : Nat) (c : List UInt8 × Nat) (h : (CH s)[i]? = some c) : c.2 ≤ 1114111 := by
  have h1 : c ∈ CH s := List.mem_of_getElem? h
  have h2 : ∀ l : List UInt8, ∀ q ∈ chunks l, q.2 ≤ 1114111 := by
    intro l
    induction l using by_piece with
    | h0 => intro q hq; simp [chunks_nil] at hq
    | h1 l hne ih =>
      intro q hq
      rw [chunks_step l hne] at hq
      rcases List.mem_cons.1 hq with rfl | hq
      · exact decodeL_rune l
      · exact ih q hq
  exact h2 _ _ h1
theorem zr_get (s : ByteArray) (i : Nat) (c : List UInt8 × Nat) (h : (CH s)[i]? = some c) : (zr s)[i]? = some (c.2 : Int) := by
  rw [zr, List.getElem?_map, h]; rfl

theorem nbad_any (s : ByteArray) (g1 n1 c1 g2 n2 c2 i : Nat) (x : Int) (p q : Nat) (w : World) (h1 : w.cell? ⟨g1, i, none⟩ = some (.int .i32 x)) (h2 : w.cell? ⟨g2, i, none⟩ = some (.int .i64 (p : Int))) (h3 : w.cell? ⟨g2, i + 1, none⟩ = some (.int .i64 (q : Int)))
    (hi : i < n1) (hi2 : i + 1 < n2) (hn : n2 ≤ 2097152) (hp : p ≤ 1048576) (hq : q ≤ 1048576) :
    Calls Tryd.prog 53 #[.string s, .slice (some ⟨g1, 0, none⟩) n1 c1, .slice (some ⟨g2, 0, none⟩) n2 c2, .int .i64 (i : Int)] w fun e w' => e = .returned (.bool ((x == 65533) && ((q : Int) - (p : Int) == 1))) ∧ Ext w w' := by
  go_enter Tryd.func53, Tryd.ntmps53
  by_cases hx : x = 65533
  · subst hx
    go_wp2
    go_quiet (fail)
    go_wp2
    go_ret
    exact ⟨rfl, by repeat (first | exact Ext.refl _ | apply Ext.drewN | apply Ext.drew)⟩
  · have hx' : (x == 65533) = false := by simp [hx]
    go_wp2
    go_quiet (fail)
    go_wp2
    go_ret
    exact ⟨by rw [hx']; rfl, by repeat (first | exact Ext.refl _ | apply Ext.drewN | apply Ext.drew)⟩
/-! ### Cut -/
end Go.Proofs.YtlffbappgfimeaaDoor
