/- name's Len and Cut: the walks of ranges over a text. -/
import Derived.Test.YtiopbhmohiggoaaDoorBase
import Derived.Test.YtiopbhmohiggoaaDoorRunes
import Derived.Lib.OthersKept
import Derived.Lib.RuneLoops
import Derived.WalkKit
set_option linter.unusedVariables false
namespace Go.Proofs.YtiopbhmohiggoaaDoor
open Go.RowKit Go.Lib Go.Proofs.YtiopbhmohiggoaaDoorW.PrintWords
set_option maxHeartbeats 4000000
set_option maxRecDepth 100000

/-- The pieces of a text's bytes from a place on. -/
def rest (s : ByteArray) (pos : Nat) : List (List UInt8 × Nat) := chunks (s.data.toList.drop pos)
def CH (s : ByteArray) : List (List UInt8 × Nat) := chunks s.data.toList
theorem rest_zero (s : ByteArray) : rest s 0 = CH s := rfl
theorem slen (s : ByteArray) : s.data.toList.length = s.size := (Lib.size_eq s).symm
theorem rest_end (s : ByteArray) (pos : Nat) (h : ¬ pos < s.size) : rest s pos = [] := by
  unfold rest
  rw [List.drop_of_length_le (by rw [slen]; omega)]; rfl
theorem rest_step (s : ByteArray) (pos : Nat) (h : pos < s.size) : rest s pos = ((s.data.toList.drop pos).take (Utf8.decode s pos).2, (Utf8.decode s pos).1) :: rest s (pos + (Utf8.decode s pos).2) := by
  unfold rest
  rw [chunks_step _ (by
    intro h0
    have := congrArg List.length h0
    rw [List.length_drop, slen, List.length_nil] at this
    omega), decodeL_drop, List.drop_drop]
theorem width (s : ByteArray) (pos : Nat) (h : pos < s.size) : 1 ≤ (Utf8.decode s pos).2 := by rw [← decodeL_drop]; exact decodeL_width _
theorem width_le (s : ByteArray) (pos : Nat) (h : pos < s.size) : pos + (Utf8.decode s pos).2 ≤ s.size := by
  rw [← decodeL_drop]
  have := decodeL_le (s.data.toList.drop pos) (by
    intro h0
    have := congrArg List.length h0
    rw [List.length_drop, slen, List.length_nil] at this
    omega)
  rw [List.length_drop, slen] at this
  omega
theorem rune_le (s : ByteArray) (pos : Nat) : (Utf8.decode s pos).1 ≤ 1114111 := by rw [← decodeL_drop]; exact decodeL_rune _
/-- The iterator of a range over s stands at pos in block k. -/
def At (w : World) (k : Nat) (s : ByteArray) (pos : Nat) : Prop := w.heap[k]? = some (.stringIter s pos)
theorem CH_length (s : ByteArray) : (CH s).length ≤ s.size := by
  have := chunks_length s.data.toList
  rw [slen] at this
  exact this

theorem len_any (s : ByteArray) (w : World) (hs : s.size ≤ 140737488351232) :
    Calls Tryd.prog 11 #[.string s] w fun e w' => e = .returned (.int .i64 (CH s).length) ∧ Ext w w' := by
  go_enter Tryd.func11, Tryd.ntmps11
  go_wp2
  go_loopw [3] (fun n wr => ∃ (pos k : Nat), n = Value.int .i64 k ∧ wr.heap[w.heap.size]? = some (.stringIter s pos) ∧ Below w.heap.size w wr ∧ k + (rest s pos).length = (CH s).length ∧ k ≤ pos ∧ pos ≤ s.size) (fun _ wr => s.size - wr.iterPos w.heap.size)
  case atStart =>
    refine ⟨0, 0, rfl, ?_, (Below.refl _ w).alloc (Nat.le_refl _) _, by rw [rest_zero, Nat.zero_add], Nat.le_refl _, Nat.zero_le _⟩
    have := World.iter_heap w s 0
    simpa using this
  case round =>
    obtain ⟨pos, k, rfl, hit, hbw, hacc, hk, hps⟩ := hrel
    by_cases hp : pos < s.size
    · have hnx : ∀ ty, (Instr.next (.pointer (some ⟨w.heap.size, 0, none⟩)) true ty).run Tryd.prog wr = _ := fun ty => Lib.run_next_any_at wr w.heap.size s pos ty hit hp
      have hwd := width s pos hp
      have hwl := width_le s pos hp
      have hit2 := Lib.iterAt_heap wr w.heap.size s pos (pos + (Utf8.decode s pos).2) hit
      have hbw2 := Lib.below_iterAt hbw (k := w.heap.size) (Nat.le_refl _) s (pos + (Utf8.decode s pos).2)
      rw [rest_step s pos hp, List.length_cons] at hacc
      go_wp2
      go_roundw
      case rel =>
        exact ⟨pos + (Utf8.decode s pos).2, k + 1, by simp, hit2, hbw2, by omega, by omega, hwl⟩
      case measure =>
        simp only [World.iterPos, hit2, hit]
        omega
    · have hnx : ∀ ty, (Instr.next (.pointer (some ⟨w.heap.size, 0, none⟩)) true ty).run Tryd.prog wr = _ := fun ty => Lib.run_next_end_at wr w.heap.size s pos ty hit hp
      rw [rest_end s pos hp, List.length_nil] at hacc
      go_wp2
      go_ret
      exact ⟨by rw [← hacc]; rfl, hbw⟩

/-! ### Cut -/
theorem extract_list (s : ByteArray) (i j : Nat) : (s.extract i j).data.toList = (s.data.toList.drop i).take (j - i) := by
  rw [ByteArray.data_extract, Array.toList_extract]
theorem taken (s : ByteArray) (m pos : Nat) (hp : (flat ((CH s).take m)).length = pos) : s.data.toList.take pos = flat ((CH s).take m) := by
  have h1 : s.data.toList = flat (CH s) := (chunks_flat _).symm
  have h2 : flat (CH s) = flat ((CH s).take m) ++ flat ((CH s).drop m) := by rw [← flat_append, List.take_append_drop]
  rw [h1, h2, ← hp, List.take_left]

/-- What Cut tells. -/
def cutL (s : ByteArray) (n : Int) : List UInt8 := flat ((CH s).take n.toNat)
theorem cut_any (s : ByteArray) (n : Int) (w : World) (hs : s.size ≤ 140737488351232) :
    Calls Tryd.prog 14 #[.string s, .int .i64 n] w fun e w' => (∃ r : ByteArray, e = .returned (.string r) ∧ r.data.toList = cutL s n) ∧ Ext w w' := by
  go_enter Tryd.func14, Tryd.ntmps14
  go_wp2
  go_loopw [5, 6] (fun kv iv wr => ∃ (pos k : Nat), kv = Value.int .i64 k ∧ wr.heap[w.heap.size]? = some (.stringIter s pos) ∧ Below w.heap.size w wr ∧ (CH s).drop k = rest s pos ∧ (flat ((CH s).take k)).length = pos ∧ k ≤ pos ∧ pos ≤ s.size ∧ k ≤ (CH s).length ∧ (k : Int) ≤ max n 0) (fun _ _ wr => s.size - wr.iterPos w.heap.size)
  case atStart =>
    refine ⟨0, 0, rfl, ?_, (Below.refl _ w).alloc (Nat.le_refl _) _, rfl, rfl, Nat.le_refl _, Nat.zero_le _, Nat.zero_le _, by omega⟩
    have := World.iter_heap w s 0
    simpa using this
  case round =>
    obtain ⟨pos, k, rfl, hit, hbw, hacc, hfl, hk, hps, hkl, hkn⟩ := hrel
    by_cases hp : pos < s.size
    · have hnx : ∀ ty, (Instr.next (.pointer (some ⟨w.heap.size, 0, none⟩)) true ty).run Tryd.prog wr = _ := fun ty => Lib.run_next_any_at wr w.heap.size s pos ty hit hp
      have hwd := width s pos hp
      have hwl := width_le s pos hp
      have hit2 := Lib.iterAt_heap wr w.heap.size s pos (pos + (Utf8.decode s pos).2) hit
      have hbw2 := Lib.below_iterAt hbw (k := w.heap.size) (Nat.le_refl _) s (pos + (Utf8.decode s pos).2)
      have hst := rest_step s pos hp
      have hlt : k < (CH s).length := by
        rcases Nat.lt_or_ge k (CH s).length with h' | h'
        · exact h'
        · rw [List.drop_of_length_le h', hst] at hacc; cases hacc
      have hk1 : (CH s).drop (k + 1) = rest s (pos + (Utf8.decode s pos).2) := by
        rw [← List.tail_drop, hacc, hst]; rfl
      have hel : (CH s)[k]? = some ((s.data.toList.drop pos).take (Utf8.decode s pos).2, (Utf8.decode s pos).1) := by
        have := congrArg List.head? hacc
        rw [List.head?_drop, hst] at this
        exact this
      have hf1 : (flat ((CH s).take (k + 1))).length = pos + (Utf8.decode s pos).2 := by
        rw [List.take_add_one, hel, flat_append, List.length_append, hfl]
        simp only [Option.toList_some, flat_cons, flat_nil, List.append_nil, List.length_take, List.length_drop, slen]
        omega
      go_wp2
      · go_ret
        refine ⟨⟨_, rfl, ?_⟩, hbw2⟩
        rw [extract_list]
        rename_i hge
        have : n.toNat = k := by omega
        rw [cutL, this, List.drop_zero, Nat.sub_zero, taken s k pos hfl]
      · go_roundw
        case rel =>
          exact ⟨pos + (Utf8.decode s pos).2, k + 1, by simp, hit2, hbw2, hk1, hf1, by omega, hwl, hlt, by omega⟩
        case measure =>
          simp only [World.iterPos, hit2, hit]
          omega
    · have hnx : ∀ ty, (Instr.next (.pointer (some ⟨w.heap.size, 0, none⟩)) true ty).run Tryd.prog wr = _ := fun ty => Lib.run_next_end_at wr w.heap.size s pos ty hit hp
      rw [rest_end s pos hp] at hacc
      have hkl2 : (CH s).length ≤ k := List.drop_eq_nil_iff.1 hacc
      go_wp2
      · go_ret
        refine ⟨⟨_, rfl, ?_⟩, hbw⟩
        rename_i hn
        have : n.toNat = 0 := by omega
        rw [cutL, this]; rfl
      · go_ret
        refine ⟨⟨_, rfl, ?_⟩, hbw⟩
        rw [cutL, List.take_of_length_le (by omega), CH, chunks_flat]
end Go.Proofs.YtiopbhmohiggoaaDoor
