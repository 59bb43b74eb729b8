/- name's Len and Cut: the walks of ranges over a text. -/
import Derived.Test.YtbemkefcaceekaaGreatDoorBase
import Derived.Test.YtbemkefcaceekaaGreatDoorRunes
import Derived.Lib.OthersKept
import Derived.Lib.RuneLoops
import Derived.WalkKit
set_option linter.unusedVariables false
namespace Go.Proofs.YtbemkefcaceekaaGreatDoor
open Go.RowKit Go.Lib Go.Proofs.YtbemkefcaceekaaGreatDoorW.PrintWords
set_option maxHeartbeats 4000000
set_option maxRecDepth 100000

/-- The pieces of a text's bytes from a place on. -/
def rest (s : ByteArray) (pos : Nat) : List (List UInt8 × Nat) := chunks (s.data.toList.drop pos)
def CH (s : ByteArray) : List (List UInt8 × Nat) := chunks s.data.toList
theorem rest_zero (s : ByteArray) : rest s 0 = CH s := rfl
theorem slen (s : ByteArray) : s.data.toList.length = s.size := (Lib.size_eq s).symm
theorem rest_end (s : ByteArray) (pos : Nat) (h : ¬ pos < s.size) : rest s pos = [] := by
  unfold rest
  rw [List.drop_of_length_le (by rw [slen]; omega)]; rfl
theorem rest_step (s : ByteArray) (pos : Nat) (h : pos < s.size) : rest s pos = ((s.data.toList.drop pos).take (Utf8.decode s pos).2, (Utf8.decode s pos).1) :: rest s (pos + (Utf8.decode s pos).2) := by
  unfold rest
  rw [chunks_step _ (by
    intro h0
    have := congrArg List.length h0
    rw [List.length_drop, slen, List.length_nil] at this
    omega), decodeL_drop, List.drop_drop]
theorem width (s : ByteArray) (pos : Nat) (h : pos < s.size) : 1 ≤ (Utf8.decode s pos).2 := by rw [← decodeL_drop]; exact decodeL_width _
theorem width_le (s : ByteArray) (pos : Nat) (h : pos < s.size) : pos + (Utf8.decode s pos).2 ≤ s.size := by
  rw [← decodeL_drop]
  have := decodeL_le (s.data.toList.drop pos) (by
    intro h0
    have := congrArg List.length h0
    rw [List.length_drop, slen, List.length_nil] at this
    omega)
  rw [List.length_drop, slen] at this
  omega
theorem rune_le (s : ByteArray) (pos : Nat) : (Utf8.decode s pos).1 ≤ 1114111 := by rw [← decodeL_drop]; exact decodeL_rune _
/-- The iterator of a range over s stands at pos in block k. -/
def IterAt (w : World) (k : Nat) (s : ByteArray) (pos : Nat) : Prop := w.heap[k]? = some (.stringIter s pos)
theorem CH_length (s : ByteArray) : (CH s).length ≤ s.size := by
  have := chunks_length s.data.toList
  rw [slen] at this
  exact this

theorem extract_list (s : ByteArray) (i j : Nat) : (s.extract i j).data.toList = (s.data.toList.drop i).take (j - i) := by
  rw [ByteArray.data_extract, Array.toList_extract]
theorem taken (s : ByteArray) (m pos : Nat) (hp : (flat ((CH s).take m)).length = pos) : s.data.toList.take pos = flat ((CH s).take m) := by
  have h1 : s.data.toList = flat (CH s) := (chunks_flat _).symm
  have h2 : flat (CH s) = flat ((CH s).take m) ++ flat ((CH s).drop m) := by rw [← flat_append, List.take_append_drop]
  rw [h1, h2, ← hp, List.take_left]

/-- What Cut tells. -/
def cutL (s : ByteArray) (n : Int) : List UInt8 := flat ((CH s).take n.toNat)
end Go.Proofs.YtbemkefcaceekaaGreatDoor
