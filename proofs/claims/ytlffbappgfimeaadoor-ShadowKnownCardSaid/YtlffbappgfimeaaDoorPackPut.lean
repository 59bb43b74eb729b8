/- PackPut: the walks of pack.Bytes, pack.Text. -/
import Derived.Test.YtlffbappgfimeaaDoorPackNum
set_option linter.unusedVariables false
set_option maxRecDepth 100000
namespace Go.Proofs.YtlffbappgfimeaaDoor
open Go.RowKit Go.Proofs.YtlffbappgfimeaaDoorW.PrintWords PackPure

/-- Bytes behind their number. -/
def putB (l : List UInt8) : List UInt8 := num (l.length : Int) ++ l

set_option maxHeartbeats 400000 in
theorem putb_any (A A2 : Option Addr) (n c n2 c2 : Nat) (l l2 : List UInt8) (w : World) (h : Bs w A l) (h2 : Bs w A2 l2) (hn : n = l.length) (hn2 : n2 = l2.length) (hm : n + n2 ≤ 140737488355000) :
    Calls Tryd.prog 48 #[.slice A n c, .slice A2 n2 c2] w fun e w' => ∃ x, e = .returned x ∧ Ob w' w.heap.size x (l ++ putB l2) ∧ Ext w w' := by
  have Hn := Lib.hid hn
  have Hn2 := Lib.hid hn2
  clear hn hn2
  go_enter Tryd.func48, Tryd.ntmps48
  go_wp2_with fail
  refine (num_any A n c l (n2 : Int) w h Hn.out (by omega) (by omega) (by omega)).mono ?_
  rintro e w1 ⟨v1, rfl, ho1, hb1⟩
  have hle := num_le (n2 : Int) (by omega) (by omega)
  rw [Hn2.out] at ho1 hle
  have hll : l.length + l2.length ≤ 140737488355000 := by rw [← Hn.out, ← Hn2.out]; exact hm
  go_wp2_with ((with_reducible refine gate_dst (N := 10) rfl ?_); refine halt ?_)
  refine unhalt (wp_append rfl _ _ rfl _ (l ++ num (l2.length : Int)) rfl A2 l2 n2 c2 rfl Hn2.out w.heap.size ho1 (h2.ext hb1) hb1.size (by simp; omega) ?_)
  intro v2 w2 ho2 hg2 _
  have hb2 : Ext w w2 := hb1.grown ho1 (Nat.le_refl _) hg2
  rw [List.append_assoc] at ho2
  clear hg2
  go_wp2
  go_ret
  exact ⟨_, rfl, ho2, hb2⟩

/-- The bytes of a text. -/
def Chars (s : ByteArray) : List UInt8 := s.data.toList
theorem Chars_length (s : ByteArray) : (Chars s).length = s.size := by rw [Chars, Array.length_toList]; rfl
theorem Str_Chars (s : ByteArray) : Str (Chars s) = s := by simp [Str, Chars]
theorem Chars_Str (l : List UInt8) : Chars (Str l) = l := by simp [Str, Chars]
theorem Bs.text (W : World) (s : ByteArray) (hs : s.size ≤ 9223372036854775807) : Bs (Lib.bytesWorld W 5 s) (some ⟨W.heap.size, 0, none⟩) (Chars s) := by
  have e : bytesOf s = B (Chars s) := rfl
  refine ⟨B_length _, by rw [Chars_length]; exact hs, fun _ => ⟨_, rfl, fun j p hp => ⟨[.int .u8 p], rfl, rfl, fun i u hu => ?_⟩⟩⟩
  cases i with
  | succ i => simp at hu
  | zero =>
    obtain rfl : Value.int .u8 p = u := by simpa using hu
    have hj : j < (Chars s).length := by
      have := (List.getElem?_eq_some_iff.1 hp).1
      rwa [B_length] at this
    obtain ⟨ad, he, hc⟩ := (bytes_reads W 5 s hs).2.2 (by rw [← Chars_length]; omega)
    injection he with he
    subst he
    have h1 := hc j (by rw [← Chars_length]; exact hj)
    rw [e, List.getD_eq_getElem?_getD, hp] at h1
    simpa [Kd.int, Kd.scalar] using h1

set_option maxHeartbeats 400000 in
theorem putt_any (A : Option Addr) (n c : Nat) (l : List UInt8) (s : ByteArray) (w : World) (h : Bs w A l) (hn : n = l.length) (hm : n + s.size ≤ 140737488355000) :
    Calls Tryd.prog 27 #[.slice A n c, .string s] w fun e w' => ∃ x, e = .returned x ∧ Ob w' w.heap.size x (l ++ putB (Chars s)) ∧ Ext w w' := by
  have Hn := Lib.hid hn
  clear hn
  have kb := fun W => print_bytes (P := Tryd.prog) 9 29 5 Tryd.underlying9 Tryd.underlying29 Tryd.underlying5 s W
  go_enter Tryd.func27, Tryd.ntmps27
  go_wp2_with fail
  refine (putb_any A _ n c s.size _ l (Chars s) _ (h.ext ((Ext.refl w).bytes _ _)) (Bs.text w s (by omega)) Hn.out (Chars_length s).symm hm).mono ?_
  rintro e w1 ⟨v1, rfl, ho1, hb1⟩
  have hb : Ext w w1 := ((Ext.refl w).bytes _ _).trans hb1
  have ho : Ob w1 w.heap.size v1 (l ++ putB (Chars s)) := ho1.lower ((Ext.refl w).bytes _ _).size
  clear ho1
  go_wp2
  go_ret
  exact ⟨_, rfl, ho, hb⟩

end Go.Proofs.YtlffbappgfimeaaDoor
