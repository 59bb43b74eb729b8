/- CrcNone: the walk. -/
import Derived.Test.YtboihdhmahgggaaCrcRef
set_option linter.unusedVariables false
namespace Go.Proofs.Ytboihdhmahgggaa
open Go.RowKit Go.Proofs.YtboihdhmahgggaaW.PrintWords CrcPure

/-- A number's four bytes. -/
def le4b (v : Nat) : List UInt8 := (le4 v).map UInt8.ofNat
theorem le4b_toN (v : Nat) : toN (le4b v) = le4 v := by
  simp only [toN, le4b, List.map_map]
  conv => rhs; rw [← List.map_id (le4 v)]
  apply List.map_congr_left
  intro x hx
  have hlt : x < 256 := by
    simp only [le4, List.mem_cons, List.not_mem_nil, or_false] at hx
    omega
  simp only [Function.comp_apply, id, UInt8.toNat_ofNat']
  omega
theorem le4b_B (v : Nat) (hv : v < 4294967296) : (B (le4b v)).map (Value.int .u8) = [.int .u8 ((v : Int) % 256), .int .u8 ((v : Int) / 256 % 256), .int .u8 ((v : Int) / 65536 % 256), .int .u8 ((v : Int) / 16777216)] := by
  have : B (le4b v) = (toN (le4b v)).map Int.ofNat := by simp [B, toN]
  rw [this, le4b_toN]
  simp [le4]
  omega

set_option maxHeartbeats 400000 in
theorem none_any (A1 A2 : Option Addr) (c1 c2 : Nat) (a b : List UInt8) (w : World) (ha : Bs w A1 a) (hb : Bs w A2 b) (h1c : a.length ≤ c1) (h2c : b.length ≤ c2) :
    Calls Try.prog 6 #[.slice A1 a.length c1, .slice A2 b.length c2] w fun e w' => e = .returned (.bool true) ∧ Ext w w' := by
  go_enter Try.func6, Try.ntmps6
  go_wp2_with fail
  refine (awake2_any _).mono ?_
  rintro e w1 ⟨rfl, hb1⟩
  by_cases h1 : 300 < a.length
  · go_wp2
    go_ret
    exact ⟨rfl, hb1⟩
  by_cases h2 : 300 < b.length
  · go_wp2
    go_ret
    exact ⟨rfl, hb1⟩
  have hsl : crc (toN a) < 4294967296 := crc_lt _ (toN_lt _)
  have htl : crc (toN b) < 4294967296 := crc_lt _ (toN_lt _)
  go_wp2_with fail
  refine (of_one A1 c1 a w1 (ha.ext hb1) h1c _ rfl).mono ?_
  rintro e w2 ⟨rfl, hw2⟩
  have hb2 : Ext w w2 := by rw [← hw2]; exact hb1.alloc _
  clear hw2
  go_wp2_with fail
  refine (of_one A2 c2 b w2 (hb.ext hb2) h2c _ rfl).mono ?_
  rintro e w3 ⟨rfl, hw3⟩
  have hb3 : Ext w w3 := by rw [← hw3]; exact hb2.alloc _
  clear hw3
  have HA := Lib.hid (rfl : crc (toN a) = crc (toN a))
  generalize hs : crc (toN a) = s at *
  generalize ht : crc (toN b) = t at *
  clear HA
  have Hs := Lib.hid hs
  have Ht := Lib.hid ht
  clear hs ht
  go_wp2_with fail
  have hB4 : Bs (w3.alloc (.cells #[.int .u8 ((s : Int) % 256), .int .u8 ((s : Int) / 256 % 256), .int .u8 ((s : Int) / 65536 % 256), .int .u8 ((s : Int) / 16777216)] 5)) (some ⟨w3.heap.size, 0, none⟩) (le4b s) :=
    Bs.alloc_at _ _ (by simp [le4b, le4]) _ (by rw [le4b_B s hsl]) _ _ _ rfl
  have hb4 : Ext w (w3.alloc (.cells #[.int .u8 ((s : Int) % 256), .int .u8 ((s : Int) / 256 % 256), .int .u8 ((s : Int) / 65536 % 256), .int .u8 ((s : Int) / 16777216)] 5)) := hb3.alloc _
  have hz4 : (w3.alloc (.cells #[.int .u8 ((s : Int) % 256), .int .u8 ((s : Int) / 256 % 256), .int .u8 ((s : Int) / 65536 % 256), .int .u8 ((s : Int) / 16777216)] 5)).heap.size = w3.heap.size + 1 := by simp
  generalize w3.alloc (.cells #[.int .u8 ((s : Int) % 256), .int .u8 ((s : Int) / 256 % 256), .int .u8 ((s : Int) / 65536 % 256), .int .u8 ((s : Int) / 16777216)] 5) = w4 at *
  have hB5 : Bs (w4.alloc (.cells #[.int .u8 ((t : Int) % 256), .int .u8 ((t : Int) / 256 % 256), .int .u8 ((t : Int) / 65536 % 256), .int .u8 ((t : Int) / 16777216)] 5)) (some ⟨w3.heap.size + 1, 0, none⟩) (le4b t) :=
    Bs.alloc_at _ _ (by simp [le4b, le4]) _ (by rw [le4b_B t htl]) _ _ _ hz4.symm
  have hB45 := hB4.ext ((Ext.refl w4).alloc (.cells #[.int .u8 ((t : Int) % 256), .int .u8 ((t : Int) / 256 % 256), .int .u8 ((t : Int) / 65536 % 256), .int .u8 ((t : Int) / 16777216)] 5))
  have hb5 : Ext w (w4.alloc (.cells #[.int .u8 ((t : Int) % 256), .int .u8 ((t : Int) / 256 % 256), .int .u8 ((t : Int) / 65536 % 256), .int .u8 ((t : Int) / 16777216)] 5)) := hb4.alloc _
  have hz5 : (w4.alloc (.cells #[.int .u8 ((t : Int) % 256), .int .u8 ((t : Int) / 256 % 256), .int .u8 ((t : Int) / 65536 % 256), .int .u8 ((t : Int) / 16777216)] 5)).heap.size = w3.heap.size + 1 + 1 := by simp [hz4]
  generalize w4.alloc (.cells #[.int .u8 ((t : Int) % 256), .int .u8 ((t : Int) / 256 % 256), .int .u8 ((t : Int) / 65536 % 256), .int .u8 ((t : Int) / 16777216)] 5) = w5 at *
  clear hb4 hB4 hz4
  have Hz5 := Lib.hid hz5
  have hn : ∀ W, Bs W none [] := fun W => ⟨rfl, by decide, fun h => absurd h (by decide)⟩
  have Hn := Lib.hid hn
  clear hz5 hn
  refine (of_any _ 3 [[], a, []] _ (Bss.alloc_at _ [(none, 0, []), (A1, c1, a), (none, 0, [])] _ rfl (by simp) ?_ _ rfl _ _ Hz5.out.symm)).mono ?_
  · intro x hx
    simp only [List.mem_cons, List.not_mem_nil, or_false] at hx
    rcases hx with rfl | rfl | rfl
    · exact ⟨Nat.le_refl _, Hn.out _⟩
    · exact ⟨h1c, ha.ext hb5⟩
    · exact ⟨Nat.le_refl _, Hn.out _⟩
  rintro e w6 ⟨rfl, hw6⟩
  rw [show [[], a, []].flatten = a from by simp, Hs.out]
  have hb6 : Ext w w6 := by rw [← hw6]; exact hb5.alloc _
  have hB46 : Bs w6 (some ⟨w3.heap.size, 0, none⟩) (le4b s) := by rw [← hw6]; exact hB45.ext ((Ext.refl _).alloc _)
  have hB56 : Bs w6 (some ⟨w3.heap.size + 1, 0, none⟩) (le4b t) := by rw [← hw6]; exact hB5.ext ((Ext.refl _).alloc _)
  clear hw6
  have hself : ∀ (p : List UInt8) (v : Nat), crc (toN p) = v → crc (toN [p, le4b v].flatten) = it 32 4294967295 ^^^ 4294967295 := by
    intro p v hv
    have e : toN [p, le4b v].flatten = toN p ++ le4 v := by simp [toN, ← le4b_toN]
    rw [e, ← hv]
    exact crc_self _ (toN_lt _)
  have Hself := Lib.hid hself
  clear hself
  have hlen4 : ∀ v, (le4b v).length = 4 := fun v => by simp [le4b, le4]
  have Hlen4 := Lib.hid hlen4
  clear hlen4
  go_wp2_with fail
  refine (of_any _ 2 [a, le4b s] _ (Bss.alloc_at _ [(A1, c1, a), (some ⟨w3.heap.size, 0, none⟩, 4, le4b s)] _ rfl (by simp) ?_ _ (by simp [Hlen4.out]) _ _ rfl)).mono ?_
  · intro x hx
    simp only [List.mem_cons, List.not_mem_nil, or_false] at hx
    rcases hx with rfl | rfl
    · exact ⟨h1c, ha.ext hb6⟩
    · exact ⟨by simp [Hlen4.out], hB46⟩
  rintro e w7 ⟨rfl, hw7⟩
  rw [Hself.out a s Hs.out]
  have hb7 : Ext w w7 := by rw [← hw7]; exact hb6.alloc _
  have hB57 : Bs w7 (some ⟨w3.heap.size + 1, 0, none⟩) (le4b t) := by rw [← hw7]; exact hB56.ext ((Ext.refl _).alloc _)
  clear hw7
  go_wp2_with fail
  refine (of_any _ 2 [b, le4b t] _ (Bss.alloc_at _ [(A2, c2, b), (some ⟨w3.heap.size + 1, 0, none⟩, 4, le4b t)] _ rfl (by simp) ?_ _ (by simp [Hlen4.out]) _ _ rfl)).mono ?_
  · intro x hx
    simp only [List.mem_cons, List.not_mem_nil, or_false] at hx
    rcases hx with rfl | rfl
    · exact ⟨h2c, hb.ext hb7⟩
    · exact ⟨by simp [Hlen4.out], hB57⟩
  rintro e w8 ⟨rfl, hw8⟩
  rw [Hself.out b t Ht.out]
  have hb8 : Ext w w8 := by rw [← hw8]; exact hb7.alloc _
  clear hw8
  go_wp2
  go_ret
  exact ⟨rfl, hb8⟩

end Go.Proofs.Ytboihdhmahgggaa
