/- CrcRef: the walks of rostrumref1.Crc and of awake. -/
import Derived.Test.YtboihdhmahgggaaCrcOf
set_option linter.unusedVariables false
namespace Go.Proofs.Ytboihdhmahgggaa
open Go.RowKit Go.Proofs.YtboihdhmahgggaaW.PrintWords CrcPure

set_option maxHeartbeats 400000 in
theorem ref_any (A : Option Addr) (c : Nat) (p : List UInt8) (w : World) (h : Bs w A p) :
    Calls Try.prog 14 #[.slice A p.length c] w fun e w' => e = .returned (.int .u32 (crc (toN p))) ∧ w = w' := by
  have hmax := h.max
  go_enter Try.func14, Try.ntmps14
  go_wp2
  go_loop [3, 4] (fun s i => ∃ j : Nat, j ≤ p.length ∧ i = .int .i64 j ∧ s = .int .u32 (run 4294967295 (toN (p.take j)) : Nat)) (fun _ i => p.length - (intOf i).toNat)
  case atStart => exact ⟨0, Nat.zero_le _, rfl, rfl⟩
  case round =>
    obtain ⟨j, hj, rfl, rfl⟩ := hrel
    by_cases hlj : j < p.length
    · obtain ⟨ad0, rfl, hb⟩ := h.at j hlj
      generalize hS1 : run 4294967295 (toN (p.take j)) = S1
      generalize hbb : p.getD j 0 = b at *
      have hbr := B_range b
      have HS1 := Lib.hid hS1
      have Hbb := Lib.hid hbb
      clear hS1 hbb
      have hS1l : S1 < 4294967296 := by rw [← HS1.out]; exact run_lt _ _ (by decide) (toN_lt _)
      have HS1l := Lib.hid hS1l
      clear hS1l
      go_wp2
      go_loop [3, 5] (fun s i => ∃ m : Nat, m ≤ 8 ∧ i = .int .i64 m ∧ s = .int .u32 (it m (S1 ^^^ b.toNat) : Nat)) (fun _ i => 8 - (intOf i).toNat)
      case atStart => exact ⟨0, by omega, rfl, by rw [bits_xor_u32 _ _ HS1l.out (by omega)]; rfl⟩
      case round =>
        obtain ⟨m, hm, rfl, rfl⟩ := hrel
        have hTl : it m (S1 ^^^ b.toNat) < 4294967296 := it_lt m _ (Nat.xor_lt_two_pow HS1l.out (by omega))
        have hnx := it_succ m (S1 ^^^ b.toNat)
        generalize hT : it m (S1 ^^^ b.toNat) = T at *
        have HT := Lib.hid hnx
        have HT0 := Lib.hid hT
        clear hT hnx
        by_cases hlm : m < 8
        · by_cases hod : T % 2 = 1
          · have ht := odd_yes T hTl hod
            have HF := Lib.hid (step_yes T hTl hod)
            clear hod
            go_wp2
            go_round
            case rel => exact ⟨m + 1, by omega, by go_num, by rw [HF.out, HT.out]⟩
            case measure => simp [intOf]; omega
          · have ht := odd_no T hTl hod
            have HF := Lib.hid (step_no T hod)
            clear hod
            go_wp2
            go_round
            case rel => exact ⟨m + 1, by omega, by go_num, by rw [HF.out, HT.out]⟩
            case measure => simp [intOf]; omega
        · have hm8 : m = 8 := by omega
          subst hm8
          clear HT
          go_wp2
          go_round
          case rel => exact ⟨j + 1, by omega, by go_num, by rw [take_snoc_run _ p j hlj, HS1.out, Hbb.out, HT0.out]⟩
          case measure => simp [intOf]; omega
    · have hjl : j = p.length := by omega
      subst hjl
      rw [List.take_length]
      have hlt32 : run 4294967295 (toN p) < 4294967296 := run_lt _ _ (by decide) (toN_lt _)
      have HN := Lib.hid (not_u32 _ hlt32)
      go_wp2
      go_ret
      exact ⟨ret_int HN.out, rfl⟩

def digits : List UInt8 := [49, 50, 51, 52, 53, 54, 55, 56, 57]
theorem crc_digits : crc (toN [digits].flatten) = 3421780262 := by decide +kernel
theorem crc_none : crc (toN [].flatten) = 0 := by decide +kernel
set_option maxHeartbeats 400000 in
theorem awake2_any (w : World) : Calls Try.prog 12 #[] w fun e w' => e = .returned (.bool true) ∧ Ext w w' := by
  have hc := fun (W : World) (C : Array Value) (n c : Nat) => Lib.run_convert_bytes_const (P := Try.prog) W 22 5 C n c Try.underlying22 Try.underlying5
  go_enter Try.func12, Try.ntmps12
  go_wp2_with fail
  refine (of_any _ 1 [digits] _ (Bss.alloc_at _ [(some ⟨w.heap.size, 0, none⟩, 9, digits)] _ rfl (by simp) ?_ _ rfl _ _ (by simp))).mono ?_
  · intro x hx
    obtain rfl := List.mem_singleton.1 hx
    exact ⟨by simp [digits], Bs.alloc _ digits (by decide) _ rfl _ _⟩
  rintro e w' ⟨rfl, rfl⟩
  rw [crc_digits]
  go_wp2_with fail
  refine (of_any _ 0 [] _ ⟨rfl, by decide, fun h => absurd h (by decide)⟩).mono ?_
  rintro e w' ⟨rfl, rfl⟩
  rw [crc_none]
  go_wp2
  go_ret
  exact ⟨rfl, ((Ext.refl _).alloc _).alloc _⟩

/-- The sum of one part, laid in a new row. -/
theorem of_one (A : Option Addr) (c : Nat) (p : List UInt8) (w : World) (h : Bs w A p) (hc : p.length ≤ c) (g : Nat) (hg : g = w.heap.size) :
    Calls Try.prog 13 #[.slice (some ⟨g, 0, none⟩) 1 1] (w.alloc (.cells #[.slice A p.length c] 22)) fun e w' => e = .returned (.int .u32 (crc (toN p))) ∧ w.alloc (.cells #[.slice A p.length c] 22) = w' := by
  have hx := of_any (some ⟨g, 0, none⟩) 1 [p] (w.alloc (.cells #[.slice A p.length c] 22)) (Bss.alloc_at _ [(A, c, p)] _ rfl (by simp) (fun x hx => by
    obtain rfl := List.mem_singleton.1 hx
    exact ⟨hc, h⟩) _ rfl _ _ hg)
  rw [show [p].flatten = p from by simp] at hx
  exact hx

/-- .. its length spelled otherwise. -/
theorem of_one' (A : Option Addr) (n c : Nat) (p : List UInt8) (w : World) (h : Bs w A p) (hn : n = p.length) (hc : n ≤ c) (g : Nat) (hg : g = w.heap.size) :
    Calls Try.prog 13 #[.slice (some ⟨g, 0, none⟩) 1 1] (w.alloc (.cells #[.slice A n c] 22)) fun e w' => e = .returned (.int .u32 (crc (toN p))) ∧ w.alloc (.cells #[.slice A n c] 22) = w' := by
  subst hn; exact of_one A c p w h hc g hg

end Go.Proofs.Ytboihdhmahgggaa
