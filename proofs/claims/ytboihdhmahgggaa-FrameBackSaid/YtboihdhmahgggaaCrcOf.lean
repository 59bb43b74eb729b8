/- CrcOf: the walk of crc.Of. -/
import Derived.Test.YtboihdhmahgggaaBase
import Derived.Test.YtboihdhmahgggaaCrcPure
set_option linter.unusedVariables false
namespace Go.Proofs.Ytboihdhmahgggaa
open Go.RowKit Go.Proofs.YtboihdhmahgggaaW.PrintWords CrcPure

def toN (l : List UInt8) : List Nat := l.map UInt8.toNat

theorem toN_lt (l : List UInt8) : ∀ b ∈ toN l, b < 256 := by
  intro b hb
  simp only [toN, List.mem_map] at hb
  obtain ⟨u, _, rfl⟩ := hb
  exact u.toNat_lt
theorem bits_xor_u32 (a b : Nat) (ha : a < 4294967296) (hb : b < 4294967296) : bits .xor .u32 (a : Int) (b : Int) = ((a ^^^ b : Nat) : Int) := by
  have hx : a ^^^ b < 2 ^ 32 := Nat.xor_lt_two_pow (by omega) (by omega)
  have h1 : (BitVec.ofInt 32 (a : Int)).toNat = a := by
    rw [BitVec.ofInt_natCast, BitVec.toNat_ofNat]; exact Nat.mod_eq_of_lt (by omega)
  have h2 : (BitVec.ofInt 32 (b : Int)).toNat = b := by
    rw [BitVec.ofInt_natCast, BitVec.toNat_ofNat]; exact Nat.mod_eq_of_lt (by omega)
  show IntKind.u32.wrap ((BitVec.ofInt 32 (a : Int) ^^^ BitVec.ofInt 32 (b : Int)).toNat : Int) = _
  rw [BitVec.toNat_xor, h1, h2, IntKind.wrap_u32]
  omega

theorem bits_and1_u32 (a : Nat) (ha : a < 4294967296) : bits .and .u32 (a : Int) 1 = ((a % 2 : Nat) : Int) := by
  have h1 : (BitVec.ofInt 32 (a : Int)).toNat = a := by
    rw [BitVec.ofInt_natCast, BitVec.toNat_ofNat]; exact Nat.mod_eq_of_lt (by omega)
  have h2 : (BitVec.ofInt 32 (1 : Int)).toNat = 1 := rfl
  show IntKind.u32.wrap ((BitVec.ofInt 32 (a : Int) &&& BitVec.ofInt 32 (1 : Int)).toNat : Int) = _
  rw [BitVec.toNat_and, h1, h2, Nat.and_one_is_mod, IntKind.wrap_u32]
  omega
theorem odd_yes (a : Nat) (ha : a < 4294967296) (h : a % 2 = 1) : (bits .and .u32 (a : Int) 1 == 1) = true := by rw [bits_and1_u32 a ha, h]; rfl
theorem odd_no (a : Nat) (ha : a < 4294967296) (h : ¬ a % 2 = 1) : (bits .and .u32 (a : Int) 1 == 1) = false := by rw [bits_and1_u32 a ha, show a % 2 = 0 from by omega]; rfl
theorem step_yes (a : Nat) (ha : a < 4294967296) (h : a % 2 = 1) : bits .xor .u32 ((a : Int) / 2) 3988292384 = ((stp a : Nat) : Int) := by
  rw [show ((a : Int) / 2) = ((a / 2 : Nat) : Int) from by omega, show (3988292384 : Int) = ((3988292384 : Nat) : Int) from rfl, bits_xor_u32 _ _ (by omega) (by decide), stp, if_pos h]
theorem step_no (a : Nat) (h : ¬ a % 2 = 1) : ((a : Int) / 2) = ((stp a : Nat) : Int) := by
  rw [stp, if_neg h, Nat.xor_zero]; omega
theorem it_succ (m : Nat) : ∀ s, it (m + 1) s = stp (it m s) := by
  intro s
  rw [it_add]; rfl
theorem take_snoc_run (S : Nat) (p : List UInt8) (j : Nat) (hj : j < p.length) : run S (toN (p.take (j + 1))) = it 8 (run S (toN (p.take j)) ^^^ (p.getD j 0).toNat) := by
  rw [List.take_succ_eq_append_getElem hj, toN, List.map_append, run_append]
  simp [run, hj, toN]
theorem take_snoc_flat (S : Nat) (l : List (List UInt8)) (k : Nat) (hk : k < l.length) : run S (toN (l.take (k + 1)).flatten) = run (run S (toN (l.take k).flatten)) (toN (l.getD k [])) := by
  rw [List.take_succ_eq_append_getElem hk, List.flatten_append, toN, List.map_append, run_append]
  simp [hk, toN]
theorem not_u32 (n : Nat) (h : n < 4294967296) : bits .xor .u32 IntKind.u32.max (n : Int) = ((n ^^^ 4294967295 : Nat) : Int) := by
  rw [show IntKind.u32.max = ((4294967295 : Nat) : Int) from rfl, bits_xor_u32 _ _ (by decide) h, Nat.xor_comm]
theorem ret_int {k : IntKind} {a b : Int} (h : a = b) : Ending.returned (.int k a) = .returned (.int k b) := by rw [h]

set_option maxHeartbeats 400000 in
theorem of_any (A : Option Addr) (c : Nat) (xss : List (List UInt8)) (w : World) (h : Bss w A xss) :
    Calls Try.prog 13 #[.slice A xss.length c] w fun e w' => e = .returned (.int .u32 (crc (toN xss.flatten))) ∧ w = w' := by
  have hmax := h.max
  go_enter Try.func13, Try.ntmps13
  go_wp2
  go_loop [3, 11] (fun s i => ∃ k : Nat, k ≤ xss.length ∧ i = .int .i64 k ∧ s = .int .u32 (run 4294967295 (toN (xss.take k).flatten) : Nat)) (fun _ i => xss.length - (intOf i).toNat)
  case atStart => exact ⟨0, Nat.zero_le _, rfl, rfl⟩
  case round =>
    obtain ⟨k, hk, rfl, rfl⟩ := hrel
    by_cases hlt : k < xss.length
    · obtain ⟨ad, A0, c0, rfl, hcell0, hl0, hC0⟩ := h.at k hlt
      generalize hS : run 4294967295 (toN (xss.take k).flatten) = S
      have HS := Lib.hid hS
      generalize hp : xss.getD k [] = p at *
      have Hp := Lib.hid hp
      clear hp hS
      have hm0 := hC0.max
      go_wp2
      go_loop [3, 17] (fun s i => ∃ j : Nat, j ≤ p.length ∧ i = .int .i64 j ∧ s = .int .u32 (run S (toN (p.take j)) : Nat)) (fun _ i => p.length - (intOf i).toNat)
      case atStart => exact ⟨0, Nat.zero_le _, rfl, rfl⟩
      case round =>
        obtain ⟨j, hj, rfl, rfl⟩ := hrel
        by_cases hlj : j < p.length
        · obtain ⟨ad0, rfl, hb⟩ := hC0.at j hlj
          generalize hS1 : run S (toN (p.take j)) = S1
          generalize hbb : p.getD j 0 = b at *
          have hbr := B_range b
          have HS1 := Lib.hid hS1
          have Hbb := Lib.hid hbb
          clear hS1 hbb
          have hS1l : S1 < 4294967296 := by rw [← HS1.out, ← HS.out]; exact run_lt _ _ (run_lt _ _ (by decide) (toN_lt _)) (toN_lt _)
          have HS1l := Lib.hid hS1l
          clear hS1l
          go_wp2
          go_loop [3, 25] (fun s i => ∃ m : Nat, m ≤ 8 ∧ i = .int .i64 m ∧ s = .int .u32 (it m (S1 ^^^ b.toNat) : Nat)) (fun _ i => 8 - (intOf i).toNat)
          case atStart => exact ⟨0, by omega, rfl, by rw [bits_xor_u32 _ _ HS1l.out (by omega)]; rfl⟩
          case round =>
            obtain ⟨m, hm, rfl, rfl⟩ := hrel
            have hTl : it m (S1 ^^^ b.toNat) < 4294967296 := it_lt m _ (Nat.xor_lt_two_pow HS1l.out (by omega))
            have hnx := it_succ m (S1 ^^^ b.toNat)
            generalize hT : it m (S1 ^^^ b.toNat) = T at *
            have HT := Lib.hid hnx
            have HT0 := Lib.hid hT
            clear hT hnx
            by_cases hlm : m < 8
            · by_cases hod : T % 2 = 1
              · have ht := odd_yes T hTl hod
                have HF := Lib.hid (step_yes T hTl hod)
                clear hod
                go_wp2
                go_round
                case rel => exact ⟨m + 1, by omega, by go_num, by rw [HF.out, HT.out]⟩
                case measure => simp [intOf]; omega
              · have ht := odd_no T hTl hod
                have HF := Lib.hid (step_no T hod)
                clear hod
                go_wp2
                go_round
                case rel => exact ⟨m + 1, by omega, by go_num, by rw [HF.out, HT.out]⟩
                case measure => simp [intOf]; omega
            · have hm8 : m = 8 := by omega
              subst hm8
              clear HT
              go_wp2
              go_round
              case rel => exact ⟨j + 1, by omega, by go_num, by rw [take_snoc_run S p j hlj, HS1.out, Hbb.out, HT0.out]⟩
              case measure => simp [intOf]; omega
        · have hjl : j = p.length := by omega
          subst hjl
          go_wp2
          go_round
          case rel => exact ⟨k + 1, by omega, by go_num, by rw [take_snoc_flat _ xss k hlt, HS.out, Hp.out, List.take_length]⟩
          case measure => simp [intOf]; omega
    · have hkl : k = xss.length := by omega
      subst hkl
      rw [List.take_length]
      have hlt32 : run 4294967295 (toN xss.flatten) < 4294967296 := run_lt _ _ (by decide) (toN_lt _)
      have HN := Lib.hid (not_u32 _ hlt32)
      go_wp2
      go_ret
      exact ⟨ret_int HN.out, rfl⟩

end Go.Proofs.Ytboihdhmahgggaa
