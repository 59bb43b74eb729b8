/- PackNum: the walks of bytes.Clone and pack.Num. -/
import Derived.Test.YtlffbappgfimeaaDoorBase
import Derived.Test.YtlffbappgfimeaaDoorPackPure
import Derived.WalkSpells
set_option linter.unusedVariables false
set_option maxRecDepth 100000
namespace Go.Proofs.YtlffbappgfimeaaDoor
open Go.RowKit Go.Proofs.YtlffbappgfimeaaDoorW.PrintWords PackPure

theorem ret_i {k : IntKind} {a b : Int} (h : a = b) : Ending.returned (.int k a) = .returned (.int k b) := by rw [h]

set_option maxHeartbeats 400000 in
theorem clone_any (A : Option Addr) (n c : Nat) (l : List UInt8) (w : World) (h : Bs w A l) (hn : n = l.length) (hm : n ≤ 140737488355328) :
    Calls Tryd.prog 44 #[.slice A n c] w fun e w' => ∃ v, e = .returned v ∧ Ob w' w.heap.size v l ∧ Ext w w' := by
  subst hn
  rcases A with _ | ad
  · have h0 : l = [] := by
      rcases l with _ | ⟨b, l⟩
      · rfl
      · obtain ⟨ad, h', _⟩ := h.at 0 (by simp)
        cases h'
    subst h0
    have hnil := @Lib.run_eql_slice_nil Tryd.prog
    go_enter Tryd.func44, Tryd.ntmps44
    go_wp2
    go_ret
    exact ⟨_, rfl, Ob.nil _ _, Ext.refl _⟩
  · have hnil := @Lib.run_eql_slice_nil Tryd.prog
    go_enter Tryd.func44, Tryd.ntmps44
    go_wp2_with ((with_reducible refine gate_dst (N := 7) rfl ?_); refine halt ?_)
    refine unhalt (wp_append rfl _ _ rfl (.slice (some ⟨w.heap.size, 0, none⟩) 0 0) [] rfl (some ad) l l.length c rfl rfl w.heap.size (Ob.alloc_at _ _ [] (Nat.le_refl _) (by decide) _ rfl _ rfl _ rfl) (h.ext ((Ext.refl _).alloc _)) ((Ext.refl _).alloc _).size (by simp; omega) ?_)
    intro v1 w2 ho1 hg1 _
    have hb2 : Ext w w2 := ((Ext.refl w).alloc _).grown (Ob.alloc_at (l := []) _ w.heap.size (Nat.le_refl _) (by decide) _ rfl _ rfl _ rfl) (Nat.le_refl _) hg1
    rw [List.nil_append] at ho1
    go_wp2
    go_ret
    exact ⟨_, rfl, ho1, hb2⟩

theorem xor_ones (x : Nat) (hx : x < 18446744073709551616) : x ^^^ 18446744073709551615 = 18446744073709551615 - x := by
  have h := congrArg BitVec.toNat (BitVec.xor_allOnes (x := BitVec.ofNat 64 x))
  rw [BitVec.toNat_xor, BitVec.toNat_allOnes, BitVec.toNat_not, BitVec.toNat_ofNat, Nat.mod_eq_of_lt (by simpa using hx)] at h
  simpa using h
theorem zz_go (v : Int) (h0 : -9223372036854775808 ≤ v) (h1 : v ≤ 9223372036854775807) :
    bits .xor .u64 (IntKind.u64.wrap (IntKind.u64.wrap v * 2)) (IntKind.u64.wrap (v / 9223372036854775808)) = ((zz v : Nat) : Int) := by
  unfold zz
  rw [IntKind.wrap_u64, IntKind.wrap_u64, IntKind.wrap_u64]
  by_cases h : 0 ≤ v
  · obtain ⟨n, rfl⟩ := Int.eq_ofNat_of_zero_le h
    rw [if_pos h, show (n : Int) / 9223372036854775808 = 0 from by omega, show ((n : Int) % 18446744073709551616 * 2) % 18446744073709551616 = ((2 * n : Nat) : Int) from by omega, show (0 % 18446744073709551616 : Int) = ((0 : Nat) : Int) from rfl, bits_xor_u64_nat _ _ (by omega) (by omega), Nat.xor_zero]
    omega
  · rw [if_neg h]
    obtain ⟨n, hn⟩ := Int.eq_ofNat_of_zero_le (show 0 ≤ 18446744073709551616 + 2 * v from by omega)
    rw [show v / 9223372036854775808 = -1 from by omega, show (v % 18446744073709551616 * 2) % 18446744073709551616 = ((n : Nat) : Int) from by omega, show (-1 % 18446744073709551616 : Int) = ((18446744073709551615 : Nat) : Int) from rfl, bits_xor_u64_nat _ _ (by omega) (by omega), xor_ones _ (by omega)]
    omega

theorem or128_all : ∀ x : Nat, x < 256 → bits .or .u8 (x : Int) 128 = ((x % 128 + 128 : Nat) : Int) := by decide +kernel
theorem or128 (k : Nat) : bits .or .u8 ((k : Int) % 256) 128 = ((UInt8.ofNat (k % 128 + 128)).toNat : Int) := by
  rw [show ((k : Int) % 256) = ((k % 256 : Nat) : Int) from by omega, or128_all (k % 256) (Nat.mod_lt _ (by omega)), UInt8.toNat_ofNat']
  omega

set_option maxHeartbeats 400000 in
theorem num_any (A : Option Addr) (n c : Nat) (l : List UInt8) (v : Int) (w : World) (h : Bs w A l) (hn : n = l.length) (hm : n ≤ 140737488355000) (h0 : -9223372036854775808 ≤ v) (h1 : v ≤ 9223372036854775807) :
    Calls Tryd.prog 25 #[.slice A n c, .int .i64 v] w fun e w' => ∃ x, e = .returned x ∧ Ob w' w.heap.size x (l ++ num v) ∧ Ext w w' := by
  have Hn := Lib.hid hn
  clear hn
  have hz := zz_go v h0 h1
  have hzl := zz_lt v h0 h1
  have hle := num_le v h0 h1
  rw [num] at hle ⊢
  go_enter Tryd.func25, Tryd.ntmps25
  go_wp2_with fail
  refine (clone_any A n c l w h Hn.out (by omega)).mono ?_
  rintro e w1 ⟨v1, rfl, ho1, hb1⟩
  go_wp2
  clear hz
  generalize hu : zz v = u at *
  have HU := Lib.hid hu
  clear hu
  go_loopw [5, 6] (fun x_ y wr => ∃ (done : List UInt8) (k : Nat), y = .int .u64 k ∧ k < 18446744073709551616 ∧ Ob wr w.heap.size x_ (l ++ done) ∧ done ++ enc k = enc u ∧ Ext w wr) (fun _ y _ => (intOf y).toNat)
  case atStart => exact ⟨[], u, rfl, hzl, by rw [List.append_nil]; exact ho1, rfl, hb1⟩
  case round =>
    obtain ⟨done, k, rfl, hk, ho, hd, hx⟩ := hrel
    have hlen : done.length + 1 ≤ 10 := by
      have h1 := congrArg List.length hd
      have h2 := enc_pos k
      rw [List.length_append] at h1
      omega
    have Hd := Lib.hid hd
    have Ho := Lib.hid ho
    clear hd ho ho1
    have hll : l.length ≤ 140737488355000 := by rw [← Hn.out]; exact hm
    by_cases hlt : k < 128
    · go_wp2_with ((with_reducible refine gate_dst (N := 30) rfl ?_); refine halt ?_)
      refine unhalt (wp_append rfl _ _ rfl _ (l ++ done) rfl (some ⟨wr.heap.size, 0, none⟩) [UInt8.ofNat k] 1 1 rfl rfl w.heap.size (Ho.out.ext ((Ext.refl _).alloc _)) (Bs.alloc_at wr _ (by simp) _ (by simp [B]; omega) _ _ _ rfl) (hx.alloc _).size (by simp; omega) ?_)
      intro v1 w2 ho1 hg1 _
      have hb2 : Ext w w2 := (hx.alloc _).grown (Ho.out.ext ((Ext.refl _).alloc _)) (Nat.le_refl _) hg1
      clear hg1
      rw [List.append_assoc, ← enc_small k hlt, Hd.out] at ho1
      go_wp2
      go_ret
      exact ⟨_, rfl, by rw [HU.out]; exact ho1, hb2⟩
    · go_wp2_with ((with_reducible refine gate_dst (N := 25) rfl ?_); refine halt ?_)
      refine unhalt (wp_append rfl _ _ rfl _ (l ++ done) rfl (some ⟨wr.heap.size, 0, none⟩) [UInt8.ofNat (k % 128 + 128)] 1 1 rfl rfl w.heap.size (Ho.out.ext ((Ext.refl _).alloc _)) (Bs.alloc_at wr _ (by simp) _ (by rw [or128]; rfl) _ _ _ rfl) (hx.alloc _).size (by simp; omega) ?_)
      intro v1 w2 ho1 hg1 _
      have hb2 : Ext w w2 := (hx.alloc _).grown (Ho.out.ext ((Ext.refl _).alloc _)) (Nat.le_refl _) hg1
      clear hg1
      have hd2 : (done ++ [UInt8.ofNat (k % 128 + 128)]) ++ enc (k / 128) = enc u := by
        rw [List.append_assoc, List.singleton_append, ← enc_big k hlt, Hd.out]
      rw [List.append_assoc] at ho1
      go_wp2
      go_roundw
      case rel => exact ⟨_, k / 128, by go_num, by omega, ho1, hd2, hb2⟩
      case measure => simp [intOf]; omega

end Go.Proofs.YtlffbappgfimeaaDoor
