/- PackRefPut: the walks of rostrumref1.Num, Bytes. -/
import Derived.Test.YtlffbappgfimeaaDoorPackPut
set_option linter.unusedVariables false
set_option maxRecDepth 100000
namespace Go.Proofs.YtlffbappgfimeaaDoor
open Go.RowKit Go.Proofs.YtlffbappgfimeaaDoorW.PrintWords PackPure

theorem zz_ref_pos (v : Int) (h : 0 ≤ v) (h1 : v ≤ 9223372036854775807) : IntKind.u64.wrap (IntKind.u64.wrap v * 2) = ((zz v : Nat) : Int) := by
  rw [IntKind.wrap_u64, IntKind.wrap_u64, zz, if_pos h]
  omega
theorem zz_ref_neg (v : Int) (h : v < 0) (h0 : -9223372036854775808 ≤ v) : bits .xor .u64 IntKind.u64.max (IntKind.u64.wrap (IntKind.u64.wrap v * 2)) = ((zz v : Nat) : Int) := by
  obtain ⟨n, hn⟩ := Int.eq_ofNat_of_zero_le (show 0 ≤ 18446744073709551616 + 2 * v from by omega)
  rw [IntKind.wrap_u64, IntKind.wrap_u64, show (v % 18446744073709551616 * 2) % 18446744073709551616 = ((n : Nat) : Int) from by omega, show IntKind.u64.max = ((18446744073709551615 : Nat) : Int) from rfl, bits_xor_u64_nat _ _ (by omega) (by omega), Nat.xor_comm, xor_ones _ (by omega), zz, if_neg (by omega)]
  omega

set_option maxHeartbeats 400000 in
theorem refnum_any (A : Option Addr) (n c : Nat) (l : List UInt8) (v : Int) (w : World) (hB0 : Bs w A l) (hn : n = l.length) (hm : n ≤ 140737488355000) (h0 : -9223372036854775808 ≤ v) (h1 : v ≤ 9223372036854775807) :
    Calls Tryd.prog 38 #[.slice A n c, .int .i64 v] w fun e w' => ∃ x, e = .returned x ∧ Ob w' w.heap.size x (l ++ num v) ∧ Ext w w' := by
  have Hn := Lib.hid hn
  have hll : l.length ≤ 140737488355000 := by rw [← hn]; exact hm
  clear hn
  have hzl := zz_lt v h0 h1
  have hle := num_le v h0 h1
  rw [num] at hle ⊢
  have hz2 : ∀ (q : Int) (u : Nat), q = v → zz v = u → 0 ≤ v → Value.int .u64 (q * 2) = Value.int .u64 (u : Int) := fun q u hq hu hv => by
    rw [← hu, hq, zz, if_pos hv]
    congr 1
    omega
  have Hz2 := Lib.hid hz2
  clear hz2
  go_enter Tryd.func38, Tryd.ntmps38
  by_cases hs : v < 0
  all_goals
    try have hz := zz_ref_neg v hs h0
    try have hz := zz_ref_pos v (by omega) h1
    go_wp2_with ((with_reducible refine gate_dst (N := 16) rfl ?_); refine halt ?_)
    refine unhalt (wp_append rfl _ _ rfl (.slice (some ⟨w.heap.size, 0, none⟩) 0 0) [] rfl A l n c rfl Hn.out w.heap.size (Ob.alloc_at _ _ [] (Nat.le_refl _) (by decide) _ rfl _ rfl _ rfl) (hB0.ext ((Ext.refl _).alloc _)) ((Ext.refl _).alloc _).size (by simp; omega) ?_)
    intro v1 w1 ho1 hg1 _
    have hb1 : Ext w w1 := ((Ext.refl w).alloc _).grown (Ob.alloc_at (l := []) _ w.heap.size (Nat.le_refl _) (by decide) _ rfl _ rfl _ rfl) (Nat.le_refl _) hg1
    rw [List.nil_append] at ho1
    clear hg1
    go_wp2
    clear hz
    obtain ⟨u, HU⟩ : ∃ u, Hid (zz v = u) := ⟨_, Lib.hid rfl⟩
    rw [HU.out] at hzl hle
    go_loopw [5, 6] (fun y x_ wr => ∃ (done : List UInt8) (k : Nat), y = .int .u64 k ∧ k < 18446744073709551616 ∧ Ob wr w.heap.size x_ (l ++ done) ∧ done ++ enc k = enc u ∧ Ext w wr) (fun y _ _ => (intOf y).toNat)
    case atStart => exact ⟨[], u, by first | exact congrArg (fun n : Nat => Value.int .u64 (n : Int)) HU.out | exact Hz2.out _ _ rfl HU.out hs, hzl, by rw [List.append_nil]; exact ho1, rfl, hb1⟩
    case round =>
      obtain ⟨done, k, rfl, hk, ho, hd, hx⟩ := hrel
      have hlen : done.length + 1 ≤ 10 := by
        have h1 := congrArg List.length hd
        have h2 := enc_pos k
        rw [List.length_append] at h1
        omega
      have Hd := Lib.hid hd
      have Ho := Lib.hid ho
      clear hd ho ho1
      by_cases hlt : k < 128
      · go_wp2_with ((with_reducible refine gate_dst (N := 32) rfl ?_); refine halt ?_)
        refine unhalt (wp_append rfl _ _ rfl _ (l ++ done) rfl (some ⟨wr.heap.size, 0, none⟩) [UInt8.ofNat k] 1 1 rfl rfl w.heap.size (Ho.out.ext ((Ext.refl _).alloc _)) (Bs.alloc_at wr _ (by simp) _ (by simp [B]; omega) _ _ _ rfl) (hx.alloc _).size (by simp; omega) ?_)
        intro v1 w2 ho1 hg1 _
        have hb2 : Ext w w2 := (hx.alloc _).grown (Ho.out.ext ((Ext.refl _).alloc _)) (Nat.le_refl _) hg1
        clear hg1
        rw [List.append_assoc, ← enc_small k hlt, Hd.out] at ho1
        go_wp2
        go_ret
        exact ⟨_, rfl, by rw [HU.out]; exact ho1, hb2⟩
      · go_wp2_with ((with_reducible refine gate_dst (N := 25) rfl ?_); refine halt ?_)
        refine unhalt (wp_append rfl _ _ rfl _ (l ++ done) rfl (some ⟨wr.heap.size, 0, none⟩) [UInt8.ofNat (k % 128 + 128)] 1 1 rfl rfl w.heap.size (Ho.out.ext ((Ext.refl _).alloc _)) (Bs.alloc_at wr _ (by simp) _ (by simp [B]; omega) _ _ _ rfl) (hx.alloc _).size (by simp; omega) ?_)
        intro v1 w2 ho1 hg1 _
        have hb2 : Ext w w2 := (hx.alloc _).grown (Ho.out.ext ((Ext.refl _).alloc _)) (Nat.le_refl _) hg1
        clear hg1
        have hd2 : (done ++ [UInt8.ofNat (k % 128 + 128)]) ++ enc (k / 128) = enc u := by
          rw [List.append_assoc, List.singleton_append, ← enc_big k hlt, Hd.out]
        rw [List.append_assoc] at ho1
        go_wp2
        go_roundw
        case rel => exact ⟨_, k / 128, by go_num, by omega, ho1, hd2, hb2⟩
        case measure => simp [intOf]; omega

set_option maxHeartbeats 400000 in
theorem refputb_any (A A2 : Option Addr) (n c n2 c2 : Nat) (l l2 : List UInt8) (w : World) (h : Bs w A l) (h2 : Bs w A2 l2) (hn : n = l.length) (hn2 : n2 = l2.length) (hm : n + n2 ≤ 140737488355000) :
    Calls Tryd.prog 40 #[.slice A n c, .slice A2 n2 c2] w fun e w' => ∃ x, e = .returned x ∧ Ob w' w.heap.size x (l ++ putB l2) ∧ Ext w w' := by
  have Hn := Lib.hid hn
  have Hn2 := Lib.hid hn2
  clear hn hn2
  go_enter Tryd.func40, Tryd.ntmps40
  go_wp2_with fail
  refine (refnum_any A n c l (n2 : Int) w h Hn.out (by omega) (by omega) (by omega)).mono ?_
  rintro e w1 ⟨v1, rfl, ho1, hb1⟩
  have hle := num_le (n2 : Int) (by omega) (by omega)
  rw [Hn2.out] at ho1 hle
  have hll : l.length + l2.length ≤ 140737488355000 := by rw [← Hn.out, ← Hn2.out]; exact hm
  go_wp2_with ((with_reducible refine gate_dst (N := 10) rfl ?_); refine halt ?_)
  refine unhalt (wp_append rfl _ _ rfl _ (l ++ num (l2.length : Int)) rfl A2 l2 n2 c2 rfl Hn2.out w.heap.size ho1 (h2.ext hb1) hb1.size (by simp; omega) ?_)
  intro v2 w2 ho2 hg2 _
  have hb2 : Ext w w2 := hb1.grown ho1 (Nat.le_refl _) hg2
  rw [List.append_assoc] at ho2
  clear hg2
  go_wp2
  go_ret
  exact ⟨_, rfl, ho2, hb2⟩

end Go.Proofs.YtlffbappgfimeaaDoor
