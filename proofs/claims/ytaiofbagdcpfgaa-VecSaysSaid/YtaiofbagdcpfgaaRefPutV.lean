/- RefPutV: the walks of the reference's PutVec and of its tally's Put. -/
import Derived.Test.YtaiofbagdcpfgaaVecPG
import Derived.Test.YtaiofbagdcpfgaaTallyAp
import Derived.Test.YtaiofbagdcpfgaaPackRefPut
set_option linter.unusedVariables false
set_option linter.unusedSimpArgs false
set_option maxRecDepth 100000
namespace Go.Proofs.Ytaiofbagdcpfgaa
open Go.RowKit Go.Proofs.YtaiofbagdcpfgaaW.PrintWords PackPure

set_option maxHeartbeats 1000000 in
theorem rvput_any (A : Option Addr) (n c : Nat) (l : List UInt8) (v : V7) (w : World) (h : Bs w A l) (hn : n = l.length) (hc : n ≤ c) (hm : n ≤ 140737488354000) (hv6 : In64 v) :
    Calls Try.prog 82 #[.slice A n c, vf v] w fun e w' => ∃ A' c', e = .returned (.slice A' (l ++ putV v 7).length c') ∧ (l ++ putV v 7).length ≤ c' ∧ Bs w' A' (l ++ putV v 7) ∧ Ext w w' := by
  have Hn := Lib.hid hn
  clear hn
  obtain ⟨h0, Hh⟩ : ∃ h, Hid (w.heap.size = h) := ⟨_, Lib.hid rfl⟩
  obtain ⟨w1, H1, S1, hx1, hv1, -, -⟩ := alloc7 w v 66 h0 Hh.out
  have hh := Hh.out
  have h1 := H1.out
  unfold vf
  go_enter Try.func82, Try.ntmps82
  go_wp2
  clear h1 hh
  go_loopw [0, 5] (fun x i wr => ∃ (k : Nat) (A' : Option Addr) (c' m : Nat), k ≤ 7 ∧ i = .int .i64 k ∧ x = .slice A' m c' ∧ Hid (m = (l ++ putV v k).length) ∧ m ≤ c' ∧ m ≤ n + 10 * k ∧ Bs wr A' (l ++ putV v k) ∧ Ext w1 wr) (fun _ i _ => 7 - (intOf i).toNat)
  case atStart => exact ⟨0, A, c, n, by omega, rfl, rfl, Lib.hid (by rw [Hn.out]; simp [putV]), hc, by omega, by simpa [putV] using h.ext hx1, Ext.refl _⟩
  case round =>
    obtain ⟨k, A', c', m, hk, rfl, rfl, Hm, hmc, hmn, hB, hX⟩ := hrel
    by_cases hkl : k < 7
    · have p0 := (hv1.ext hX).zero k hkl
      obtain ⟨x, Hx⟩ : ∃ x, Hid (v k = x) := ⟨_, Lib.hid rfl⟩
      have hvk := hv6 k hkl
      rw [Hx.out] at p0 hvk
      have hle := num_le x hvk.1 hvk.2
      obtain ⟨b, Hb⟩ : ∃ b, Hid (l ++ putV v k = b) := ⟨_, Lib.hid rfl⟩
      rw [Hb.out] at Hm hB
      have e1 : l ++ putV v (k + 1) = b ++ num x := by rw [← Hb.out, ← Hx.out]; simp [putV]
      have E1 := Lib.hid e1
      clear e1
      go_wp2_with fail
      refine (refnum_any A' m c' b x wr hB Hm.out (by omega) hvk.1 hvk.2).mono ?_
      rintro e w2 ⟨y, rfl, ho, hx2⟩
      obtain ⟨A2, c2, rfl, hl2, hB2⟩ := ho.reads
      have hlen : (b ++ num x).length ≤ n + 10 * (k + 1) := by rw [List.length_append, ← Hm.out]; omega
      obtain ⟨m2, Hm2⟩ : ∃ m, Hid ((b ++ num x).length = m) := ⟨_, Lib.hid rfl⟩
      rw [Hm2.out] at hl2 hlen
      have hm2 := Hm2.out
      go_wp2
      clear hm2
      go_roundw
      case rel => exact ⟨k + 1, A2, c2, m2, by omega, by go_num, rfl, Lib.hid (by rw [E1.out, Hm2.out]), hl2, by omega, by rw [E1.out]; exact hB2, hX.trans hx2⟩
      case measure => simp [intOf]; omega
    · have hk7 : k = 7 := by omega
      subst hk7
      go_wp2
      go_ret
      exact ⟨A', c', by first | rfl | (rw [Hm.out]; rfl), by rw [← Hm.out]; exact hmc, hB, hx1.trans hX⟩

set_option maxHeartbeats 2000000 in
theorem rtput_any (g : Nat) (u d : V7) (A : Option Addr) (n c : Nat) (l : List UInt8) (w : World) (hT : TT w g u d) (hu6 : In64 u) (hd6 : In64 d) (h : Bs w A l) (hn : n = l.length) (hc : n ≤ c) (hm : n ≤ 140737488353000) :
    Calls Try.prog 68 #[.pointer (some ⟨g, 0, none⟩), .slice A n c] w fun e w' => ∃ A' c', e = .returned (.slice A' (l ++ putV u 7 ++ putV d 7).length c') ∧ (l ++ putV u 7 ++ putV d 7).length ≤ c' ∧ Bs w' A' (l ++ putV u 7 ++ putV d 7) ∧ Ext w w' := by
  have Hn := Lib.hid hn
  clear hn
  go_enter Try.func68, Try.ntmps68
  go_wp2
  go_loopw [1, 5] (fun x i wr => ∃ (k : Nat) (A' : Option Addr) (c' m : Nat), k ≤ 7 ∧ i = .int .i64 k ∧ x = .slice A' m c' ∧ Hid (m = (l ++ putV u k).length) ∧ m ≤ c' ∧ m ≤ n + 10 * k ∧ Bs wr A' (l ++ putV u k) ∧ Ext w wr) (fun _ i _ => 7 - (intOf i).toNat)
  case atStart => exact ⟨0, A, c, n, by omega, rfl, rfl, Lib.hid (by rw [Hn.out]; simp [putV]), hc, by omega, by simpa [putV] using h, Ext.refl _⟩
  case round =>
    obtain ⟨k, A', c', m, hk, rfl, rfl, Hm, hmc, hmn, hB, hX⟩ := hrel
    by_cases hkl : k < 7
    · have p0 := (hT.ext hX).up.zero k hkl
      obtain ⟨x, Hx⟩ : ∃ x, Hid (u k = x) := ⟨_, Lib.hid rfl⟩
      have hvk := hu6 k hkl
      rw [Hx.out] at p0 hvk
      have hle := num_le x hvk.1 hvk.2
      obtain ⟨b, Hb⟩ : ∃ b, Hid (l ++ putV u k = b) := ⟨_, Lib.hid rfl⟩
      rw [Hb.out] at Hm hB
      have e1 : l ++ putV u (k + 1) = b ++ num x := by rw [← Hb.out, ← Hx.out]; simp [putV]
      have E1 := Lib.hid e1
      clear e1
      go_wp2_with fail
      refine (refnum_any A' m c' b x wr hB Hm.out (by omega) hvk.1 hvk.2).mono ?_
      rintro e w2 ⟨y, rfl, ho, hx2⟩
      obtain ⟨A2, c2, rfl, hl2, hB2⟩ := ho.reads
      have hlen : (b ++ num x).length ≤ n + 10 * (k + 1) := by rw [List.length_append, ← Hm.out]; omega
      obtain ⟨m2, Hm2⟩ : ∃ m, Hid ((b ++ num x).length = m) := ⟨_, Lib.hid rfl⟩
      rw [Hm2.out] at hl2 hlen
      have hm2 := Hm2.out
      go_wp2
      clear hm2
      go_roundw
      case rel => exact ⟨k + 1, A2, c2, m2, by omega, by go_num, rfl, Lib.hid (by rw [E1.out, Hm2.out]), hl2, by omega, by rw [E1.out]; exact hB2, hX.trans hx2⟩
      case measure => simp [intOf]; omega
    · have hk7 : k = 7 := by omega
      obtain ⟨p, Hp⟩ : ∃ b, Hid (l ++ putV u 7 = b) := ⟨_, Lib.hid rfl⟩
      rw [show l ++ putV u k = p from by rw [hk7]; exact Hp.out] at Hm hB
      obtain ⟨m0, Hm0⟩ : ∃ x, Hid (m = x) := ⟨_, Lib.hid rfl⟩
      have hl70 : m0 ≤ n + 70 := by have := Hm0.out; omega
      clear hk7
      go_wp2_with fail
      go_loopw [1, 6] (fun x i wr => ∃ (k : Nat) (A' : Option Addr) (c' m : Nat), k ≤ 7 ∧ i = .int .i64 k ∧ x = .slice A' m c' ∧ Hid (m = (p ++ putV d k).length) ∧ m ≤ c' ∧ m ≤ m0 + 10 * k ∧ Bs wr A' (p ++ putV d k) ∧ Ext w wr) (fun _ i _ => 7 - (intOf i).toNat)
      case atStart => exact ⟨0, A', c', m, by omega, rfl, rfl, Lib.hid (by rw [Hm.out]; simp [putV]), hmc, by have := Hm0.out; omega, by simpa [putV] using hB, hX⟩
      case round =>
        obtain ⟨k, A', c', m, hk, rfl, rfl, Hm, hmc, hmn, hB, hX⟩ := hrel
        by_cases hkl : k < 7
        · have p0 := (hT.ext hX).down.at7 k hkl
          obtain ⟨x, Hx⟩ : ∃ x, Hid (d k = x) := ⟨_, Lib.hid rfl⟩
          have hvk := hd6 k hkl
          rw [Hx.out] at p0 hvk
          have hle := num_le x hvk.1 hvk.2
          obtain ⟨b, Hb⟩ : ∃ b, Hid (p ++ putV d k = b) := ⟨_, Lib.hid rfl⟩
          rw [Hb.out] at Hm hB
          have e1 : p ++ putV d (k + 1) = b ++ num x := by rw [← Hb.out, ← Hx.out]; simp [putV]
          have E1 := Lib.hid e1
          clear e1
          go_wp2_with fail
          refine (refnum_any A' m c' b x wr hB Hm.out (by omega) hvk.1 hvk.2).mono ?_
          rintro e w2 ⟨y, rfl, ho, hx2⟩
          obtain ⟨A2, c2, rfl, hl2, hB2⟩ := ho.reads
          have hlen : (b ++ num x).length ≤ m0 + 10 * (k + 1) := by rw [List.length_append, ← Hm.out]; omega
          obtain ⟨m2, Hm2⟩ : ∃ m, Hid ((b ++ num x).length = m) := ⟨_, Lib.hid rfl⟩
          rw [Hm2.out] at hl2 hlen
          have hm2 := Hm2.out
          go_wp2
          clear hm2
          go_roundw
          case rel => exact ⟨k + 1, A2, c2, m2, by omega, by go_num, rfl, Lib.hid (by rw [E1.out, Hm2.out]), hl2, by omega, by rw [E1.out]; exact hB2, hX.trans hx2⟩
          case measure => simp [intOf]; omega
        · have hk7 : k = 7 := by omega
          subst hk7
          go_wp2
          go_ret
          rw [Hp.out]
          exact ⟨A', c', by first | rfl | (rw [Hm.out]; rfl), by rw [← Hm.out]; exact hmc, hB, hX⟩

end Go.Proofs.Ytaiofbagdcpfgaa
