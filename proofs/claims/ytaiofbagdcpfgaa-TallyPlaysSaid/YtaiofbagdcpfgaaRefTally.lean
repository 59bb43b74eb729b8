/- RefTally: the walks of the reference's Add, Value, Merge on tallies. -/
import Derived.Test.YtaiofbagdcpfgaaTallyAp
set_option linter.unusedVariables false
set_option linter.unusedSimpArgs false
set_option maxRecDepth 100000
namespace Go.Proofs.Ytaiofbagdcpfgaa
open Go.RowKit Go.Proofs.YtaiofbagdcpfgaaW.PrintWords

set_option maxHeartbeats 1000000 in
theorem rtadd_any (g : Nat) (u d : V7) (r b : Int) (w : World) (h : TT w g u d) (hu : Bnd u) (hd : Bnd d) :
    Calls Try.prog 61 #[.pointer (some ⟨g, 0, none⟩), .int .i64 r, .int .i64 b] w fun e w' => e = .returned (.int .i64 (tadd u d r b).1) ∧ TT w' g (tadd u d r b).2.1 (tadd u d r b).2.2 ∧ But g w w' := by
  go_enter Try.func61, Try.ntmps61
  by_cases q0 : 0 ≤ r ∧ r ≤ 6
  case neg =>
    have hq : rep7 r = false := by simp only [rep7, Bool.and_eq_false_iff, decide_eq_false_iff_not]; omega
    have hres : tadd u d r b = (1, u, d) := by simp [tadd, hq]
    by_cases q1 : r < 0
    · go_wp2
      go_ret
      (try rw [hres])
      exact ⟨rfl, h, But.refl _ _⟩
    · have q2 : 6 < r := by omega
      clear q0
      go_wp2
      go_ret
      (try rw [hres])
      exact ⟨rfl, h, But.refl _ _⟩
  case pos =>
    have hq : rep7 r = true := by simp only [rep7, Bool.and_eq_true, decide_eq_true_eq]; omega
    by_cases hb1 : b < -1099511627776
    · have hres : tadd u d r b = (1, u, d) := by simp [tadd, hb1]
      go_wp2
      go_ret
      (try rw [hres])
      exact ⟨rfl, h, But.refl _ _⟩
    by_cases hb2 : 1099511627776 < b
    · have hres : tadd u d r b = (1, u, d) := by simp [tadd, hb2]
      go_wp2
      go_ret
      (try rw [hres])
      exact ⟨rfl, h, But.refl _ _⟩
    obtain ⟨k, rfl⟩ := Int.eq_ofNat_of_zero_le q0.1
    have hk : k < 7 := by omega
    by_cases hneg : b < 0
    · have p0 := h.down.at7 k hk
      have p1 := h.fd k hk
      have hb := hd k hk
      have hs := h.down.set hk (d k + -b)
      obtain ⟨x, Hx⟩ : ∃ x, Hid (d k = x) := ⟨_, Lib.hid rfl⟩
      rw [Hx.out] at p0 hb hs
      have hv : x - b = x + -b := by omega
      by_cases hlim : 1125899906842624 < x - b
      · have hlim2 : 1125899906842624 - x < -b := by omega
        have hres : tadd u d (k : Int) b = (2, u, d) := by simp [tadd, hq, hb1, hb2, hneg, Hx.out, hlim2]
        clear hlim2 hv
        go_wp2
        go_ret
        (try rw [hres])
        exact ⟨rfl, h, But.refl _ _⟩
      · have hlim2 : ¬ (1125899906842624 - x < -b) := by omega
        have hres : tadd u d (k : Int) b = (0, u, upd d k (x + -b)) := by simp [tadd, hq, hb1, hb2, hneg, Hx.out, hlim2]
        rw [← hv] at hs hres
        clear hlim2 hv
        go_wp2
        go_region
        go_wp2
        go_ret
        (try rw [hres])
        exact ⟨rfl, ⟨(h.up.other (Or.inr (Or.inr (by simp)))).drew, hs.drew, (h.fu.set _ _).drew, (h.fd.set _ _).drew⟩, ((But.refl g w).setCell _ _).drew⟩
    · have p0 := h.up.zero k hk
      have p1 := h.fu.zero k hk
      have hb := hu k hk
      have hs := h.up.set hk (u k + b)
      obtain ⟨x, Hx⟩ : ∃ x, Hid (u k = x) := ⟨_, Lib.hid rfl⟩
      rw [Hx.out] at p0 hb hs
      rw [Nat.zero_add] at hs
      have hv : x + b = x + b := by omega
      by_cases hlim : 1125899906842624 < x + b
      · have hlim2 : 1125899906842624 - x < b := by omega
        have hres : tadd u d (k : Int) b = (2, u, d) := by simp [tadd, hq, hb1, hb2, hneg, Hx.out, hlim2]
        clear hlim2 hv
        go_wp2
        go_ret
        (try rw [hres])
        exact ⟨rfl, h, But.refl _ _⟩
      · have hlim2 : ¬ (1125899906842624 - x < b) := by omega
        have hres : tadd u d (k : Int) b = (0, upd u k (x + b), d) := by simp [tadd, hq, hb1, hb2, hneg, Hx.out, hlim2]
        skip
        clear hlim2 hv
        go_wp2
        go_region
        go_wp2
        go_ret
        (try rw [hres])
        exact ⟨rfl, ⟨hs.drew, (h.down.other (Or.inr (Or.inl (by simpa using hk)))).drew, (h.fu.set _ _).drew, (h.fd.set _ _).drew⟩, ((But.refl g w).setCell _ _).drew⟩

theorem rtval_any (g : Nat) (u d : V7) (w : World) (h : TT w g u d) (hu : Bnd u) (hd : Bnd d) :
    Calls Try.prog 62 #[.pointer (some ⟨g, 0, none⟩)] w fun e w' => e = .returned (.int .i64 (tsum u d 7)) ∧ Ext w w' := by
  go_enter Try.func62, Try.ntmps62
  go_wp2
  go_loopw [3, 4] (fun s i wr => ∃ (k : Nat), k ≤ 7 ∧ i = .int .i64 k ∧ s = .int .i64 (tsum u d k) ∧ Ext w wr) (fun _ i _ => 7 - (intOf i).toNat)
  case atStart => exact ⟨0, by omega, rfl, rfl, Ext.refl _⟩
  case round =>
    obtain ⟨k, hk, rfl, rfl, hX⟩ := hrel
    by_cases hkl : k < 7
    · have h' := h.ext hX
      have p0 := h'.up.zero k hkl
      have p1 := h'.down.at7 k hkl
      have b0 := hu k hkl
      have b1 := hd k hkl
      have b2 := tsum_bnd hu hd k hk
      have e3 : tsum u d (k + 1) = tsum u d k + (u k - d k) := rfl
      obtain ⟨x, Hx⟩ : ∃ x, Hid (u k = x) := ⟨_, Lib.hid rfl⟩
      obtain ⟨y, Hy⟩ : ∃ x, Hid (d k = x) := ⟨_, Lib.hid rfl⟩
      obtain ⟨z, Hz⟩ : ∃ x, Hid (tsum u d k = x) := ⟨_, Lib.hid rfl⟩
      rw [Hx.out] at p0 b0
      rw [Hy.out] at p1 b1
      rw [Hz.out] at b2
      rw [Hx.out, Hy.out, Hz.out] at e3
      have E3 := Lib.hid e3
      clear e3
      rw [Hz.out]
      go_wp2
      go_region
      go_wp2
      go_roundw
      case rel => exact ⟨k + 1, by omega, by go_num, by rw [E3.out]; go_num, hX.drew⟩
      case measure => simp [intOf]; omega
    · have hk7 : k = 7 := by omega
      subst hk7
      go_wp2
      go_ret
      exact ⟨rfl, hX⟩

end Go.Proofs.Ytaiofbagdcpfgaa
