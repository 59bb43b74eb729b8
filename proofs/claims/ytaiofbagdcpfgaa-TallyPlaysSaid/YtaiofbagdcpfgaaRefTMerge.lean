/- RefTMerge: the walk of the reference's Merge on tallies. -/
import Derived.Test.YtaiofbagdcpfgaaRefTally
import Derived.Test.YtaiofbagdcpfgaaRefVec
set_option linter.unusedVariables false
set_option linter.unusedSimpArgs false
set_option maxRecDepth 100000
namespace Go.Proofs.Ytaiofbagdcpfgaa
open Go.RowKit Go.Proofs.YtaiofbagdcpfgaaW.PrintWords

theorem rmix_step {a b : V7} {k : Nat} {x y : Int} (hx : a k = x) (hy : b k = y) : rmix a b (k + 1) = upd (rmix a b k) k (max x y) := funext fun i => by
  simp only [upd, rmix]
  by_cases e : i = k
  · subst e; rw [if_pos rfl, if_pos (by omega), hx, hy]
  · rw [if_neg e]; by_cases e2 : i < k
    · rw [if_pos e2, if_pos (by omega)]
    · rw [if_neg e2, if_neg (by omega)]
theorem upd_same {f : V7} {k : Nat} {x : Int} (h : f k = x) : upd f k x = f := funext fun i => by
  simp only [upd]
  split
  · rename_i e; rw [e, h]
  · rfl

theorem TT.drew {w : World} {g : Nat} {u d : V7} (h : TT w g u d) : TT w.drew g u d := ⟨h.up.drew, h.down.drew, h.fu.drew, h.fd.drew⟩
theorem TT.setU {w : World} {g : Nat} {u d : V7} (h : TT w g u d) {k : Nat} (hk : k < 7) (x : Int) : TT (w.setCell ⟨g, k, none⟩ (.int .i64 x)) g (upd u k x) d := by
  have hs := h.up.set hk x
  rw [Nat.zero_add] at hs
  exact ⟨hs, h.down.other (Or.inr (Or.inl (by simpa using hk))), h.fu.set _ _, h.fd.set _ _⟩
theorem TT.setD {w : World} {g : Nat} {u d : V7} (h : TT w g u d) {k : Nat} (hk : k < 7) (x : Int) : TT (w.setCell ⟨g, 7 + k, none⟩ (.int .i64 x)) g u (upd d k x) :=
  ⟨h.up.other (Or.inr (Or.inr (by simp))), h.down.set hk x, h.fu.set _ _, h.fd.set _ _⟩
theorem TT.off {w : World} {g g2 : Nat} {u d : V7} (h : TT w g2 u d) (hne : g2 ≠ g) (o : Nat) (v : Value) : TT (w.setCell ⟨g, o, none⟩ v) g2 u d := h.but ((But.refl g w).setCell o v) hne

set_option maxHeartbeats 2000000 in
theorem rtmerge_any (g g2 : Nat) (u d u2 d2 : V7) (w : World) (h : TT w g u d) (h2 : TT w g2 u2 d2) (hne : g2 ≠ g) :
    Calls Try.prog 65 #[.pointer (some ⟨g, 0, none⟩), .pointer (some ⟨g2, 0, none⟩)] w fun e w' => TT w' g (mrg u u2) (mrg d d2) ∧ But g w w' ∧ ∃ v, e = .returned v := by
  go_enter Try.func65, Try.ntmps65
  go_wp2
  go_loopw [4] (fun i wr => ∃ (k : Nat), k ≤ 7 ∧ i = .int .i64 k ∧ TT wr g (rmix u u2 k) (rmix d d2 k) ∧ TT wr g2 u2 d2 ∧ But g w wr) (fun i _ => 7 - (intOf i).toNat)
  case atStart => exact ⟨0, by omega, rfl, ⟨h.up.congr (fun i _ => by simp [rmix]), h.down.congr (fun i _ => by simp [rmix]), h.fu, h.fd⟩, h2, But.refl _ _⟩
  case round =>
    obtain ⟨k, hk, rfl, hT, hO, hB⟩ := hrel
    by_cases hkl : k < 7
    · have p0 := hT.up.zero k hkl
      have p1 := hT.down.at7 k hkl
      have p2 := hO.up.zero k hkl
      have p3 := hO.down.at7 k hkl
      have f0 := hT.fu.zero k hkl
      have f1 := hT.fd k hkl
      have e0 : rmix u u2 k k = u k := by simp [rmix]
      have e1 : rmix d d2 k k = d k := by simp [rmix]
      rw [e0] at p0
      rw [e1] at p1
      obtain ⟨x, Hx⟩ : ∃ x, Hid (u k = x) := ⟨_, Lib.hid rfl⟩
      obtain ⟨y, Hy⟩ : ∃ x, Hid (u2 k = x) := ⟨_, Lib.hid rfl⟩
      obtain ⟨x', Hx'⟩ : ∃ x, Hid (d k = x) := ⟨_, Lib.hid rfl⟩
      obtain ⟨y', Hy'⟩ : ∃ x, Hid (d2 k = x) := ⟨_, Lib.hid rfl⟩
      rw [Hx.out] at p0 e0
      rw [Hx'.out] at p1 e1
      rw [Hy.out] at p2
      rw [Hy'.out] at p3
      have E0 := Lib.hid e0
      have E1 := Lib.hid e1
      have s0 := Lib.hid (rmix_step Hx.out Hy.out)
      have s1 := Lib.hid (rmix_step Hx'.out Hy'.out)
      clear e0 e1
      by_cases hu : x < y
      · have z0 : rmix u u2 (k + 1) = upd (rmix u u2 k) k y := by rw [s0.out, show max x y = y from by omega]
        have Z0 := Lib.hid z0
        clear z0
        by_cases hd' : x' < y'
        · have z1 : rmix d d2 (k + 1) = upd (rmix d d2 k) k y' := by rw [s1.out, show max x' y' = y' from by omega]
          have Z1 := Lib.hid z1
          clear z1
          go_wp2
          go_region
          go_wp2
          go_region
          go_wp2
          go_region
          go_wp2
          go_region
          go_wp2
          go_roundw
          case rel =>
            refine ⟨k + 1, by omega, by go_num, ?_, ?_, ?_⟩
            · rw [Z0.out, Z1.out]
              repeat (first | exact ((hT.setU hkl y).setD hkl y') | refine TT.drew ?_)
            · repeat (first | exact ((hO.off hne _ _).off hne _ _) | refine TT.drew ?_)
            · repeat (first | exact ((hB.setCell _ _).setCell _ _) | refine But.drew ?_)
          case measure => simp [intOf]; omega
        · have z1 : rmix d d2 (k + 1) = rmix d d2 k := by rw [s1.out, show max x' y' = x' from by omega]; exact upd_same E1.out
          have Z1 := Lib.hid z1
          clear z1
          go_wp2
          go_region
          go_wp2
          go_region
          go_wp2
          go_region
          go_wp2
          go_roundw
          case rel =>
            refine ⟨k + 1, by omega, by go_num, ?_, ?_, ?_⟩
            · rw [Z0.out, Z1.out]
              repeat (first | exact (hT.setU hkl y) | refine TT.drew ?_)
            · repeat (first | exact (hO.off hne _ _) | refine TT.drew ?_)
            · repeat (first | exact (hB.setCell _ _) | refine But.drew ?_)
          case measure => simp [intOf]; omega
      · have z0 : rmix u u2 (k + 1) = rmix u u2 k := by rw [s0.out, show max x y = x from by omega]; exact upd_same E0.out
        have Z0 := Lib.hid z0
        clear z0
        by_cases hd' : x' < y'
        · have z1 : rmix d d2 (k + 1) = upd (rmix d d2 k) k y' := by rw [s1.out, show max x' y' = y' from by omega]
          have Z1 := Lib.hid z1
          clear z1
          go_wp2
          go_region
          go_wp2
          go_region
          go_wp2
          go_region
          go_wp2
          go_roundw
          case rel =>
            refine ⟨k + 1, by omega, by go_num, ?_, ?_, ?_⟩
            · rw [Z0.out, Z1.out]
              repeat (first | exact (hT.setD hkl y') | refine TT.drew ?_)
            · repeat (first | exact (hO.off hne _ _) | refine TT.drew ?_)
            · repeat (first | exact (hB.setCell _ _) | refine But.drew ?_)
          case measure => simp [intOf]; omega
        · have z1 : rmix d d2 (k + 1) = rmix d d2 k := by rw [s1.out, show max x' y' = x' from by omega]; exact upd_same E1.out
          have Z1 := Lib.hid z1
          clear z1
          go_wp2
          go_region
          go_wp2
          go_region
          go_wp2
          go_roundw
          case rel =>
            refine ⟨k + 1, by omega, by go_num, ?_, ?_, ?_⟩
            · rw [Z0.out, Z1.out]
              repeat (first | exact hT | refine TT.drew ?_)
            · repeat (first | exact hO | refine TT.drew ?_)
            · repeat (first | exact hB | refine But.drew ?_)
          case measure => simp [intOf]; omega
    · have hk7 : k = 7 := by omega
      have hf : TT wr g (mrg u u2) (mrg d d2) := ⟨hT.up.congr (fun i hi => by simp [rmix, mrg, hk7, hi]), hT.down.congr (fun i hi => by simp [rmix, mrg, hk7, hi]), hT.fu, hT.fd⟩
      clear hk7
      go_wp2
      first | go_end0 | (simp only [Exit.inBlock, Exit.then]; refine bodyPost_ret (results_none rfl _ _ _) rfl ?_) | refine bodyPost_ret (results_none rfl _ _ _) rfl ?_
      exact ⟨hf, hB, _, rfl⟩

end Go.Proofs.Ytaiofbagdcpfgaa
