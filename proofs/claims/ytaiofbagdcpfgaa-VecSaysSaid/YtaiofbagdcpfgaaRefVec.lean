/- RefVec: the walks of the reference's own functions on clocks. -/
import Derived.Test.YtaiofbagdcpfgaaVecCmp
import Derived.Test.YtaiofbagdcpfgaaVecPure
set_option linter.unusedVariables false
set_option linter.unusedSimpArgs false
set_option maxRecDepth 100000
namespace Go.Proofs.Ytaiofbagdcpfgaa
open Go.RowKit Go.Proofs.YtaiofbagdcpfgaaW.PrintWords

def rmix (a b : V7) (k : Nat) : V7 := fun i => if i < k then max (a i) (b i) else a i

theorem refmrg_any (a b : V7) (w : World) :
    Calls Try.prog 78 #[vf a, vf b] w fun e w' => e = .returned (vf (mrg a b)) ∧ Ext w w' := by
  obtain ⟨h, Hh⟩ : ∃ h, Hid (w.heap.size = h) := ⟨_, Lib.hid rfl⟩
  obtain ⟨w1, H1, S1, hx1, ha1, fa1, -⟩ := alloc7 w a 66 h Hh.out
  obtain ⟨w2, H2, S2, hx2, hb2, fb2, k2⟩ := alloc7 w1 b 66 (h + 1) S1.out
  obtain ⟨w3, H3, S3, hx3, hc3, fc3, k3⟩ := alloc7 w2 (fun _ => 0) 66 (h + 1 + 1) S2.out
  have fa3 : Fr7 w3 h 0 := k3 _ _ (by omega) (k2 _ _ (by omega) fa1)
  have hX3 := hx1.trans (hx2.trans hx3)
  have hA3 := ha1.ext (hx2.trans hx3)
  have hB3 := hb2.ext hx3
  clear k2 k3 hx1 hx2 hx3 ha1 hb2 fa1 fb2
  have hh := Hh.out
  have s1 := S1.out
  have s2 := S2.out
  have h1 := H1.out
  have h2 := H2.out
  have h3 := H3.out
  unfold vf
  go_enter Try.func78, Try.ntmps78
  go_wp2
  clear h1 h2 h3 s1 s2
  go_loopw [5] (fun i wr => ∃ (k : Nat), k ≤ 7 ∧ i = .int .i64 k ∧ Ext w wr ∧ At7 wr h 0 (rmix a b k) ∧ At7 wr (h+1) 0 b ∧ At7 wr (h+1+1) 0 (fun _ => 0) ∧ Fr7 wr h 0 ∧ Fr7 wr (h+1+1) 0) (fun i _ => 7 - (intOf i).toNat)
  case atStart => exact ⟨0, by omega, rfl, hX3, hA3.congr (fun i hi => by simp [rmix]), hB3, hc3, fa3, fc3⟩
  case round =>
    obtain ⟨k, hk, rfl, hX, hA, hB, hC, hF, hG⟩ := hrel
    by_cases hkl : k < 7
    · have p0 := hA.zero k hkl
      have p1 := hB.zero k hkl
      have p2 := hF.zero k hkl
      have hmk : rmix a b k k = a k := by simp [rmix]
      obtain ⟨x, Hx⟩ : ∃ x, Hid (rmix a b k k = x) := ⟨_, Lib.hid rfl⟩
      obtain ⟨y, Hy⟩ : ∃ y, Hid (b k = y) := ⟨_, Lib.hid rfl⟩
      have hxa : Hid (a k = x) := Lib.hid (by rw [← hmk, Hx.out])
      clear hmk
      have hmix : ∀ v, max x y = v → ∀ i, i < 7 → upd (rmix a b k) k v i = rmix a b (k + 1) i := by
        intro v hv i hi
        simp only [upd, rmix]
        by_cases e : i = k
        · subst e; rw [if_pos rfl, if_pos (by omega), hxa.out, Hy.out, hv]
        · rw [if_neg e]; by_cases e2 : i < k
          · rw [if_pos e2, if_pos (by omega)]
          · rw [if_neg e2, if_neg (by omega)]
      have HM := Lib.hid hmix
      clear hmix
      rw [Hx.out] at p0
      rw [Hy.out] at p1
      by_cases hyx : x < y
      · go_wp2
        go_region
        go_wp2
        go_roundw
        case rel =>
          refine ⟨k + 1, by omega, by go_num, ?_⟩
          have hs : At7 (wr.drew.setCell ⟨h, k, none⟩ (.int .i64 y)) h 0 (rmix a b (k + 1)) := by
            have hs := hA.drew.set hkl y
            rw [Nat.zero_add] at hs
            exact hs.congr (HM.out y (by omega))
          exact ⟨hX.drew.setCell (by rw [Hh.out]; exact Nat.le_refl _) _, hs, hB.drew.other (Or.inl (by simp)), hC.drew.other (Or.inl (by simp; omega)), hF.drew.set _ _, hG.drew.set _ _⟩
        case measure => simp [intOf]; omega
      · go_wp2
        go_region
        go_wp2
        go_roundw
        case rel =>
          refine ⟨k + 1, by omega, by go_num, hX.drew, ?_, hB.drew, hC.drew, hF.drew, hG.drew⟩
          refine hA.drew.congr (fun i hi => ?_)
          have hm := HM.out x (by omega) i hi
          rw [← hm]
          simp only [upd]
          split
          · rename_i e; rw [e, Hx.out]
          · rfl
        case measure => simp [intOf]; omega
    · have hk7 : k = 7 := by omega
      have hM : At7 wr h 0 (mrg a b) := hA.congr (fun i hi => by simp [rmix, mrg, hk7, hi])
      obtain ⟨w5, H5, hP, kx, -, -, -⟩ := put7 wr (h + 1 + 1) _ (mrg a b) hC
      obtain ⟨a0, a1, a2, a3, a4, a5, a6⟩ := hM.cells0
      obtain ⟨c0, c1, c2, c3, c4, c5, c6⟩ := hC.cells0
      obtain ⟨d0, d1, d2, d3, d4, d5, d6⟩ := hP.cells0
      obtain ⟨f0, f1, f2, f3, f4, f5, f6⟩ := hG.cells0
      have h5 := H5.out
      clear hk7 hP
      go_wp2
      refine bodyPost_ret (v := vf (mrg a b)) (by simp [results, Try.results78, go_sem, vf, d0, d1, d2, d3, d4, d5, d6]) rfl ⟨rfl, ?_⟩
      exact kx _ hX (by rw [Hh.out]; omega)

def rmix' (a b : V7) (k : Nat) : V7 := fun i => if i < k then min (a i) (b i) else a i

theorem reflst_any (a b : V7) (w : World) :
    Calls Try.prog 79 #[vf a, vf b] w fun e w' => e = .returned (vf (lst a b)) ∧ Ext w w' := by
  obtain ⟨h, Hh⟩ : ∃ h, Hid (w.heap.size = h) := ⟨_, Lib.hid rfl⟩
  obtain ⟨w1, H1, S1, hx1, ha1, fa1, -⟩ := alloc7 w a 66 h Hh.out
  obtain ⟨w2, H2, S2, hx2, hb2, fb2, k2⟩ := alloc7 w1 b 66 (h + 1) S1.out
  obtain ⟨w3, H3, S3, hx3, hc3, fc3, k3⟩ := alloc7 w2 (fun _ => 0) 66 (h + 1 + 1) S2.out
  have fa3 : Fr7 w3 h 0 := k3 _ _ (by omega) (k2 _ _ (by omega) fa1)
  have hX3 := hx1.trans (hx2.trans hx3)
  have hA3 := ha1.ext (hx2.trans hx3)
  have hB3 := hb2.ext hx3
  clear k2 k3 hx1 hx2 hx3 ha1 hb2 fa1 fb2
  have hh := Hh.out
  have s1 := S1.out
  have s2 := S2.out
  have h1 := H1.out
  have h2 := H2.out
  have h3 := H3.out
  unfold vf
  go_enter Try.func79, Try.ntmps79
  go_wp2
  clear h1 h2 h3 s1 s2
  go_loopw [5] (fun i wr => ∃ (k : Nat), k ≤ 7 ∧ i = .int .i64 k ∧ Ext w wr ∧ At7 wr h 0 (rmix' a b k) ∧ At7 wr (h+1) 0 b ∧ At7 wr (h+1+1) 0 (fun _ => 0) ∧ Fr7 wr h 0 ∧ Fr7 wr (h+1+1) 0) (fun i _ => 7 - (intOf i).toNat)
  case atStart => exact ⟨0, by omega, rfl, hX3, hA3.congr (fun i hi => by simp [rmix']), hB3, hc3, fa3, fc3⟩
  case round =>
    obtain ⟨k, hk, rfl, hX, hA, hB, hC, hF, hG⟩ := hrel
    by_cases hkl : k < 7
    · have p0 := hA.zero k hkl
      have p1 := hB.zero k hkl
      have p2 := hF.zero k hkl
      have hmk : rmix' a b k k = a k := by simp [rmix']
      obtain ⟨x, Hx⟩ : ∃ x, Hid (rmix' a b k k = x) := ⟨_, Lib.hid rfl⟩
      obtain ⟨y, Hy⟩ : ∃ y, Hid (b k = y) := ⟨_, Lib.hid rfl⟩
      have hxa : Hid (a k = x) := Lib.hid (by rw [← hmk, Hx.out])
      clear hmk
      have hmix : ∀ v, min x y = v → ∀ i, i < 7 → upd (rmix' a b k) k v i = rmix' a b (k + 1) i := by
        intro v hv i hi
        simp only [upd, rmix']
        by_cases e : i = k
        · subst e; rw [if_pos rfl, if_pos (by omega), hxa.out, Hy.out, hv]
        · rw [if_neg e]; by_cases e2 : i < k
          · rw [if_pos e2, if_pos (by omega)]
          · rw [if_neg e2, if_neg (by omega)]
      have HM := Lib.hid hmix
      clear hmix
      rw [Hx.out] at p0
      rw [Hy.out] at p1
      by_cases hyx : y < x
      · go_wp2
        go_region
        go_wp2
        go_roundw
        case rel =>
          refine ⟨k + 1, by omega, by go_num, ?_⟩
          have hs : At7 (wr.drew.setCell ⟨h, k, none⟩ (.int .i64 y)) h 0 (rmix' a b (k + 1)) := by
            have hs := hA.drew.set hkl y
            rw [Nat.zero_add] at hs
            exact hs.congr (HM.out y (by omega))
          exact ⟨hX.drew.setCell (by rw [Hh.out]; exact Nat.le_refl _) _, hs, hB.drew.other (Or.inl (by simp)), hC.drew.other (Or.inl (by simp; omega)), hF.drew.set _ _, hG.drew.set _ _⟩
        case measure => simp [intOf]; omega
      · go_wp2
        go_region
        go_wp2
        go_roundw
        case rel =>
          refine ⟨k + 1, by omega, by go_num, hX.drew, ?_, hB.drew, hC.drew, hF.drew, hG.drew⟩
          refine hA.drew.congr (fun i hi => ?_)
          have hm := HM.out x (by omega) i hi
          rw [← hm]
          simp only [upd]
          split
          · rename_i e; rw [e, Hx.out]
          · rfl
        case measure => simp [intOf]; omega
    · have hk7 : k = 7 := by omega
      have hM : At7 wr h 0 (lst a b) := hA.congr (fun i hi => by simp [rmix', lst, hk7, hi])
      obtain ⟨w5, H5, hP, kx, -, -, -⟩ := put7 wr (h + 1 + 1) _ (lst a b) hC
      obtain ⟨a0, a1, a2, a3, a4, a5, a6⟩ := hM.cells0
      obtain ⟨c0, c1, c2, c3, c4, c5, c6⟩ := hC.cells0
      obtain ⟨d0, d1, d2, d3, d4, d5, d6⟩ := hP.cells0
      obtain ⟨f0, f1, f2, f3, f4, f5, f6⟩ := hG.cells0
      have h5 := H5.out
      clear hk7 hP
      go_wp2
      refine bodyPost_ret (v := vf (lst a b)) (by simp [results, Try.results79, go_sem, vf, d0, d1, d2, d3, d4, d5, d6]) rfl ⟨rfl, ?_⟩
      exact kx _ hX (by rw [Hh.out]; omega)


theorem refle_any (a b : V7) (w : World) :
    Calls Try.prog 80 #[vf a, vf b] w fun e w' => e = .returned (.bool (le7 a b)) ∧ Ext w w' := by
  obtain ⟨h, Hh⟩ : ∃ h, Hid (w.heap.size = h) := ⟨_, Lib.hid rfl⟩
  obtain ⟨w1, H1, S1, hx1, ha1, -, -⟩ := alloc7 w a 66 h Hh.out
  obtain ⟨w2, H2, S2, hx2, hb2, -, -⟩ := alloc7 w1 b 66 (h + 1) S1.out
  have hX3 := hx1.trans hx2
  have hA3 := ha1.ext hx2
  clear hx1 hx2 ha1
  have hh := Hh.out
  have s1 := S1.out
  have h1 := H1.out
  have h2 := H2.out
  unfold vf
  go_enter Try.func80, Try.ntmps80
  go_wp2
  clear h1 h2 s1
  go_loopw [5] (fun i wr => ∃ (k : Nat), k ≤ 7 ∧ i = .int .i64 k ∧ Ext w wr ∧ At7 wr h 0 a ∧ At7 wr (h+1) 0 b ∧ ∀ i, i < k → a i ≤ b i) (fun i _ => 7 - (intOf i).toNat)
  case atStart => exact ⟨0, by omega, rfl, hX3, hA3, hb2, fun i hi => by omega⟩
  case round =>
    obtain ⟨k, hk, rfl, hX, hA, hB, hL⟩ := hrel
    by_cases hkl : k < 7
    · have p0 := hA.zero k hkl
      have p1 := hB.zero k hkl
      obtain ⟨x, Hx⟩ : ∃ x, Hid (a k = x) := ⟨_, Lib.hid rfl⟩
      obtain ⟨y, Hy⟩ : ∃ y, Hid (b k = y) := ⟨_, Lib.hid rfl⟩
      rw [Hx.out] at p0
      rw [Hy.out] at p1
      by_cases hxy : y < x
      · go_wp2
        go_region
        go_wp2
        go_ret
        refine ⟨?_, hX.drew⟩
        rw [show le7 a b = false from all7_not k hkl (decide_eq_false (by rw [Hx.out, Hy.out]; omega))]
        rfl
      · go_wp2
        go_region
        go_wp2
        go_roundw
        case rel =>
          refine ⟨k + 1, by omega, by go_num, hX.drew, hA.drew, hB.drew, fun i hi => ?_⟩
          by_cases e : i = k
          · subst e; rw [Hx.out, Hy.out]; omega
          · exact hL i (by omega)
        case measure => simp [intOf]; omega
    · go_wp2
      go_ret
      refine ⟨?_, hX⟩
      rw [show le7 a b = true from all7_of (fun i hi => decide_eq_true (hL i (by omega)))]
      rfl

theorem refgood_any (a : V7) (w : World) :
    Calls Try.prog 76 #[vf a] w fun e w' => e = .returned (.bool (good7 a)) ∧ Ext w w' := by
  obtain ⟨h, Hh⟩ : ∃ h, Hid (w.heap.size = h) := ⟨_, Lib.hid rfl⟩
  obtain ⟨w1, H1, S1, hx1, ha1, -, -⟩ := alloc7 w a 66 h Hh.out
  have hh := Hh.out
  have h1 := H1.out
  unfold vf
  go_enter Try.func76, Try.ntmps76
  go_wp2
  clear h1
  go_loopw [3] (fun i wr => ∃ (k : Nat), k ≤ 7 ∧ i = .int .i64 k ∧ w1 = wr ∧ ∀ i, i < k → 0 ≤ a i ∧ a i ≤ 1099511627776) (fun i _ => 7 - (intOf i).toNat)
  case atStart => exact ⟨0, by omega, rfl, rfl, fun i hi => by omega⟩
  case round =>
    obtain ⟨k, hk, rfl, rfl, hL⟩ := hrel
    by_cases hkl : k < 7
    · have p0 := ha1.zero k hkl
      obtain ⟨x, Hx⟩ : ∃ x, Hid (a k = x) := ⟨_, Lib.hid rfl⟩
      rw [Hx.out] at p0
      by_cases hx0 : x < 0
      · go_wp2
        go_ret
        refine ⟨?_, hx1⟩
        rw [show good7 a = false from all7_not k hkl (decide_eq_false (by rw [Hx.out]; omega))]
        rfl
      by_cases hx9 : 1099511627776 < x
      · go_wp2
        go_ret
        refine ⟨?_, hx1⟩
        rw [show good7 a = false from all7_not k hkl (decide_eq_false (by rw [Hx.out]; omega))]
        rfl
      go_wp2
      go_roundw
      case rel =>
        refine ⟨k + 1, by omega, by go_num, trivial, fun i hi => ?_⟩
        by_cases e : i = k
        · subst e; rw [Hx.out]; omega
        · exact hL i (by omega)
      case measure => simp [intOf]; omega
    · go_wp2
      go_ret
      refine ⟨?_, hx1⟩
      rw [show good7 a = true from all7_of (fun i hi => decide_eq_true (hL i (by omega)))]
      rfl

end Go.Proofs.Ytaiofbagdcpfgaa
