/- VecOps: the walks of vec's own functions. -/
import Derived.Test.YtaiofbagdcpfgaaVecBase
set_option linter.unusedVariables false
set_option maxRecDepth 100000
namespace Go.Proofs.Ytaiofbagdcpfgaa
open Go.RowKit Go.Proofs.YtaiofbagdcpfgaaW.PrintWords

def mrg (a b : V7) : V7 := fun i => max (a i) (b i)
def lst (a b : V7) : V7 := fun i => min (a i) (b i)

def mix (a b : V7) (k : Nat) : V7 := fun i => if i < k then max (a i) (b i) else a i

theorem mrg_any (a b : V7) (w : World) :
    Calls Try.prog 42 #[vf a, vf b] w fun e w' => e = .returned (vf (mrg a b)) ∧ Ext w w' := by
  obtain ⟨h, Hh⟩ : ∃ h, Hid (w.heap.size = h) := ⟨_, Lib.hid rfl⟩
  obtain ⟨w1, H1, S1, hx1, ha1, fa1, -⟩ := alloc7 w a 51 h Hh.out
  obtain ⟨w2, H2, S2, hx2, hb2, fb2, k2⟩ := alloc7 w1 b 51 (h + 1) S1.out
  obtain ⟨w3, H3, S3, hx3, hc3, fc3, k3⟩ := alloc7 w2 (fun _ => 0) 51 (h + 1 + 1) S2.out
  have fa3 : Fr7 w3 h 0 := k3 _ _ (by omega) (k2 _ _ (by omega) fa1)
  have hX3 := hx1.trans (hx2.trans hx3)
  have hA3 := ha1.ext (hx2.trans hx3)
  have hB3 := hb2.ext hx3
  clear k2 k3 hx1 hx2 hx3 ha1 hb2 fa1 fb2
  have hh := Hh.out
  have s1 := S1.out
  have s2 := S2.out
  have h1 := H1.out
  have h2 := H2.out
  have h3 := H3.out
  unfold vf
  go_enter Try.func42, Try.ntmps42
  go_wp2
  clear h1 h2 h3 s1 s2
  go_loopw [6] (fun i wr => ∃ (k : Nat), k ≤ 7 ∧ i = .int .i64 k ∧ Ext w wr ∧ At7 wr h 0 (mix a b k) ∧ At7 wr (h+1) 0 b ∧ At7 wr (h+1+1) 0 (fun _ => 0) ∧ Fr7 wr h 0 ∧ Fr7 wr (h+1+1) 0) (fun i _ => 7 - (intOf i).toNat)
  case atStart => exact ⟨0, by omega, rfl, hX3, hA3.congr (fun i hi => by simp [mix]), hB3, hc3, fa3, fc3⟩
  case round =>
    obtain ⟨k, hk, rfl, hX, hA, hB, hC, hF, hG⟩ := hrel
    by_cases hkl : k < 7
    · have p0 := hA.zero k hkl
      have p1 := hB.zero k hkl
      have p2 := hF.zero k hkl
      have hmx := max_two
      obtain ⟨x, Hx⟩ : ∃ x, Hid (mix a b k k = x) := ⟨_, Lib.hid rfl⟩
      obtain ⟨y, Hy⟩ : ∃ y, Hid (b k = y) := ⟨_, Lib.hid rfl⟩
      rw [Hx.out] at p0
      rw [Hy.out] at p1
      go_wp2
      go_region
      go_wp2
      go_roundw
      case rel =>
        refine ⟨k + 1, by omega, by go_num, ?_⟩
        rw [← Hx.out, ← Hy.out]
        have hs : At7 (wr.setCell ⟨h, k, none⟩ (.int .i64 (max (mix a b k k) (b k)))) h 0 (mix a b (k + 1)) := by
          have hs := hA.set hkl (max (mix a b k k) (b k))
          rw [Nat.zero_add] at hs
          refine hs.congr (fun i hi => ?_)
          simp only [upd, mix]
          by_cases e : i = k
          · subst e; simp
          · rw [if_neg e]; by_cases e2 : i < k
            · rw [if_pos e2, if_pos (by omega)]
            · rw [if_neg e2, if_neg (by omega)]
        exact ⟨(hX.setCell (by rw [Hh.out]; exact Nat.le_refl _) _).drew, hs.drew, (hB.other (Or.inl (by simp))).drew, (hC.other (Or.inl (by simp; omega))).drew, (hF.set _ _).drew, (hG.set _ _).drew⟩
      case measure => simp [intOf]; omega
    · have hk7 : k = 7 := by omega
      have hM : At7 wr h 0 (mrg a b) := hA.congr (fun i hi => by simp [mix, mrg, hk7, hi])
      obtain ⟨w5, H5, hP, kx, -, -, -⟩ := put7 wr (h + 1 + 1) _ (mrg a b) hC
      obtain ⟨a0, a1, a2, a3, a4, a5, a6⟩ := hM.cells0
      obtain ⟨c0, c1, c2, c3, c4, c5, c6⟩ := hC.cells0
      obtain ⟨d0, d1, d2, d3, d4, d5, d6⟩ := hP.cells0
      obtain ⟨f0, f1, f2, f3, f4, f5, f6⟩ := hG.cells0
      have h5 := H5.out
      clear hk7 hP
      go_wp2
      refine bodyPost_ret (v := vf (mrg a b)) (by simp [results, Try.results42, go_sem, vf, d0, d1, d2, d3, d4, d5, d6]) rfl ⟨rfl, ?_⟩
      exact kx _ hX (by rw [Hh.out]; omega)


def mix' (a b : V7) (k : Nat) : V7 := fun i => if i < k then min (a i) (b i) else a i

theorem lst_any (a b : V7) (w : World) :
    Calls Try.prog 43 #[vf a, vf b] w fun e w' => e = .returned (vf (lst a b)) ∧ Ext w w' := by
  obtain ⟨h, Hh⟩ : ∃ h, Hid (w.heap.size = h) := ⟨_, Lib.hid rfl⟩
  obtain ⟨w1, H1, S1, hx1, ha1, fa1, -⟩ := alloc7 w a 51 h Hh.out
  obtain ⟨w2, H2, S2, hx2, hb2, fb2, k2⟩ := alloc7 w1 b 51 (h + 1) S1.out
  obtain ⟨w3, H3, S3, hx3, hc3, fc3, k3⟩ := alloc7 w2 (fun _ => 0) 51 (h + 1 + 1) S2.out
  have fa3 : Fr7 w3 h 0 := k3 _ _ (by omega) (k2 _ _ (by omega) fa1)
  have hX3 := hx1.trans (hx2.trans hx3)
  have hA3 := ha1.ext (hx2.trans hx3)
  have hB3 := hb2.ext hx3
  clear k2 k3 hx1 hx2 hx3 ha1 hb2 fa1 fb2
  have hh := Hh.out
  have s1 := S1.out
  have s2 := S2.out
  have h1 := H1.out
  have h2 := H2.out
  have h3 := H3.out
  unfold vf
  go_enter Try.func43, Try.ntmps43
  go_wp2
  clear h1 h2 h3 s1 s2
  go_loopw [6] (fun i wr => ∃ (k : Nat), k ≤ 7 ∧ i = .int .i64 k ∧ Ext w wr ∧ At7 wr h 0 (mix' a b k) ∧ At7 wr (h+1) 0 b ∧ At7 wr (h+1+1) 0 (fun _ => 0) ∧ Fr7 wr h 0 ∧ Fr7 wr (h+1+1) 0) (fun i _ => 7 - (intOf i).toNat)
  case atStart => exact ⟨0, by omega, rfl, hX3, hA3.congr (fun i hi => by simp [mix']), hB3, hc3, fa3, fc3⟩
  case round =>
    obtain ⟨k, hk, rfl, hX, hA, hB, hC, hF, hG⟩ := hrel
    by_cases hkl : k < 7
    · have p0 := hA.zero k hkl
      have p1 := hB.zero k hkl
      have p2 := hF.zero k hkl
      have hmx := min_twoi
      obtain ⟨x, Hx⟩ : ∃ x, Hid (mix' a b k k = x) := ⟨_, Lib.hid rfl⟩
      obtain ⟨y, Hy⟩ : ∃ y, Hid (b k = y) := ⟨_, Lib.hid rfl⟩
      rw [Hx.out] at p0
      rw [Hy.out] at p1
      go_wp2
      go_region
      go_wp2
      go_roundw
      case rel =>
        refine ⟨k + 1, by omega, by go_num, ?_⟩
        rw [← Hx.out, ← Hy.out]
        have hs : At7 (wr.setCell ⟨h, k, none⟩ (.int .i64 (min (mix' a b k k) (b k)))) h 0 (mix' a b (k + 1)) := by
          have hs := hA.set hkl (min (mix' a b k k) (b k))
          rw [Nat.zero_add] at hs
          refine hs.congr (fun i hi => ?_)
          simp only [upd, mix']
          by_cases e : i = k
          · subst e; simp
          · rw [if_neg e]; by_cases e2 : i < k
            · rw [if_pos e2, if_pos (by omega)]
            · rw [if_neg e2, if_neg (by omega)]
        exact ⟨(hX.setCell (by rw [Hh.out]; exact Nat.le_refl _) _).drew, hs.drew, (hB.other (Or.inl (by simp))).drew, (hC.other (Or.inl (by simp; omega))).drew, (hF.set _ _).drew, (hG.set _ _).drew⟩
      case measure => simp [intOf]; omega
    · have hk7 : k = 7 := by omega
      have hM : At7 wr h 0 (lst a b) := hA.congr (fun i hi => by simp [mix', lst, hk7, hi])
      obtain ⟨w5, H5, hP, kx, -, -, -⟩ := put7 wr (h + 1 + 1) _ (lst a b) hC
      obtain ⟨a0, a1, a2, a3, a4, a5, a6⟩ := hM.cells0
      obtain ⟨c0, c1, c2, c3, c4, c5, c6⟩ := hC.cells0
      obtain ⟨d0, d1, d2, d3, d4, d5, d6⟩ := hP.cells0
      obtain ⟨f0, f1, f2, f3, f4, f5, f6⟩ := hG.cells0
      have h5 := H5.out
      clear hk7 hP
      go_wp2
      refine bodyPost_ret (v := vf (lst a b)) (by simp [results, Try.results43, go_sem, vf, d0, d1, d2, d3, d4, d5, d6]) rfl ⟨rfl, ?_⟩
      exact kx _ hX (by rw [Hh.out]; omega)


end Go.Proofs.Ytaiofbagdcpfgaa
