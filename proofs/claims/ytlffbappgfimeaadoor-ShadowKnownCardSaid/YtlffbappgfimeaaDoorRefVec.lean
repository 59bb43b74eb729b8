/- RefVec: the walks of the reference's own functions on clocks. -/
import Derived.Test.YtlffbappgfimeaaDoorVecCmp
import Derived.Test.YtlffbappgfimeaaDoorVecPure
set_option linter.unusedVariables false
set_option linter.unusedSimpArgs false
set_option maxRecDepth 100000
namespace Go.Proofs.YtlffbappgfimeaaDoor
open Go.RowKit Go.Proofs.YtlffbappgfimeaaDoorW.PrintWords

def rmix (a b : V7) (k : Nat) : V7 := fun i => if i < k then max (a i) (b i) else a i

def rmix' (a b : V7) (k : Nat) : V7 := fun i => if i < k then min (a i) (b i) else a i

theorem refle_any (a b : V7) (w : World) :
    Calls Tryd.prog 42 #[vf a, vf b] w fun e w' => e = .returned (.bool (le7 a b)) ∧ Ext w w' := by
  obtain ⟨h, Hh⟩ : ∃ h, Hid (w.heap.size = h) := ⟨_, Lib.hid rfl⟩
  obtain ⟨w1, H1, S1, hx1, ha1, -, -⟩ := alloc7 w a 36 h Hh.out
  obtain ⟨w2, H2, S2, hx2, hb2, -, -⟩ := alloc7 w1 b 36 (h + 1) S1.out
  have hX3 := hx1.trans hx2
  have hA3 := ha1.ext hx2
  clear hx1 hx2 ha1
  have hh := Hh.out
  have s1 := S1.out
  have h1 := H1.out
  have h2 := H2.out
  unfold vf
  go_enter Tryd.func42, Tryd.ntmps42
  go_wp2
  clear h1 h2 s1
  go_loopw [5] (fun i wr => ∃ (k : Nat), k ≤ 7 ∧ i = .int .i64 k ∧ Ext w wr ∧ At7 wr h 0 a ∧ At7 wr (h+1) 0 b ∧ ∀ i, i < k → a i ≤ b i) (fun i _ => 7 - (intOf i).toNat)
  case atStart => exact ⟨0, by omega, rfl, hX3, hA3, hb2, fun i hi => by omega⟩
  case round =>
    obtain ⟨k, hk, rfl, hX, hA, hB, hL⟩ := hrel
    by_cases hkl : k < 7
    · have p0 := hA.zero k hkl
      have p1 := hB.zero k hkl
      obtain ⟨x, Hx⟩ : ∃ x, Hid (a k = x) := ⟨_, Lib.hid rfl⟩
      obtain ⟨y, Hy⟩ : ∃ y, Hid (b k = y) := ⟨_, Lib.hid rfl⟩
      rw [Hx.out] at p0
      rw [Hy.out] at p1
      by_cases hxy : y < x
      · go_wp2
        go_region
        go_wp2
        go_ret
        refine ⟨?_, hX.drew⟩
        rw [show le7 a b = false from all7_not k hkl (decide_eq_false (by rw [Hx.out, Hy.out]; omega))]
        rfl
      · go_wp2
        go_region
        go_wp2
        go_roundw
        case rel =>
          refine ⟨k + 1, by omega, by go_num, hX.drew, hA.drew, hB.drew, fun i hi => ?_⟩
          by_cases e : i = k
          · subst e; rw [Hx.out, Hy.out]; omega
          · exact hL i (by omega)
        case measure => simp [intOf]; omega
    · go_wp2
      go_ret
      refine ⟨?_, hX⟩
      rw [show le7 a b = true from all7_of (fun i hi => decide_eq_true (hL i (by omega)))]
      rfl

theorem refgood_any (a : V7) (w : World) :
    Calls Tryd.prog 36 #[vf a] w fun e w' => e = .returned (.bool (good7 a)) ∧ Ext w w' := by
  obtain ⟨h, Hh⟩ : ∃ h, Hid (w.heap.size = h) := ⟨_, Lib.hid rfl⟩
  obtain ⟨w1, H1, S1, hx1, ha1, -, -⟩ := alloc7 w a 36 h Hh.out
  have hh := Hh.out
  have h1 := H1.out
  unfold vf
  go_enter Tryd.func36, Tryd.ntmps36
  go_wp2
  clear h1
  go_loopw [3] (fun i wr => ∃ (k : Nat), k ≤ 7 ∧ i = .int .i64 k ∧ w1 = wr ∧ ∀ i, i < k → 0 ≤ a i ∧ a i ≤ 1099511627776) (fun i _ => 7 - (intOf i).toNat)
  case atStart => exact ⟨0, by omega, rfl, rfl, fun i hi => by omega⟩
  case round =>
    obtain ⟨k, hk, rfl, rfl, hL⟩ := hrel
    by_cases hkl : k < 7
    · have p0 := ha1.zero k hkl
      obtain ⟨x, Hx⟩ : ∃ x, Hid (a k = x) := ⟨_, Lib.hid rfl⟩
      rw [Hx.out] at p0
      by_cases hx0 : x < 0
      · go_wp2
        go_ret
        refine ⟨?_, hx1⟩
        rw [show good7 a = false from all7_not k hkl (decide_eq_false (by rw [Hx.out]; omega))]
        rfl
      by_cases hx9 : 1099511627776 < x
      · go_wp2
        go_ret
        refine ⟨?_, hx1⟩
        rw [show good7 a = false from all7_not k hkl (decide_eq_false (by rw [Hx.out]; omega))]
        rfl
      go_wp2
      go_roundw
      case rel =>
        refine ⟨k + 1, by omega, by go_num, trivial, fun i hi => ?_⟩
        by_cases e : i = k
        · subst e; rw [Hx.out]; omega
        · exact hL i (by omega)
      case measure => simp [intOf]; omega
    · go_wp2
      go_ret
      refine ⟨?_, hx1⟩
      rw [show good7 a = true from all7_of (fun i hi => decide_eq_true (hL i (by omega)))]
      rfl

end Go.Proofs.YtlffbappgfimeaaDoor
