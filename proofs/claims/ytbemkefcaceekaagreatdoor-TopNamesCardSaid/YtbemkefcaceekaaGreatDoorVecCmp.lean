/- VecCmp: the walks of vec.Rep, Le, Good, Cmp, Has. -/
import Derived.Test.YtbemkefcaceekaaGreatDoorVecOps
set_option linter.unusedVariables false
set_option maxRecDepth 100000
namespace Go.Proofs.YtbemkefcaceekaaGreatDoor
open Go.RowKit Go.Proofs.YtbemkefcaceekaaGreatDoorW.PrintWords

def good7 (a : V7) : Bool := all7 fun i => decide (0 ≤ a i ∧ a i ≤ 1099511627776)
def rep7 (r : Int) : Bool := decide (0 ≤ r) && decide (r < 7)
def has7 (a : V7) (r n : Int) : Bool := rep7 r && decide (1 ≤ n) && decide (n ≤ a r.toNat)
def cmp7 (a b : V7) : Int := if eq7 a b then 0 else if le7 a b then -1 else if le7 b a then 1 else 2

theorem rep_any (r : Int) (w : World) :
    Calls Tryz.prog 144 #[.int .i64 r] w fun e w' => e = .returned (.bool (rep7 r)) ∧ w = w' := by
  go_enter Tryz.func144, Tryz.ntmps144
  by_cases h : 0 ≤ r
  · go_wp2
    go_ret
    exact ⟨by simp [rep7, h], rfl⟩
  · go_wp2
    go_ret
    exact ⟨by rw [rep7, decide_eq_false (by omega)]; rfl, rfl⟩

theorem le_any (a b : V7) (w : World) :
    Calls Tryz.prog 107 #[vf a, vf b] w fun e w' => e = .returned (.bool (le7 a b)) ∧ Ext w w' := by
  obtain ⟨h, Hh⟩ : ∃ h, Hid (w.heap.size = h) := ⟨_, Lib.hid rfl⟩
  obtain ⟨w1, H1, S1, hx1, ha1, -, -⟩ := alloc7 w a 57 h Hh.out
  obtain ⟨w2, H2, S2, hx2, hb2, -, -⟩ := alloc7 w1 b 57 (h + 1) S1.out
  have hX3 := hx1.trans hx2
  have hA3 := ha1.ext hx2
  clear hx1 hx2 ha1
  have hh := Hh.out
  have s1 := S1.out
  have h1 := H1.out
  have h2 := H2.out
  unfold vf
  go_enter Tryz.func107, Tryz.ntmps107
  go_wp2
  clear h1 h2 s1
  go_loopw [6] (fun i wr => ∃ (k : Nat), k ≤ 7 ∧ i = .int .i64 k ∧ Ext w wr ∧ At7 wr h 0 a ∧ At7 wr (h+1) 0 b ∧ ∀ i, i < k → a i ≤ b i) (fun i _ => 7 - (intOf i).toNat)
  case atStart => exact ⟨0, by omega, rfl, hX3, hA3, hb2, fun i hi => by omega⟩
  case round =>
    obtain ⟨k, hk, rfl, hX, hA, hB, hL⟩ := hrel
    by_cases hkl : k < 7
    · have p0 := hA.zero k hkl
      have p1 := hB.zero k hkl
      obtain ⟨x, Hx⟩ : ∃ x, Hid (a k = x) := ⟨_, Lib.hid rfl⟩
      obtain ⟨y, Hy⟩ : ∃ y, Hid (b k = y) := ⟨_, Lib.hid rfl⟩
      rw [Hx.out] at p0
      rw [Hy.out] at p1
      by_cases hxy : y < x
      · go_wp2
        go_region
        go_wp2
        go_ret
        refine ⟨?_, hX.drew⟩
        rw [show le7 a b = false from all7_not k hkl (decide_eq_false (by rw [Hx.out, Hy.out]; omega))]
        rfl
      · go_wp2
        go_region
        go_wp2
        go_roundw
        case rel =>
          refine ⟨k + 1, by omega, by go_num, hX.drew, hA.drew, hB.drew, fun i hi => ?_⟩
          by_cases e : i = k
          · subst e; rw [Hx.out, Hy.out]; omega
          · exact hL i (by omega)
        case measure => simp [intOf]; omega
    · go_wp2
      go_ret
      refine ⟨?_, hX⟩
      rw [show le7 a b = true from all7_of (fun i hi => decide_eq_true (hL i (by omega)))]
      rfl

theorem good_any (a : V7) (w : World) :
    Calls Tryz.prog 98 #[vf a] w fun e w' => e = .returned (.bool (good7 a)) ∧ Ext w w' := by
  obtain ⟨h, Hh⟩ : ∃ h, Hid (w.heap.size = h) := ⟨_, Lib.hid rfl⟩
  obtain ⟨w1, H1, S1, hx1, ha1, -, -⟩ := alloc7 w a 57 h Hh.out
  have hh := Hh.out
  have s1 := S1.out
  have h1 := H1.out
  obtain ⟨a0, a1, a2, a3, a4, a5, a6⟩ := ha1.cells0
  unfold vf
  go_enter Tryz.func98, Tryz.ntmps98
  go_wp2
  clear h1 s1
  go_loopw [6] (fun i wr => ∃ (k : Nat), k ≤ 7 ∧ i = .int .i64 k ∧ w1 = wr ∧ ∀ i, i < k → 0 ≤ a i ∧ a i ≤ 1099511627776) (fun i _ => 7 - (intOf i).toNat)
  case atStart => exact ⟨0, by omega, rfl, rfl, fun i hi => by omega⟩
  case round =>
    obtain ⟨k, hk, rfl, rfl, hL⟩ := hrel
    by_cases hkl : k < 7
    · have hidx := fun W => run_idx7 Tryz.underlying57 a k hkl W
      obtain ⟨x, Hx⟩ : ∃ x, Hid (a k = x) := ⟨_, Lib.hid rfl⟩
      rw [Hx.out] at hidx
      by_cases hx0 : x < 0
      · go_wp2
        go_ret
        refine ⟨?_, hx1⟩
        rw [show good7 a = false from all7_not k hkl (decide_eq_false (by rw [Hx.out]; omega))]
        rfl
      by_cases hx9 : 1099511627776 < x
      · go_wp2
        go_ret
        refine ⟨?_, hx1⟩
        rw [show good7 a = false from all7_not k hkl (decide_eq_false (by rw [Hx.out]; omega))]
        rfl
      go_wp2
      go_roundw
      case rel =>
        refine ⟨k + 1, by omega, by go_num, trivial, fun i hi => ?_⟩
        by_cases e : i = k
        · subst e; rw [Hx.out]; omega
        · exact hL i (by omega)
      case measure => simp [intOf]; omega
    · go_wp2
      go_ret
      refine ⟨?_, hx1⟩
      rw [show good7 a = true from all7_of (fun i hi => decide_eq_true (hL i (by omega)))]
      rfl

end Go.Proofs.YtbemkefcaceekaaGreatDoor
