/- VecBack: the walk of the law VecBack. -/
import Derived.Test.YtlffbappgfimeaaDoorVecPG
import Derived.Test.YtlffbappgfimeaaDoorVecPure
import Derived.Test.YtlffbappgfimeaaDoorVecPure
import Derived.Test.YtlffbappgfimeaaDoorPackRound
set_option linter.unusedVariables false
set_option linter.unusedSimpArgs false
set_option maxRecDepth 100000
namespace Go.Proofs.YtlffbappgfimeaaDoor
open Go.RowKit Go.Proofs.YtlffbappgfimeaaDoorW.PrintWords PackPure

theorem good7_in {v : V7} (h : good7 v = true) : ∀ i, i < 7 → 0 ≤ v i ∧ v i ≤ 1099511627776 := fun i hi => of_decide_eq_true (all7_at h i hi)
theorem good7_64 {v : V7} (h : good7 v = true) : In64 v := fun i hi => by have := good7_in h i hi; omega
/-- The bytes from the k-th on. -/
def tailV (v : V7) (k : Nat) : Nat → List UInt8
  | 0 => []
  | j + 1 => num (v k) ++ tailV v (k + 1) j
theorem putV_tail (v : V7) : ∀ j k, putV v k ++ tailV v k j = putV v (k + j)
  | 0, k => by simp [tailV]
  | j + 1, k => by
    rw [tailV, ← List.append_assoc, show putV v k ++ num (v k) = putV v (k + 1) from rfl, putV_tail v j (k + 1)]
    congr 1
    omega
theorem getV_put {v : V7} {most : Int} (hv : ∀ i, i < 7 → 0 ≤ v i ∧ v i ≤ most) (hm : most ≤ 9223372036854775807) (rest : List UInt8) (bad : Bool) : ∀ k, k ≤ 7 →
    (getV (putV v 7 ++ rest) bad most k).2 = (tailV v k (7 - k) ++ rest, bad) ∧ ∀ i, i < k → (getV (putV v 7 ++ rest) bad most k).1 i = v i
  | 0, _ => by
    have := putV_tail v 7 0
    simp only [putV, List.nil_append] at this
    exact ⟨by simp only [getV]; rw [show putV v 7 = tailV v 0 7 from by rw [this]; rfl], fun i hi => absurd hi (Nat.not_lt_zero _)⟩
  | k + 1, hk => by
    obtain ⟨h1, h2⟩ := getV_put hv hm rest bad k (by omega)
    have hvk := hv k (by omega)
    have e : tailV v k (7 - k) = num (v k) ++ tailV v (k + 1) (7 - (k + 1)) := by
      rw [show 7 - k = (7 - (k + 1)) + 1 from by omega]
      rfl
    have hr := rdNum_num (v k) (by omega) (by omega) (tailV v (k + 1) (7 - (k + 1)) ++ rest) bad 0 most
    rw [if_neg (by omega)] at hr
    have e2 : (getV (putV v 7 ++ rest) bad most k).2.1 = num (v k) ++ (tailV v (k + 1) (7 - (k + 1)) ++ rest) := by rw [h1, e, List.append_assoc]
    have e3 : (getV (putV v 7 ++ rest) bad most k).2.2 = bad := by rw [h1]
    simp only [getV, e2, e3, hr]
    refine ⟨trivial, fun i hi => ?_⟩
    simp only [upd]
    split
    · rename_i h; rw [h]
    · exact h2 i (by omega)

end Go.Proofs.YtlffbappgfimeaaDoor
