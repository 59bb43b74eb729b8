/- VecPure: plain laws of clocks. -/
import Derived.Test.YtlffbappgfimeaaDoorVecCmp
set_option linter.unusedVariables false
namespace Go.Proofs.YtlffbappgfimeaaDoor
theorem max_dec (n A B : Int) : (decide (1 ≤ n) && decide (n ≤ max A B)) = (decide (1 ≤ n) && decide (n ≤ A) || decide (1 ≤ n) && decide (n ≤ B)) := by
  rw [Bool.eq_iff_iff]
  simp only [Bool.and_eq_true, Bool.or_eq_true, decide_eq_true_eq]
  omega
theorem min_dec (n A B : Int) : (decide (1 ≤ n) && decide (n ≤ min A B)) = ((decide (1 ≤ n) && decide (n ≤ A)) && (decide (1 ≤ n) && decide (n ≤ B))) := by
  rw [Bool.eq_iff_iff]
  simp only [Bool.and_eq_true, decide_eq_true_eq]
  omega
theorem has7_mrg (a b : V7) (r n : Int) : has7 (mrg a b) r n = (has7 a r n || has7 b r n) := by
  simp only [has7, mrg]
  cases rep7 r with
  | false => rfl
  | true =>
    simp only [Bool.true_and]
    exact max_dec n _ _
theorem has7_lst (a b : V7) (r n : Int) : has7 (lst a b) r n = (has7 a r n && has7 b r n) := by
  simp only [has7, lst]
  cases rep7 r with
  | false => rfl
  | true =>
    simp only [Bool.true_and]
    exact min_dec n _ _
theorem has7_le {a b : V7} {r n : Int} (h : le7 a b = true) (hx : has7 a r n = true) : has7 b r n = true := by
  simp only [has7, Bool.and_eq_true, decide_eq_true_eq] at hx ⊢
  have hr : 0 ≤ r ∧ r < 7 := by simpa [rep7] using hx.1.1
  have := le7_iff.1 h r.toNat (by omega)
  exact ⟨hx.1, by omega⟩

theorem mrg_comm (a b : V7) : mrg b a = mrg a b := funext fun i => by simp only [mrg]; omega
theorem lst_comm (a b : V7) : lst b a = lst a b := funext fun i => by simp only [lst]; omega
theorem mrg_assoc (a b c : V7) : mrg a (mrg b c) = mrg (mrg a b) c := funext fun i => by simp only [mrg]; omega
theorem lst_assoc (a b c : V7) : lst a (lst b c) = lst (lst a b) c := funext fun i => by simp only [lst]; omega
theorem mrg_lst (a b : V7) : mrg a (lst a b) = a := funext fun i => by simp only [mrg, lst]; omega
theorem lst_mrg (a b : V7) : lst a (mrg a b) = a := funext fun i => by simp only [mrg, lst]; omega
theorem le_mrg (a b : V7) : le7 a (mrg a b) = true := le7_iff.2 fun i _ => by simp only [mrg]; omega
theorem lst_le (a b : V7) : le7 (lst a b) b = true := le7_iff.2 fun i _ => by simp only [lst]; omega
theorem le_iff_mrg (a b : V7) : eq7 (mrg a b) b = le7 a b := by
  rw [Bool.eq_iff_iff, eq7_iff, le7_iff]
  constructor
  · intro h i hi
    have := h i hi
    simp only [mrg] at this
    omega
  · intro h i hi
    have := h i hi
    simp only [mrg]
    omega
theorem eq7_comm (a b : V7) : eq7 b a = eq7 a b := by
  rw [Bool.eq_iff_iff, eq7_iff, eq7_iff]
  exact ⟨fun h i hi => (h i hi).symm, fun h i hi => (h i hi).symm⟩
theorem eq7_of_le {a b : V7} (h : le7 a b = true) (h' : le7 b a = true) : eq7 a b = true :=
  eq7_iff.2 fun i hi => Int.le_antisymm (le7_iff.1 h i hi) (le7_iff.1 h' i hi)
theorem cmp_flip (a b : V7) : (cmp7 a b == 1) = (cmp7 b a == -1) := by
  unfold cmp7
  rw [eq7_comm a b]
  cases e : eq7 a b
  · cases h1 : le7 a b <;> cases h2 : le7 b a <;> simp
    rw [eq7_of_le h1 h2] at e
    cases e
  · simp

end Go.Proofs.YtlffbappgfimeaaDoor
