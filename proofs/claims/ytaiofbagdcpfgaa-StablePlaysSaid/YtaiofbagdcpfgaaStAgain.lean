/- StAgain: the walk of the law StableAgain. -/
import Derived.Test.YtaiofbagdcpfgaaStable2
import Derived.Test.YtaiofbagdcpfgaaTallyAp
set_option linter.unusedVariables false
set_option linter.unusedSimpArgs false
set_option maxRecDepth 100000
namespace Go.Proofs.Ytaiofbagdcpfgaa
open Go.RowKit Go.Proofs.YtaiofbagdcpfgaaW.PrintWords Go.Proofs.YtaiofbagdcpfgaaW.PrintLast

/-- Clocks that came in. -/
def Vs (w : World) (A : Option Addr) (l : List V7) : Prop := ∀ i f, l[i]? = some f → ∃ a : Addr, A = some a ∧ w.cell? (a.add (i * 7)) = some (.int .i64 (f 0)) ∧
  w.cell? ⟨(a.add (i * 7)).block, (a.add (i * 7)).off + 1, none⟩ = some (.int .i64 (f 1)) ∧ w.cell? ⟨(a.add (i * 7)).block, (a.add (i * 7)).off + 2, none⟩ = some (.int .i64 (f 2)) ∧ w.cell? ⟨(a.add (i * 7)).block, (a.add (i * 7)).off + 3, none⟩ = some (.int .i64 (f 3)) ∧
  w.cell? ⟨(a.add (i * 7)).block, (a.add (i * 7)).off + 4, none⟩ = some (.int .i64 (f 4)) ∧ w.cell? ⟨(a.add (i * 7)).block, (a.add (i * 7)).off + 5, none⟩ = some (.int .i64 (f 5)) ∧ w.cell? ⟨(a.add (i * 7)).block, (a.add (i * 7)).off + 6, none⟩ = some (.int .i64 (f 6))

theorem stof_any (n : Nat) (w : World) (h1 : 1 ≤ n) (h7 : n ≤ 7) :
    Calls Try.prog 59 #[.int .i64 n] w fun e w' => ∃ g s, e = .returned (.pointer (some ⟨g, 0, none⟩)) ∧ MM w' g s n (fun _ _ => 0) ∧ Ext w w' ∧ w.heap.size ≤ g ∧ w.heap.size ≤ s := by
  go_enter Try.func59, Try.ntmps59
  go_wp2_with fail
  refine (mnew_any n w h1 h7).mono ?_
  rintro e w1 ⟨g, s, rfl, hM, hx, hg, hs⟩
  go_wp2
  go_ret
  exact ⟨g, s, rfl, hM, hx, hg, hs⟩

/-- All that was told. -/
def told (n : Nat) (R : Nat → V7) (l : List (Int × V7)) : Nat → V7 := l.foldl (fun R x => tell R n x.1 x.2) R
theorem tell_comm (R : Nat → V7) (n : Nat) (r r' : Int) (v v' : V7) : tell (tell R n r v) n r' v' = tell (tell R n r' v') n r v := by
  unfold tell
  cases h1 : (mhas n r && good7 v) <;> cases h2 : (mhas n r' && good7 v') <;> simp only [if_true, if_false, Bool.false_eq_true]
  funext i
  by_cases e1 : i = r.toNat <;> by_cases e2 : i = r'.toNat
  · subst e1
    rw [← e2]
    simp only [if_true]
    exact funext fun j => by simp only [mrg]; omega
  · subst e1; simp [e2]
  · subst e2; simp [e1]
  · simp [e1, e2]
theorem tell_again (R : Nat → V7) (n : Nat) (r : Int) (v : V7) : tell (tell R n r v) n r v = tell R n r v := by
  unfold tell
  cases h1 : (mhas n r && good7 v) <;> simp only [if_true, if_false, Bool.false_eq_true]
  funext i
  by_cases e1 : i = r.toNat
  · subst e1; simp only [if_true]; exact funext fun j => by simp only [mrg]; omega
  · simp [e1]
theorem told_tell (n : Nat) (R : Nat → V7) (l : List (Int × V7)) (x : Int × V7) : told n (tell R n x.1 x.2) l = tell (told n R l) n x.1 x.2 := by
  induction l generalizing R with
  | nil => rfl
  | cons y l ih =>
    show told n (tell (tell R n x.1 x.2) n y.1 y.2) l = tell (told n (tell R n y.1 y.2) l) n x.1 x.2
    rw [tell_comm, ih]
theorem told_snoc (n : Nat) (R : Nat → V7) (l : List (Int × V7)) (x : Int × V7) : told n R (l ++ [x]) = tell (told n R l) n x.1 x.2 := by simp [told]
theorem told_reverse (n : Nat) (R : Nat → V7) (l : List (Int × V7)) : told n R l.reverse = told n R l := by
  induction l generalizing R with
  | nil => rfl
  | cons y l ih =>
    rw [List.reverse_cons, told_snoc, ih]
    exact (told_tell n R l y).symm

end Go.Proofs.Ytaiofbagdcpfgaa
