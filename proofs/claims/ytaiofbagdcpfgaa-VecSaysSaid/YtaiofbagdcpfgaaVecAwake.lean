/- VecAwake: the walk of rostrumlaw7's awake. -/
import Derived.Test.YtaiofbagdcpfgaaVecNext
set_option linter.unusedVariables false
set_option linter.unusedSimpArgs false
set_option maxRecDepth 100000
namespace Go.Proofs.Ytaiofbagdcpfgaa
open Go.RowKit Go.Proofs.YtaiofbagdcpfgaaW.PrintWords Go.Proofs.YtaiofbagdcpfgaaW.PrintLast

theorem awake7_any (w : World) :
    Calls Try.prog 41 #[] w fun e w' => e = .returned (.bool true) ∧ Ext w w' := by
  go_enter Try.func41, Try.ntmps41
  go_wp2_with fail
  refine (next_any (fun _ => 0) 2 w).mono ?_
  rw [show next7 (fun _ => 0) 2 = (upd (fun _ => 0) 2 1, (2, 1), 0) from rfl]
  rintro e w1 ⟨rfl, hx1⟩
  obtain ⟨h, Hh⟩ : ∃ h, Hid (w1.heap.size = h) := ⟨_, Lib.hid rfl⟩
  have hh := Hh.out
  have heq := run_eq7_same Try.underlying51
  unfold nextv vf dotv upd
  go_wp2_with fail
  refine (cmp_any (fun i => if i = 0 then 1 else 0) (fun i => if i = 1 then 1 else 0) _).mono ?_
  rw [show cmp7 (fun i => if i = 0 then 1 else 0) (fun i => if i = 1 then 1 else 0) = 2 from by decide +kernel]
  rintro e w2 ⟨rfl, hx2⟩
  go_wp2_with fail
  refine (lst_any (fun i => if i = 0 then 2 else if i = 1 then 1 else 0) (fun i => if i = 0 then 1 else if i = 1 then 3 else 0) _).mono ?_
  rintro e w3 ⟨rfl, hx3⟩
  rw [show vf (lst (fun i => if i = 0 then 2 else if i = 1 then 1 else 0) (fun i => if i = 0 then 1 else if i = 1 then 3 else 0)) = .agg #[.int .i64 1, .int .i64 1, .int .i64 0, .int .i64 0, .int .i64 0, .int .i64 0, .int .i64 0] from rfl]
  go_wp2
  go_ret
  refine ⟨rfl, (hx1.trans (Ext.trans ?_ hx2)).trans hx3⟩
  repeat (first | exact Ext.refl _ | exact (Ext.refl _).drew | refine Ext.drew ?_ | refine Ext.alloc ?_ _ | refine Ext.setCell ?_ (by first | exact Nat.le_of_eq Hh.out | (rw [Hh.out]; exact Nat.le_succ _)) _)
end Go.Proofs.Ytaiofbagdcpfgaa
