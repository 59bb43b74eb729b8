/- Top31: awake, TopNames. -/
import Derived.Test.YtbemkefcaceekaaGreatDoorTop30
set_option linter.unusedVariables false
set_option linter.unusedSimpArgs false
set_option maxRecDepth 100000
namespace Go.Proofs.YtbemkefcaceekaaGreatDoor
open Go.RowKit Go.Lib Go.Shelf Go.Proofs.YtbemkefcaceekaaGreatDoorW.PrintWords Go.Proofs.YtbemkefcaceekaaGreatDoorW.PrintLast

theorem awake_top (w : World) (mx : Int) (hm : w.cell? ⟨0, 0, none⟩ = some (.int .i64 mx)) (ht : Tabs w) :
    Calls Tryz.prog 4 #[] w fun e w' => e = .returned (.bool true) ∧ Ext w w' := by
  have hr := run_any w scr lns scr_parts 4 rfl (by intro x hx; obtain rfl : ln4 = x := by simpa [lns] using hx
                                                   decide +kernel) (by decide +kernel) mx hm ht pss Fs (lines_all mx) tells tells_size St ⟨rfl, rfl⟩
    (fun w0 W base bm um dm cm hb sb H R i v hi ht0 hv hS hP => steps_all w0 W base bm um dm cm hb sb H R i v hi ht0 hv hS hP)
  rw [tells_told] at hr
  have Hr := Lib.hid hr
  clear hr hm ht
  go_enter Tryz.func4, Tryz.ntmps4
  go_wp2_with fail
  refine Hr.out.mono ?_
  rintro e w1 ⟨rfl, x1⟩
  have hk : (told.toList == [48, 46, 49, 32, 100, 111, 110, 101, 10, 48, 46, 49, 10, 48, 46, 50, 10, 48, 46, 50, 32, 100, 111, 110, 101, 10, 48, 46, 50, 32, 97, 110, 110, 32, 53, 10]) = true := by decide +kernel
  go_wp2
  go_ret
  exact ⟨by first | rfl | exact congrArg (fun b => Ending.returned (.bool b)) hk, x1⟩
theorem topnames_any (w : World) (mx : Int) (hm : w.cell? ⟨0, 0, none⟩ = some (.int .i64 mx)) (ht : Tabs w) :
    Calls Tryz.prog 3 #[] w fun e w' => e = .returned (.bool true) ∧ Ext w w' := by
  have Hr := Lib.hid (awake_top w mx hm ht)
  clear hm ht
  go_enter Tryz.func3, Tryz.ntmps3
  go_wp2_with fail
  refine Hr.out.mono ?_
  rintro e w1 ⟨rfl, x1⟩
  go_wp2
  go_ret
  exact ⟨rfl, x1⟩
end Go.Proofs.YtbemkefcaceekaaGreatDoor
