/- What the rows' three listed variables give: the tables as the contracts want them; a world that lays them. -/
import Derived.Test.YtlffbappgfimeaaDoorRows
import Derived.Test.YtlffbappgfimeaaDoorShName
import Derived.PinnedBridge
import Derived.Lay
import Derived.LaidOnce
import Derived.WalkKit
import Derived.ProofKit
set_option linter.unusedVariables false
namespace Go.Proofs.YtlffbappgfimeaaDoor
open Go.RowKit Go.Lib Go.Shelf
set_option maxHeartbeats 4000000
set_option maxRecDepth 100000

def laidL : List (String × DataW Unit) := [("unicode.properties", Rows.laid_unicode_properties), ("unicode.Digit", Rows.laid_unicode_Digit), ("unicode.Letter", Rows.laid_unicode_Letter)]
theorem props_eq : (Rows.laid_unicode_properties : DataW Unit) = Lib.tabData .u8 Lib.propertiesTab := by kernel_rfl
theorem xLetter : RExtra Tryd.prog Tryd.lays200_ren := ⟨by kernel_rfl, by kernel_rfl, by kernel_rfl, by kernel_rfl, by kernel_rfl, by kernel_rfl, by kernel_rfl, by kernel_rfl⟩
theorem xDigit : RExtra Tryd.prog Tryd.lays198_ren := ⟨by kernel_rfl, by kernel_rfl, by kernel_rfl, by kernel_rfl, by kernel_rfl, by kernel_rfl, by kernel_rfl, by kernel_rfl⟩
theorem gT : Tryd.prog.globalNamed "unicode.properties" = some (Tryd.lays200_ren.g 7) := by kernel_rfl
theorem gTy : (Tryd.prog.globals[Tryd.lays200_ren.g 7]?).map (·.type) = some 87 := by kernel_rfl
theorem cells8 : Tryd.prog.cellsOf 5 = 1 := by kernel_rfl
theorem cells256 : Tryd.prog.cellsOf 87 = 256 := by kernel_rfl
theorem tabs_of {W : World} (h : laidMet Tryd.prog laidL W) : Tabs W := by
  refine ⟨?_, ?_, ?_⟩
  · have h1 : laidMet Tryd.prog (("unicode.properties", Lib.tabData .u8 Lib.propertiesTab) :: [("unicode.Digit", Rows.laid_unicode_Digit), ("unicode.Letter", Rows.laid_unicode_Letter)]) W := by rw [← props_eq]; exact h
    exact Lib.tabIs_of_head gT gTy Tryd.underlying87 Tryd.underlying5 cells8 cells256 h1
  · exact rvar_of_reads { Tryd.lays200 with } xLetter (by kernel_rfl) (by kernel_rfl) ((show (Rows.laid_unicode_Letter : DataW Unit) = rtabData letterT from Pinned.letter_eq) ▸ Lib.laidMet.reads h (.tail _ (.tail _ (.head _))))
  · exact rvar_of_reads { Tryd.lays198 with } xDigit (by kernel_rfl) (by kernel_rfl) ((show (Rows.laid_unicode_Digit : DataW Unit) = rtabData digitT from Pinned.digit_eq) ▸ Lib.laidMet.reads h (.tail _ (.head _)))
theorem own : ownKnob Tryd.prog.godebug = none := by kernel_rfl
theorem plainL (W : World) : laidMetH Tryd.prog laidL W = laidMet Tryd.prog laidL W := MakeChecks.laidMetH_plain _ _ _ (by kernel_rfl)
theorem wit_shaped (os : Os) : True := trivial
end Go.Proofs.YtlffbappgfimeaaDoor
