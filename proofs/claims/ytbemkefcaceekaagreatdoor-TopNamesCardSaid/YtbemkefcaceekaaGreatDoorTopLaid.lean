/- What the row's eleven listed variables give: the tables as the contracts want them; a world that lays them; the library's own number out of the world's shape. -/
import Derived.Test.YtbemkefcaceekaaGreatDoorRows
import Derived.Test.YtbemkefcaceekaaGreatDoorName2
import Derived.PinnedBridge
import Derived.Lay
import Derived.LaidOnce
import Derived.Stop.LaidErr
import Derived.Shelf.Vars
import Derived.WalkKit
import Derived.ProofKit
set_option linter.unusedVariables false
namespace Go.Proofs.YtbemkefcaceekaaGreatDoor
open Go.RowKit Go.Lib Go.Shelf
set_option maxHeartbeats 4000000
set_option maxRecDepth 100000

def laidL : List (String × DataW Unit) := [("math/bits.deBruijn32tab", Rows.laid_math_bits_deBruijn32tab), ("math/bits.deBruijn64tab", Rows.laid_math_bits_deBruijn64tab), ("internal/strconv.uint64pow10", Rows.laid_internal_strconv_uint64pow10), ("unicode/utf8.acceptRanges", Rows.laid_unicode_utf8_acceptRanges), ("strconv.ErrRange", Rows.laid_strconv_ErrRange), ("strconv.ErrSyntax", Rows.laid_strconv_ErrSyntax), ("unicode.properties", Rows.laid_unicode_properties), ("unicode.CaseRanges", Rows.laid_unicode_CaseRanges), ("unicode.Digit", Rows.laid_unicode_Digit), ("unicode.Letter", Rows.laid_unicode_Letter), ("unicode/utf8.first", Rows.laid_unicode_utf8_first)]
theorem props_eq : (Rows.laid_unicode_properties : DataW Unit) = Lib.tabData .u8 Lib.propertiesTab := by kernel_rfl
theorem xLetter : RExtra Tryz.prog Tryz.lays200_ren := ⟨by kernel_rfl, by kernel_rfl, by kernel_rfl, by kernel_rfl, by kernel_rfl, by kernel_rfl, by kernel_rfl, by kernel_rfl⟩
theorem xDigit : RExtra Tryz.prog Tryz.lays198_ren := ⟨by kernel_rfl, by kernel_rfl, by kernel_rfl, by kernel_rfl, by kernel_rfl, by kernel_rfl, by kernel_rfl, by kernel_rfl⟩
theorem gT : Tryz.prog.globalNamed "unicode.properties" = some (Tryz.lays200_ren.g 7) := by kernel_rfl
theorem gTy : (Tryz.prog.globals[Tryz.lays200_ren.g 7]?).map (·.type) = some 179 := by kernel_rfl
theorem cells8 : Tryz.prog.cellsOf 5 = 1 := by kernel_rfl
theorem cells256 : Tryz.prog.cellsOf 179 = 256 := by kernel_rfl
theorem tabs_of {W : World} (h : laidMet Tryz.prog laidL W) : Tabs W := by
  refine ⟨?_, ?_, ?_, ?_⟩
  · have h6 := laidMet.tail (laidMet.tail (laidMet.tail (laidMet.tail (laidMet.tail (laidMet.tail h)))))
    have h1 : laidMet Tryz.prog (("unicode.properties", Lib.tabData .u8 Lib.propertiesTab) :: [("unicode.CaseRanges", Rows.laid_unicode_CaseRanges), ("unicode.Digit", Rows.laid_unicode_Digit), ("unicode.Letter", Rows.laid_unicode_Letter), ("unicode/utf8.first", Rows.laid_unicode_utf8_first)]) W := by rw [← props_eq]; exact h6
    exact Lib.tabIs_of_head gT gTy Tryz.underlying179 Tryz.underlying5 cells8 cells256 h1
  · exact rvar_of_reads { Tryz.lays200 with } xLetter (by kernel_rfl) (by kernel_rfl) ((show (Rows.laid_unicode_Letter : DataW Unit) = rtabData letterT from Pinned.letter_eq) ▸ Lib.laidMet.reads h (.tail _ (.tail _ (.tail _ (.tail _ (.tail _ (.tail _ (.tail _ (.tail _ (.tail _ (.head _)))))))))))
  · exact rvar_of_reads { Tryz.lays198 with } xDigit (by kernel_rfl) (by kernel_rfl) ((show (Rows.laid_unicode_Digit : DataW Unit) = rtabData digitT from Pinned.digit_eq) ▸ Lib.laidMet.reads h (.tail _ (.tail _ (.tail _ (.tail _ (.tail _ (.tail _ (.tail _ (.tail _ (.head _))))))))))
  · exact caseVar_of_reads { Tryz.lays204 with } Tryz.lays204.t206 ⟨by kernel_rfl, by kernel_rfl, by kernel_rfl, by kernel_rfl, by kernel_rfl, by kernel_rfl⟩ ((show (Rows.laid_unicode_CaseRanges : DataW Unit) = caseData from Pinned.caseRanges_eq) ▸ Lib.laidMet.reads h (.tail _ (.tail _ (.tail _ (.tail _ (.tail _ (.tail _ (.tail _ (.head _)))))))))
theorem own : ownKnob Tryz.prog.godebug = none := by kernel_rfl
theorem plainL (W : World) : laidMetH Tryz.prog laidL W = laidMet Tryz.prog laidL W := MakeChecks.laidMetH_plain _ _ _ (by kernel_rfl)
theorem maxLen_of {W : World} (h : W.ShapedOpen Tryz.prog) : ∃ m, W.cell? ⟨0, 0, none⟩ = some (.int .i64 m) :=
  cell_of_shapedOpen_int (t := 3) (zero := #[.int .i64 0]) h (of_decide_eq_true (by kernel_rfl)) (by kernel_rfl) rfl (by kernel_rfl) (by kernel_rfl) Tryz.underlying3
end Go.Proofs.YtbemkefcaceekaaGreatDoor
