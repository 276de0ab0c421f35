/-
  What the row's condition on the listed variables gives.
-/
import Derived.Test.YtkjgcalkkfgmlaaDoorGlI
import Derived.Test.YtkjgcalkkfgmlaaDoorRows
import Derived.Stop.LaidErr
import Derived.LaidMore
namespace Go.Proofs.YtkjgcalkkfgmlaaDoor
open Go.RowKit

theorem pow_data : (Rows.laid_internal_strconv_uint64pow10 : DataW Unit) = Lib.tabData .u64 Lib.pow10Tab := by kernel_rfl
theorem glob_of_laid {W : World} (h : laidMetH Tryd.prog [("math/bits.deBruijn32tab", Rows.laid_math_bits_deBruijn32tab), ("math/bits.deBruijn64tab", Rows.laid_math_bits_deBruijn64tab), ("internal/strconv.uint64pow10", Rows.laid_internal_strconv_uint64pow10)] W) : Glob.G Tryd.prog W := by
  rw [MakeChecks.laidMetH_plain _ _ _ (by kernel_rfl), pow_data] at h
  exact Lib.tabIs_of_head (t := 90) (e := 42) (n := 20) YtkjgcalkkfgmlaaDoor.laysItoa.m17 (by kernel_rfl) Tryd.underlying90 Tryd.underlying42 (by kernel_rfl) (by kernel_rfl) h.tail.tail
end Go.Proofs.YtkjgcalkkfgmlaaDoor
