/-
  What the row's condition on the listed variables gives.
-/
import Derived.Test.YtkjgcalkkfgmlaaDoorGlI
import Derived.Test.YtkjgcalkkfgmlaaDoorRows
import Derived.Stop.LaidErr
import Derived.LaidMore
namespace Go.Proofs.YtkjgcalkkfgmlaaDoor
open Go.RowKit

theorem pow_data : (Rows.laid_internal_strconv_uint64pow10 : DataW Unit) = Lib.tabData .u64 Lib.pow10Tab := by kernel_rfl
theorem third {P : Program} {W : World} {n1 n2 n3 : String} {d1 d2 d3 : DataW Unit} (hp : laidMetH P [(n1, d1), (n2, d2), (n3, d3)] W = laidMet P [(n1, d1), (n2, d2), (n3, d3)] W) (h : laidMetH P [(n1, d1), (n2, d2), (n3, d3)] W) : laidMet P [(n3, d3)] W := by
  rw [hp] at h; exact h.tail.tail
theorem tab_head {P : Program} {W : World} {name : String} {d : DataW Unit} {zs : List Int} {k : IntKind} {g : Nat} {t e : TypeId} {n : Nat} (hd : d = Lib.tabData k zs) (h : laidMet P [(name, d)] W)
    (hg : P.globalNamed name = some g) (hty : (P.globals[g]?).map (·.type) = some t) (ht : P.underlying t = some (.array n e)) (he : P.underlying e = some (.int k)) (hce : P.cellsOf e = 1) (hct : P.cellsOf t = n) :
    cellsAt W g = some (zs.map fun z => Value.int k z).toArray := by
  subst hd
  exact (tab_iff hg).1 (Lib.tabIs_of_head hg hty ht he hce hct h)
theorem glob_of_laid {W : World} (h : laidMetH Tryd.prog Rows.fracMakesRow.laid W) : Glob.G Tryd.prog W :=
  tab_head (t := 90) (e := 42) (n := 20) pow_data (third (MakeChecks.laidMetH_plain _ _ _ (by kernel_rfl)) h) YtkjgcalkkfgmlaaDoor.laysItoa.m17 (by kernel_rfl) Tryd.underlying90 Tryd.underlying42 (by kernel_rfl) (by kernel_rfl)
end Go.Proofs.YtkjgcalkkfgmlaaDoor
