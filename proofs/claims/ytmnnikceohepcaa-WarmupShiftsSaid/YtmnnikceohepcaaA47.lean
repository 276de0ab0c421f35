/-
  The worked examples of chapter 47 hold.
-/
import Derived.Test.YtmnnikceohepcaaK47
namespace Go.Proofs.Ytmnnikceohepcaa
theorem awake47 : k_simulatorlaw47_awake.F [] = some [.b true] := by kernel_rfl
end Go.Proofs.Ytmnnikceohepcaa
