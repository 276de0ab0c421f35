/-
  The worked examples of chapter 48 hold.
-/
import Derived.Test.YtgekeolponbifaaK48
namespace Go.Proofs.Ytgekeolponbifaa
theorem awake48 : k_simulatorlaw48_awake.F [] = some [.b true] := by kernel_rfl
end Go.Proofs.Ytgekeolponbifaa
