/-
  The worked examples of chapter 27 hold.
-/
import Derived.Test.YtahchcpimanjfaaK27
namespace Go.Proofs.Ytahchcpimanjfaa
theorem awake27 : k_simulatorlaw27_awake.F [] = some [.b true] := by kernel_rfl
end Go.Proofs.Ytahchcpimanjfaa
