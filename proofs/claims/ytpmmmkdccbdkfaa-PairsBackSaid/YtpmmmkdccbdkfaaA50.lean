/-
  The worked examples of chapter 50 hold.
-/
import Derived.Test.YtpmmmkdccbdkfaaK50
namespace Go.Proofs.Ytpmmmkdccbdkfaa
theorem awake50 : k_simulatorlaw50_awake.F [] = some [.b true] := by kernel_rfl
end Go.Proofs.Ytpmmmkdccbdkfaa
