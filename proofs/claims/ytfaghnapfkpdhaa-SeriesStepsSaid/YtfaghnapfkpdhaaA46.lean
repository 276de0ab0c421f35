/-
  The worked examples of chapter 46 hold.
-/
import Derived.Test.YtfaghnapfkpdhaaK46
namespace Go.Proofs.Ytfaghnapfkpdhaa
theorem awake46 : k_simulatorlaw46_awake.F [] = some [.b true] := by kernel_rfl
end Go.Proofs.Ytfaghnapfkpdhaa
