/-
  The chapter's examples hold.
-/
import Derived.Test.YtpmplppkjedpiaaK25
namespace Go.Proofs.Ytpmplppkjedpiaa
theorem awake25 : k_simulatorlaw25_awake.F [] = some [.b true] := by kernel_rfl
end Go.Proofs.Ytpmplppkjedpiaa
