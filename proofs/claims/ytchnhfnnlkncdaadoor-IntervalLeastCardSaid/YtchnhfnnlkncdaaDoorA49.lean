/-
  The worked examples of chapter 49 hold.
-/
import Derived.Test.YtchnhfnnlkncdaaDoorK49
namespace Go.Proofs.YtchnhfnnlkncdaaDoor
theorem awake49 : k_simulatorlaw49_awake.F [] = some [.b true] := by kernel_rfl
end Go.Proofs.YtchnhfnnlkncdaaDoor
