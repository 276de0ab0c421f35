/-
  A part of the proof of TopText: J1.
-/
import Derived.Test.YtlklkgdaegncaaaGreatDoorZ18
namespace Go.Proofs.YtlklkgdaegncaaaGreatDoor
set_option linter.unusedVariables false
set_option linter.unusedSimpArgs false
set_option maxRecDepth 20000
set_option maxHeartbeats 8000000
open List
open Nat
open Int
namespace topText
open Go
theorem aEj:(jR.inPlace==jP.inPlace 3)=true:=by kernel_rfl
end topText
end Go.Proofs.YtlklkgdaegncaaaGreatDoor
