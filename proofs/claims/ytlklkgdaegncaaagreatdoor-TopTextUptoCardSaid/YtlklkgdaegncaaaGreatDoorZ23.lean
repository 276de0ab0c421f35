/-
  A part of the proof of TopText: J5.
-/
import Derived.Test.YtlklkgdaegncaaaGreatDoorZ18
namespace Go.Proofs.YtlklkgdaegncaaaGreatDoor
set_option linter.unusedVariables false
set_option linter.unusedSimpArgs false
set_option maxRecDepth 20000
set_option maxHeartbeats 8000000
open List
open Nat
open Int
namespace topText
open Go
theorem jf2:(laidOutB jP)=true:=by kernel_rfl
theorem jf3:(mapsRowed jP)=true:=by kernel_rfl
end topText
end Go.Proofs.YtlklkgdaegncaaaGreatDoor
