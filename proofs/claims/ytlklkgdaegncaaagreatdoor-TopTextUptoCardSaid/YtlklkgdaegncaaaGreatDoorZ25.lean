/-
  A part of the proof of TopText: J7.
-/
import Derived.Test.YtlklkgdaegncaaaGreatDoorZ18
namespace Go.Proofs.YtlklkgdaegncaaaGreatDoor
set_option linter.unusedVariables false
set_option linter.unusedSimpArgs false
set_option maxRecDepth 20000
set_option maxHeartbeats 8000000
open List
open Nat
open Int
namespace topText
open Go
theorem aEq:(jR.loops==jT.any (jP.loopsFrom ·))=true:=by kernel_rfl
theorem aEr:(jR.wideKeys==jU.any (jP.wideKeysFrom ·))=true:=by kernel_rfl
theorem jf4:(jF.params.all (jP.readableRec ·))=true:=by kernel_rfl
theorem aEn:(jR.maps==jT.any (jP.mapsRec ·))=true:=by kernel_rfl
theorem aEo:(jR.ifaces==jT.any (jP.ifacesRec ·))=true:=by kernel_rfl
theorem aED:(jR.veiled==jU.any (jP.veiledRec ·))=true:=by kernel_rfl
theorem aEE:(jR.veiledFits jP jF.params.toList jU)=true:=by kernel_rfl
end topText
end Go.Proofs.YtlklkgdaegncaaaGreatDoor
