/-
  A part of the proof of TopIsolated: J7.
-/
import Derived.Test.YtnfambhakdnncaaGreatDoorZ27
namespace Go.Proofs.YtnfambhakdnncaaGreatDoor
set_option linter.all false
set_option maxRecDepth 1000000
set_option maxHeartbeats 80000000
open List Nat Int Go.RowKit
namespace topIsolated
open Go
def auo:(jR.loops==jT.any (jP.loopsFrom ·))=true:=by kernel_rfl
def aup:(jR.wideKeys==jU.any (jP.wideKeysFrom ·))=true:=by kernel_rfl
def jf4:(jF.params.all (jP.readableRec ·))=true:=by kernel_rfl
def aul:(jR.maps==jT.any (jP.mapsRec ·))=true:=by kernel_rfl
def aum:(jR.ifaces==jT.any (jP.ifacesRec ·))=true:=by kernel_rfl
def auB:(jR.veiled==jU.any (jP.veiledRec ·))=true:=by kernel_rfl
def auC:(jR.veiledFits jP jF.params.toList jU)=true:=by kernel_rfl
end topIsolated
end Go.Proofs.YtnfambhakdnncaaGreatDoor
