/-
  A part of the proof of TopIsolated: Te1.
-/
import Derived.Test.YtnfambhakdnncaaGreatDoorZ04
namespace Go.Proofs.YtnfambhakdnncaaGreatDoor
set_option linter.all false
set_option maxRecDepth 1000000
set_option maxHeartbeats 80000000
open List Nat Int Go.RowKit
def avg:mR am S8 an9=true:=by decide+kernel
def aom:mR am S20 afd=true:=by decide+kernel
def aoy:mR am S32 afp=true:=by decide+kernel
def aoO:mR am S52 afF=true:=by decide+kernel
def ao3:mR am S74 afT=true:=by decide+kernel
end Go.Proofs.YtnfambhakdnncaaGreatDoor
