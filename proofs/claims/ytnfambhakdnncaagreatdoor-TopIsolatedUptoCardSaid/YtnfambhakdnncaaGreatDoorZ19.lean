/-
  A part of the proof of TopIsolated: Te5.
-/
import Derived.Test.YtnfambhakdnncaaGreatDoorZ04
namespace Go.Proofs.YtnfambhakdnncaaGreatDoor
set_option linter.all false
set_option maxRecDepth 1000000
set_option maxHeartbeats 80000000
open List Nat Int Go.RowKit
def aoH:mR am S43 afy=true:=by decide+kernel
def avf:LS am S7 an8=true:=by decide+kernel
def aol:LS am S19 afc=true:=by decide+kernel
def aox:LS am S31 afo=true:=by decide+kernel
def aoN:mR am S50 afE=true:=by decide+kernel
def ao1:mR am S71 afR=true:=by decide+kernel
def ao2:mR am S72 afS=true:=by decide+kernel
end Go.Proofs.YtnfambhakdnncaaGreatDoor
