/-
  A part of the proof of TopIsolated: Te3.
-/
import Derived.Test.YtnfambhakdnncaaGreatDoorZ04
namespace Go.Proofs.YtnfambhakdnncaaGreatDoor
set_option linter.all false
set_option maxRecDepth 1000000
set_option maxHeartbeats 80000000
open List Nat Int Go.RowKit
def avd:mR am S4 an6=true:=by decide+kernel
def aoj:mR am S17 afa=true:=by decide+kernel
def aov:LS am S29 afm=true:=by decide+kernel
def aoJ:mR am S46 afA=true:=by decide+kernel
def aoY:mR am S66 afO=true:=by decide+kernel
def aoe:LS am S12 ae5=true:=by decide+kernel
def aoq:LS am S24 afh=true:=by decide+kernel
def aoD:mR am S37 afu=true:=by decide+kernel
def aoS:LS am S57 afI=true:=by decide+kernel
end Go.Proofs.YtnfambhakdnncaaGreatDoor
