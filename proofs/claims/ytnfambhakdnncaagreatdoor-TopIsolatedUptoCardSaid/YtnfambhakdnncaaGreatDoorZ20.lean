/-
  A part of the proof of TopIsolated: Te6.
-/
import Derived.Test.YtnfambhakdnncaaGreatDoorZ04
namespace Go.Proofs.YtnfambhakdnncaaGreatDoor
set_option linter.all false
set_option maxRecDepth 1000000
set_option maxHeartbeats 80000000
open List Nat Int Go.RowKit
def aoV:mR am S60 afL=true:=by decide+kernel
def avb:LS am S1 an4=true:=by decide+kernel
def aoh:mR am S15 ae8=true:=by decide+kernel
def aot:LS am S27 afk=true:=by decide+kernel
def aoG:mR am S42 afx=true:=by decide+kernel
def aoW:mR am S62 afM=true:=by decide+kernel
def aoM:mR am S49 afD=true:=by decide+kernel
end Go.Proofs.YtnfambhakdnncaaGreatDoor
