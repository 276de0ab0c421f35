/-
  A part of the proof of TopIsolated: Te7.
-/
import Derived.Test.YtnfambhakdnncaaGreatDoorZ04
namespace Go.Proofs.YtnfambhakdnncaaGreatDoor
set_option linter.all false
set_option maxRecDepth 1000000
set_option maxHeartbeats 80000000
open List Nat Int Go.RowKit
def ave:LS am S6 an7=true:=by decide+kernel
def aok:mR am S18 afb=true:=by decide+kernel
def aow:mR am S30 afn=true:=by decide+kernel
def aoL:mR am S48 afC=true:=by decide+kernel
def ao0:mR am S69 afQ=true:=by decide+kernel
def avh:LS am S9 aoa=true:=by decide+kernel
def aon:mR am S21 afe=true:=by decide+kernel
def aoz:mR am S33 afq=true:=by decide+kernel
def aoP:mR am S53 afG=true:=by decide+kernel
end Go.Proofs.YtnfambhakdnncaaGreatDoor
