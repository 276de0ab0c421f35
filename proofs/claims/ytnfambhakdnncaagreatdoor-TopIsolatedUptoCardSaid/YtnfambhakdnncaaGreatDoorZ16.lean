/-
  A part of the proof of TopIsolated: Te2.
-/
import Derived.Test.YtnfambhakdnncaaGreatDoorZ04
namespace Go.Proofs.YtnfambhakdnncaaGreatDoor
set_option linter.all false
set_option maxRecDepth 1000000
set_option maxHeartbeats 80000000
open List Nat Int Go.RowKit
def aoc:mR am S10 ae3=true:=by decide+kernel
def aoo:LS am S22 aff=true:=by decide+kernel
def aoA:LS am S34 afr=true:=by decide+kernel
end Go.Proofs.YtnfambhakdnncaaGreatDoor
