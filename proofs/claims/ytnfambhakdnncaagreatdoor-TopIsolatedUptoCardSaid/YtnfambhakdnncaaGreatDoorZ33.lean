/-
  A part of the proof of TopIsolated: J6.
-/
import Derived.Test.YtnfambhakdnncaaGreatDoorZ27
namespace Go.Proofs.YtnfambhakdnncaaGreatDoor
set_option linter.all false
set_option maxRecDepth 1000000
set_option maxHeartbeats 80000000
open List Nat Int Go.RowKit
namespace topIsolated
open Go
def aux:(jP.mayEnter)=true:=by kernel_rfl
def auw:(jP.stopsHeard)=true:=by kernel_rfl
def auu:(jR.plainKeys==jP.plainKeys)=true:=by kernel_rfl
end topIsolated
end Go.Proofs.YtnfambhakdnncaaGreatDoor
