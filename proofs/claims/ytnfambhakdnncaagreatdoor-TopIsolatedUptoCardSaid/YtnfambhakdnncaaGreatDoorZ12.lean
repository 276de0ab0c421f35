/-
  A part of the proof of TopIsolated: Te10.
-/
import Derived.Test.YtnfambhakdnncaaGreatDoorZ11
import Derived.Test.YtnfambhakdnncaaGreatDoorZ10
import Derived.KernelRfl
namespace Go.Proofs.YtnfambhakdnncaaGreatDoor
set_option linter.all false
set_option maxRecDepth 1000000
set_option maxHeartbeats 80000000
open List Nat Int Go.RowKit
def adp:Fi am HV aK cG EY (It.getD 2 [])=true:=by decide+kernel
def adq:Fi am HV aK cG EY (It.getD 3 [])=true:=by decide+kernel
end Go.Proofs.YtnfambhakdnncaaGreatDoor
