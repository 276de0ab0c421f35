/-
  A part of the proof of TopIsolated: Te11.
-/
import Derived.Test.YtnfambhakdnncaaGreatDoorZ12
import Derived.Test.YtnfambhakdnncaaGreatDoorZ10
import Derived.KernelRfl
namespace Go.Proofs.YtnfambhakdnncaaGreatDoor
set_option linter.all false
set_option maxRecDepth 1000000
set_option maxHeartbeats 80000000
open List Nat Int Go.RowKit
def adr:Fi am HV aK cG EY (It.getD 4 [])=true:=by decide+kernel
def ads:Fi am HV aK cG EY (It.getD 5 [])=true:=by decide+kernel
def aoB:mR am HV afs=true:=Kt (o:=EY) (by kernel_rfl) adm (An adn (An ado (An adp (An adq (An adr (An ads rfl))))))
end Go.Proofs.YtnfambhakdnncaaGreatDoor
