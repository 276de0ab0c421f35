/-
  A part of the proof of TopIsolated: Te9.
-/
import Derived.Test.YtnfambhakdnncaaGreatDoorZ04
import Derived.Test.YtnfambhakdnncaaGreatDoorZ10
import Derived.KernelRfl
namespace Go.Proofs.YtnfambhakdnncaaGreatDoor
set_option linter.all false
set_option maxRecDepth 1000000
set_option maxHeartbeats 80000000
open List Nat Int Go.RowKit
def It:List bH:=[[5,1,7,1,0,0,9,0,1,0],[5,1,7,1,0,0,9,0,1,1,0],[5,1,7,1,0,0,9,0,1,1,1],[5,1,7,1,0,0,9,1,0],[5,1,7,1,0,0,9,1,1,0],[5,1,7,1,0,0,9,1,1,1]]
noncomputable def EY:Option (Nat×T bZ):=some (28,ft)
def adm:abJ am HV aK cG EY It=true:=by decide+kernel
def adn:Fi am HV aK cG EY (It.getD 0 [])=true:=by decide+kernel
def ado:Fi am HV aK cG EY (It.getD 1 [])=true:=by decide+kernel
end Go.Proofs.YtnfambhakdnncaaGreatDoor
