/-
  A part of the proof of TopIsolated: Te12.
-/
import Derived.Test.YtnfambhakdnncaaGreatDoorZ04
import Derived.Test.YtnfambhakdnncaaGreatDoorZ10
import Derived.KernelRfl
namespace Go.Proofs.YtnfambhakdnncaaGreatDoor
set_option linter.all false
set_option maxRecDepth 1000000
set_option maxHeartbeats 80000000
open List Nat Int Go.RowKit
def Pi:List bH:=[[263,0,0,0,0,1,1,0,0,1,1,1,1,1,1,1,1,1,1,1,1,0],[263,0,0,0,0,1,1,0,0,1,1,1,1,1,1,1,1,1,1,1,1,1,0],[263,0,0,0,0,1,1,0,0,1,1,1,1,1,1,1,1,1,1,1,1,1,1,0],[263,0,0,0,0,1,1,0,0,1,1,1,1,1,1,1,1,1,1,1,1,1,1,1]]
noncomputable def K5:Option (Nat×T bZ):=fd 140
def adt:abJ am S67 bz dZ K5 Pi=true:=by decide+kernel
def adu:Fi am S67 bz dZ K5 (Pi.getD 0 [])=true:=by decide+kernel
def adv:Fi am S67 bz dZ K5 (Pi.getD 1 [])=true:=by decide+kernel
def adw:Fi am S67 bz dZ K5 (Pi.getD 2 [])=true:=by decide+kernel
def adx:Fi am S67 bz dZ K5 (Pi.getD 3 [])=true:=by decide+kernel
def aoZ:mR am S67 afP=true:=Kt (o:=K5) (by kernel_rfl) adt (An adu (An adv (An adw (An adx rfl))))
end Go.Proofs.YtnfambhakdnncaaGreatDoor
