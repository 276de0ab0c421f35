/-
  A part of the proof of TopIsolated: J8.
-/
import Derived.Test.YtnfambhakdnncaaGreatDoorZ27
import Derived.Test.YtnfambhakdnncaaGreatDoorZ28
import Derived.Test.YtnfambhakdnncaaGreatDoorZ29
import Derived.Test.YtnfambhakdnncaaGreatDoorZ30
import Derived.Test.YtnfambhakdnncaaGreatDoorZ31
import Derived.Test.YtnfambhakdnncaaGreatDoorZ32
import Derived.Test.YtnfambhakdnncaaGreatDoorZ33
import Derived.Test.YtnfambhakdnncaaGreatDoorZ34
namespace Go.Proofs.YtnfambhakdnncaaGreatDoor
set_option linter.all false
set_option maxRecDepth 1000000
set_option maxHeartbeats 80000000
open List Nat Int Go.RowKit
namespace topIsolated
open Go
def dC{a b:Bool}(h:a=true)(k:b=true):(a&&b)=true:=by rw[h,k];rfl
def jf1:(jR.wf (OpenSpec.ofChange jS))=true:=by kernel_rfl
def jf5:(namedTie jP jR.named jS.vars)=true:=by kernel_rfl
def jf6:(jR.stops==[])=true:=by kernel_rfl
def jf7:(jP.stops==[])=true:=by kernel_rfl
def jf8:(jR.knobs==[])=true:=by kernel_rfl
def jf9:(jP.stopKnobs==[])=true:=by kernel_rfl
def aun:(jR.mapsOut==jP.mapsAmong jF.resultTypes.toList)=true:=by kernel_rfl
def auq:(jS.vars.all (jP.varReadable ·))=true:=by kernel_rfl
def aur:(jF.resultTypes.all (fun t=>jP.readableRec t&&decide (t<jP.types.size)))=true:=by kernel_rfl
def aus:(jR.ifacesOut==jF.resultTypes.toList.any (jP.ifacesRec ·))=true:=by kernel_rfl
def aut:(jR.loopsOut==jF.resultTypes.toList.any (jP.loopsFrom ·))=true:=by kernel_rfl
def auv:(jR.shortTexts.isNone)=true:=by kernel_rfl
def auy:(jR.lifted==jP.liftsFinal)=true:=by kernel_rfl
def auz:(jP.make==some jR.make)=true:=by kernel_rfl
def auA:(jR.pinned==jR.pinnedBy)=true:=by kernel_rfl
def closed:joinedFacts jP 3 jF jS jR=true:=by unfold joinedFacts;exact(dC (dC (dC (dC (dC (dC (dC (dC (dC (dC (dC (dC (dC (dC (dC (dC (dC (dC (dC (dC (dC (dC (dC (dC (dC (dC (dC (dC (dC (dC (dC jf1 jf2) jf3) jf4) jf5) jf6) jf7) jf8) jf9) auh) aui) auj) auk) aul) aum) aun) auo) aup) auq) aur) aus) aut) auu) auv) auw) aux) auy) auz) (by kernel_rfl)) auA) auB) auC)
end topIsolated
end Go.Proofs.YtnfambhakdnncaaGreatDoor
