/-
  A part of the proof of TopText: J8.
-/
import Derived.Test.YtlklkgdaegncaaaGreatDoorZ18
import Derived.Test.YtlklkgdaegncaaaGreatDoorZ19
import Derived.Test.YtlklkgdaegncaaaGreatDoorZ20
import Derived.Test.YtlklkgdaegncaaaGreatDoorZ21
import Derived.Test.YtlklkgdaegncaaaGreatDoorZ22
import Derived.Test.YtlklkgdaegncaaaGreatDoorZ23
import Derived.Test.YtlklkgdaegncaaaGreatDoorZ24
import Derived.Test.YtlklkgdaegncaaaGreatDoorZ25
namespace Go.Proofs.YtlklkgdaegncaaaGreatDoor
set_option linter.unusedVariables false
set_option linter.unusedSimpArgs false
set_option maxRecDepth 20000
set_option maxHeartbeats 8000000
open List
open Nat
open Int
namespace topText
open Go
theorem gh {a b:Bool} (h:a=true) (k:b=true):(a&&b)=true:=by rw[h,k];rfl
theorem jf1:(jR.wf (OpenSpec.ofChange jS))=true:=by kernel_rfl
theorem jf5:(namedTie jP jR.named jS.vars)=true:=by kernel_rfl
theorem jf6:(jR.stops==[])=true:=by kernel_rfl
theorem jf7:(jP.stops==[])=true:=by kernel_rfl
theorem jf8:(jR.knobs==[])=true:=by kernel_rfl
theorem jf9:(jP.stopKnobs==[])=true:=by kernel_rfl
theorem aEp:(jR.mapsOut==jP.mapsAmong jF.resultTypes.toList)=true:=by kernel_rfl
theorem aEs:(jS.vars.all (jP.varReadable ·))=true:=by kernel_rfl
theorem aEt:(jF.resultTypes.all (fun t=>jP.readableRec t&&decide (t<jP.types.size)))=true:=by kernel_rfl
theorem aEu:(jR.ifacesOut==jF.resultTypes.toList.any (jP.ifacesRec ·))=true:=by kernel_rfl
theorem aEv:(jR.loopsOut==jF.resultTypes.toList.any (jP.loopsFrom ·))=true:=by kernel_rfl
theorem aEx:(jR.shortTexts.isNone)=true:=by kernel_rfl
theorem aEA:(jR.lifted==jP.liftsFinal)=true:=by kernel_rfl
theorem aEB:(jP.make==some jR.make)=true:=by kernel_rfl
theorem aEC:(jR.pinned==jR.pinnedBy)=true:=by kernel_rfl
set_option maxRecDepth 100000 in
theorem closed:joinedFacts jP 3 jF jS jR=true:=by
 unfold joinedFacts
 exact(gh (gh (gh (gh (gh (gh (gh (gh (gh (gh (gh (gh (gh (gh (gh (gh (gh (gh (gh (gh (gh (gh (gh (gh (gh (gh (gh (gh (gh (gh (gh jf1 jf2) jf3) jf4) jf5) jf6) jf7) jf8) jf9) aEj) aEk) aEl) aEm) aEn) aEo) aEp) aEq) aEr) aEs) aEt) aEu) aEv) aEw) aEx) aEy) aEz) aEA) aEB) (by kernel_rfl)) aEC) aED) aEE)
end topText
end Go.Proofs.YtlklkgdaegncaaaGreatDoor
