/-
  A part of the proof of TopIsolated: Te8.
-/
import Derived.Test.YtnfambhakdnncaaGreatDoorZ04
namespace Go.Proofs.YtnfambhakdnncaaGreatDoor
set_option linter.all false
set_option maxRecDepth 1000000
set_option maxHeartbeats 80000000
open List Nat Int Go.RowKit
def aof:mR am S13 ae6=true:=by decide+kernel
def aor:mR am S25 afi=true:=by decide+kernel
def aoE:mR am S38 afv=true:=by decide+kernel
def aoT:mR am S58 afJ=true:=by decide+kernel
def avc:mR am S2 an5=true:=by decide+kernel
def aoi:LS am S16 ae9=true:=by decide+kernel
def aou:mR am S28 afl=true:=by decide+kernel
def aoI:mR am S44 afz=true:=by decide+kernel
def aoX:mR am S64 afN=true:=by decide+kernel
end Go.Proofs.YtnfambhakdnncaaGreatDoor
