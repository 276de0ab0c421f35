/-
  A part of the proof of TopIsolated: Te4.
-/
import Derived.Test.YtnfambhakdnncaaGreatDoorZ04
namespace Go.Proofs.YtnfambhakdnncaaGreatDoor
set_option linter.all false
set_option maxRecDepth 1000000
set_option maxHeartbeats 80000000
open List Nat Int Go.RowKit
def aod:LS am S11 ae4=true:=by decide+kernel
def aop:mR am S23 afg=true:=by decide+kernel
def aoC:mR am S36 aft=true:=by decide+kernel
def aoR:mR am S56 afH=true:=by decide+kernel
def aoK:mR am S47 afB=true:=by decide+kernel
def ava:LS am S0 an3=true:=by decide+kernel
def aog:LS am S14 ae7=true:=by decide+kernel
def aos:mR am S26 afj=true:=by decide+kernel
def aoF:mR am S39 afw=true:=by decide+kernel
def aoU:mR am S59 afK=true:=by decide+kernel
end Go.Proofs.YtnfambhakdnncaaGreatDoor
