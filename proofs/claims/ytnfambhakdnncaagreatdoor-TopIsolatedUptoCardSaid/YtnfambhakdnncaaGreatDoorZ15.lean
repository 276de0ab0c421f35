/-
  A part of the proof of TopIsolated: Te13.
-/
import Derived.Test.YtnfambhakdnncaaGreatDoorZ04
namespace Go.Proofs.YtnfambhakdnncaaGreatDoor
set_option linter.all false
set_option maxRecDepth 1000000
set_option maxHeartbeats 80000000
open List Nat Int Go.RowKit
def ade:mR am S55 (kx.take 4)=true:=by decide+kernel
def adf:mR am ((kx.take 4).foldl (fun S e=>e.1::S) S55) ((kx.drop 4).take 3)=true:=by decide+kernel
def adg:mR am (((kx.drop 4).take 3).foldl (fun S e=>e.1::S) ((kx.take 4).foldl (fun S e=>e.1::S) S55)) (((kx.drop 4).drop 3).take 1)=true:=by decide+kernel
def adh:mR am ((((kx.drop 4).drop 3).take 1).foldl (fun S e=>e.1::S) (((kx.drop 4).take 3).foldl (fun S e=>e.1::S) ((kx.take 4).foldl (fun S e=>e.1::S) S55))) ((((kx.drop 4).drop 3).drop 1).take 1)=true:=by decide+kernel
def adi:mR am (((((kx.drop 4).drop 3).drop 1).take 1).foldl (fun S e=>e.1::S) ((((kx.drop 4).drop 3).take 1).foldl (fun S e=>e.1::S) (((kx.drop 4).take 3).foldl (fun S e=>e.1::S) ((kx.take 4).foldl (fun S e=>e.1::S) S55)))) (((((kx.drop 4).drop 3).drop 1).drop 1).take 1)=true:=by decide+kernel
def adj:mR am ((((((kx.drop 4).drop 3).drop 1).drop 1).take 1).foldl (fun S e=>e.1::S) (((((kx.drop 4).drop 3).drop 1).take 1).foldl (fun S e=>e.1::S) ((((kx.drop 4).drop 3).take 1).foldl (fun S e=>e.1::S) (((kx.drop 4).take 3).foldl (fun S e=>e.1::S) ((kx.take 4).foldl (fun S e=>e.1::S) S55))))) (((((kx.drop 4).drop 3).drop 1).drop 1).drop 1)=true:=by decide+kernel
def aoQ:mR am S55 kx=true:=zH 4 ade (zH 3 adf (zH 1 adg (zH 1 adh (zH 1 adi adj))))
end Go.Proofs.YtnfambhakdnncaaGreatDoor
