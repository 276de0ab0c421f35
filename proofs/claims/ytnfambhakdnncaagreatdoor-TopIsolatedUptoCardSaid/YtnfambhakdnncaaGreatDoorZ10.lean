/-
  A part of the proof of TopIsolated: KhZ.
-/
import Derived.KernelRfl
import Derived.Test.YtnfambhakdnncaaGreatDoorZ09
namespace Go.Proofs.YtnfambhakdnncaaGreatDoor
set_option linter.all false
set_option maxRecDepth 1000000
set_option maxHeartbeats 80000000
open List Nat Int Go.RowKit
def aI:TL:=
 let a:Ex:= .o (.sub .i64) 2 4
 .loop [(.o (.sub .i64) 2 1),(.o (.sub .i64) 3 2),0] (.ite (ib 4 5) (.ite (aB 5 4) (.call 43000309 [6,a,2,5] 1 (.next 0 [(.o (.sub .i64) 4 5),5,7])) (.call 43000309 [6,a,(.o (.sub .i64) (.o (.add .i64) 2 5) 4),4] 1 (.next 0 [4,(.o (.sub .i64) 5 4),7]))) (.call 43000309 [6,a,2,4] 1 (.ah [7])))
def lC:FT 43000238 4 aI:=aJ (by kernel_rfl)
def aw:TL:=
 let a:Ex:= .o (.add .i64) 2 4
 let b:Ex:= .o (.add .i64) 1 4
 let c:Ex:=bE 5 a
 let d:Ex:= .t .mu 5 b (dY (kc c [0,1,2,3,4,5,6,7,8,9]) .nil)
 let e:Ex:=bE 5 b
 .loop [(.i 0),0] (.ite (aB 4 3) (.aa (az (.i 0) a) (.aa (aB a (ao 5)) (.aa (az (.i 0) b) (.aa (aB b (ao 5)) (.aa (az (.i 0) b) (.aa (aB b (ao 5)) (.aa (az (.i 0) a) (.aa (aB a (ao d)) (.next 0 [(eX 4),(.t .mu d a (dY (kc e [0,1,2,3,4,5,6,7,8,9]) .nil))]))))))))) (.ah [5]))
def jV:FT 43000309 4 aw:=aJ (by kernel_rfl)
end Go.Proofs.YtnfambhakdnncaaGreatDoor
