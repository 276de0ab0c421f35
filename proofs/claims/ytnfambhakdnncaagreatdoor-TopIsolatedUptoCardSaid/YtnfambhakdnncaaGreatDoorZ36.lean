/-
  A part of the proof of TopIsolated: J9.
-/
import Derived.Test.YtnfambhakdnncaaGreatDoorZ27
import GoSem.ClaimGoes
import Derived.SevenTiedAt
namespace Go.Proofs.YtnfambhakdnncaaGreatDoor
set_option linter.all false
set_option maxRecDepth 1000000
set_option maxHeartbeats 80000000
open List Nat Int Go.RowKit
namespace topIsolated
open Go
def ahM:(jP.funcs.toList.all fun fn=> !fn.goes)=true:=by kernel_rfl
def Pa{P:Program}(h:(P.funcs.toList.all fun fn=> !fn.goes)=true)(f:FuncId):P.goes f=false:=by
 have h1:∀fn∈P.funcs.toList,fn.goes=false:=fun fn hf=>by simpa using lO.1 h fn hf
 have h2:∀g:FuncId,(P.funcs[g]?).any Func.goes=false:=fun g=>by
  cases hg:P.funcs[g]? with|none=>rfl|some fn=>exact h1 fn (Array.mem_toList_iff.2 (Array.mem_of_getElem? hg))
 have h3:P.funcs.any Func.goes=false:=by rw[<-Array.any_toList,any_eq_false];intro fn hf;rw[h1 fn hf];simp
 unfold Program.goes;rw[h3,Bool.and_false,Bool.or_false];rw[any_eq_false];intro g _;rw[h2 g];simp
def QK{P:Program}(hP:(P.funcs.toList.all fun fn=> !fn.goes)=true)(c:OpenClaim):false=c.goesBy P:=by
 unfold OpenClaim.goesBy Program.goesAt Program.goesFrom;have h:(P.funcNamed c.func).any P.goes=false:=by
  cases P.funcNamed c.func with|none=>rfl|some f=>exact Pa hP f
 have h2:P.inits.toList.any P.goes=false:=by rw[any_eq_false];intro g _;rw[Pa hP g];simp
 rw[h,h2];split<;>rfl
def goes:false=jR.goesBy jP:=QK ahM jR
end topIsolated
end Go.Proofs.YtnfambhakdnncaaGreatDoor
