/-
  A part of the proof of TopIsolated: Al5, Al6, Al7, Al8.
-/
import Derived.Test.YtnfambhakdnncaaGreatDoorZ25
namespace Go.Proofs.YtnfambhakdnncaaGreatDoor
set_option linter.all false
set_option maxRecDepth 1000000
set_option maxHeartbeats 80000000
open List Nat Int Go.RowKit
def art:Fk:=⟨35,[FW,SF,bN,0,0,1,abP,bN,0,bN,bN,bN,bN,bN,abQ,bN,bN,uY,uY,uY,0],[0]⟩
def ajE:List Fk:=art::ajD
def arQ:Fs ajE:=kZ arP (by kernel_rfl)
def abR:Sc:= .l [(.l [4,1,0,1,0,2,0,0,bN])]
def G8:Sc:= .l [1]
def abS:Sc:= .l [(.l [0,0,2,G8,1,3,0])]
def UN:Sc:= .l [(.l [13187652179984800840,1,Wf])]
def aru:Fk:=⟨35,[FW,SF,bN,0,3,2,abR,abS,1,bN,bN,bN,bN,bN,UN,bN,bN,uY,G8,uY,0],[0]⟩
def ajF:List Fk:=aru::ajE
def arR:Fs ajF:=kZ arQ (by kernel_rfl)
def arv:Fk:=⟨16,[FW,SF,bN,Xe],[0]⟩
def ajG:List Fk:=arv::ajF
def arS:Fs ajG:=kZ arR (by kernel_rfl)
def agw:Sc:= .l [(.l [0,3,2,abR,abS,1,bN,bN,bN,bN,bN,UN,bN,bN,uY,G8,uY,0])]
def arw:Fk:=⟨16,[FW,SF,bN,agw],[0]⟩
def ajH:List Fk:=arw::ajG
def arT:Fs ajH:=kZ arS (by kernel_rfl)
def ak7:Sc:= .l [(.l [3,0,1,0,0,0]),(.l [3,0,3,0,0,1])]
def arx:Fk:=⟨38,[FW,SF,bN,0,0,1,abP,bN,0,bN,bN,bN,bN,bN,abQ,bN,bN,uY,uY,uY,0],[0,3,2,abR,abS,1,bN,bN,bN,bN,bN,UN,bN,bN,uY,G8,uY,0,3,2,0,0,0,3,0,0,bN,bN,ak7,(.b true)]⟩
def ajI:List Fk:=arx::ajH
def arU:Fs ajI:=kZ arT (by kernel_rfl)
def ary:Fk:=⟨18,[FW,SF,bN,Xe],[agw,3,2,0,0,0,3,0,0,bN,ak7,(.b true)]⟩
def ajJ:List Fk:=ary::ajI
def arV:Fs ajJ:=kZ arU (by kernel_rfl)
def ak8:Sc:= .l [(.l [4,0,16,0,0,1]),(.l [4,0,2,0,0,0])]
def arz:Fk:=⟨38,[FW,SF,bN,0,3,2,abR,abS,1,bN,bN,bN,bN,bN,UN,bN,bN,uY,G8,uY,0],[0,4,2,bN,bN,1,bN,bN,bN,bN,bN,UN,bN,bN,G8,G8,G8,0,4,1,0,1,0,2,0,0,bN,bN,ak8,(.b true)]⟩
def ajK:List Fk:=arz::ajJ
def arW:Fs ajK:=kZ arV (by kernel_rfl)
def ak9:Sc:= .l [(.l [0,4,2,bN,bN,1,bN,bN,bN,bN,bN,UN,bN,bN,G8,G8,G8,0])]
def arA:Fk:=⟨18,[FW,SF,bN,agw],[ak9,4,1,0,1,0,2,0,0,bN,ak8,(.b true)]⟩
def ajL:List Fk:=arA::ajK
def arX:Fs ajL:=kZ arW (by kernel_rfl)
def arB:Fk:=⟨8,[FW,SF,bN,Xe,20],[(.l [(.l [3,2,0,0,0,3,0,0,bN]),(.l [4,1,0,1,0,2,0,0,bN])]),(.l [(.l [3,0,1,0,0,0]),(.l [3,0,3,0,0,1]),(.l [4,0,16,0,0,1]),(.l [4,0,2,0,0,0])]),ak9,0]⟩
def ajM:List Fk:=arB::ajL
def arY:Fs ajM:=kZ arX (by kernel_rfl)
def arC:Fk:=⟨6,[],[(.b true)]⟩
def arD:List Fk:=arC::ajM
def arZ:Fs arD:=kZ arY (by kernel_rfl)
def UA:Gf 6 []=some [.b true]:=arZ _ (fc ..)
end Go.Proofs.YtnfambhakdnncaaGreatDoor
