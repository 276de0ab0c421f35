/-
  A part of the proof of TopIsolated: TdB, Frm, Kt0, Gm, KtJ, KtC, Ins, Del, KtI, Shf, KtS1, KtS, KtH, Kg0, KgZ, TcL, TcM, TdC.
-/
import Derived.Test.YtnfambhakdnncaaGreatDoorZ03
import Derived.Test.YtnfambhakdnncaaGreatDoorProg
import Derived.KernelRfl
import Derived.Room.Shelf.Join48
import Derived.WalkKit
import Derived.Deep.RegionLaw
import Derived.Laws.AppendOwn
import Derived.Maps.AppendAt
import Derived.Shelf.RegionOpenPlain
import Derived.Laws.Externs
import Derived.Lib.AppendZeros
import Derived.Lib.SliceRun
import Derived.Laws.CopyRow
import Derived.Lib.AppendZerosOnto
import Derived.Shelf.Spec.SlicesInsertGrow
import Derived.Shelf.SlSortCmp.WholeK
import Derived.Shelf.SlicesG.Cmp
import Derived.Ground.SlsfProg
import Derived.Ground.SlgcProg
import Derived.StillTailTactics
import Derived.Shelf.SlicesQ.Load
import Derived.Shelf.SlSortCmp.NoneTotal
namespace Go.Proofs.YtnfambhakdnncaaGreatDoor
set_option linter.all false
set_option maxRecDepth 1000000
set_option maxHeartbeats 80000000
open List Nat Int Go.RowKit
def yT:List Ty:=[.int,.str 4294967296,.bool,.nat,.ae 3,.aV 3,.ae 9,.aV 9,.ae 100,.ae 361,.ae 115,.ae 88,.aV 115,.ae 1027,.ae 63,.aV 1031,.aV 111,.aV 408,.ae 193,.ae 1016,.ae 200,.ae 1006,.ae 184,.aV 105,.ae 1015,.ae 1032,.ae 35,.aV 184,.aV 200,.ae 1020,.ae 1017,.ae 1019,.ae 1024,.aV 100,.aV 134,.aV 193,.aV 35,.ae 1021,.ae 1022,.ae 1023,.ae 111,.ae 408,.ae 1025,.aV 1001,.ae 105,.ae 134,.aV 63,.aV 88,.ae 373,.ae 137,.ae 76,.ae 208,.aV 126,.aV 361,.ae 223,.ae 67,.ae 283,.ae 213,.aV 1029,.ae 187,.ae 196,.ae 203,.aV 223,.ae 1018,.ae 173,.aV 187,.aV 196,.aV 203,.aV 208,.aV 67,.aV 213,.ae 270,.ae 1026,.ae 95,.aV 283,.ae 130,.aV 270,.ae 1028,.ae 1005,.aV 1006,.ae 126,.ae 377,.aV 377,.aV 1027,.aV 1002,.ae 109,.aV 137,.aV 173,.ae 107,.aV 95,.str 17179869184,.ae 1014,.ae 1035,.aV 1003,.aV 117,.ae 117,.ae 60,.ae 1034,.aV 109,.ae 185,.ae 1007,.aV 1010,.ae 1011,.aV 1013,.ae 51,.ae 1008,.ae 1036,.ae 1041,.ae 1042,.ae 1043,.ae 1044,.aV 1025,.aV 76]
def yN(n:Nat):Ty:=yT.getD n .any
def ys(l:bH):List Ty:=l.map yN
def tq(e:Ex):Fc:= .t e true
def iq(e:Ex)(f:Fc):Fc:= .imp e true f
def jq(e:Ex)(f:Fc):Fc:= .imp e false f
def Ee(x y:Ex):Ms:= .up x y true
def sq(k:Nat)(a:bH)(p:List Fc)(r:bH)(q:List Fc):Sp:=⟨k,ys a,p,ys r,q⟩
def lr(b:Nat)(t:bH)(i:List Fc)(m:Ms)(g:List (Nat×Nat)):LH:=⟨b,ys t,i,m,g⟩
def lq(b i:Nat)(t:bH)(x:Ex)(g:List (Nat×Nat)):LH:=lr b t [tq (az (.v (b+i)) (ao x))] (Ee (.v (b+i)) (ao x)) g
def aY:bH:=[0,0,0,0]
def Da:bH:=[1,10,22,18,20,6,6,6,6,6,14]
def PO:bH:=[27,35,28,7,7,7,7,7,46,16,17]
def ed:bH:=[0,1,0,8]
def ao9:bH:=[24,19,30,63,31,29,37,38,39,32]
def aim:bH:=[0,0,0,11,54,0,4,59,60,61,55,51,56,57,4,4,4]
def apa:bH:=[0,0,0,47,62,0,5,65,66,67,69,68,74,70,5,5,5]
def I9:bH:=[1,12,36,34]
def Db:bH:=[0,2,9,9,0]
def V9:bH:=[25,0,0,11,13]
def afU:bH:=[1,10,26,45]
def I8:bH:=[0,0,4,48,4,0,0]
def aav:bH:=[37,38,39,15,1,25,0,0,0,24,19,30,31]
def vJ:bH:=[0,0,0,2]
def aaw:bH:=[24,29,42,1,25,0,0,0,19,30,31]
def nB:Sp:=⟨4,[(.str 4294967296),(.aV 115),(.aV 35),(.aV 134)],[],[.bool],[]⟩
def jN:Sp:=⟨5,[(.aV 117),.int,.bool,.int],[],[.bool],[]⟩
def pe:Sp:=⟨13,[(.str 4294967296),(.ae 115),(.ae 35),(.ae 134),(.ae 117)],[],[(.str 4294967296),(.ae 115),(.ae 35),(.ae 134),.int],[]⟩
def wO:Sp:=⟨15,[(.str 4294967296),(.ae 126),(.ae 137),.int,.bool],[],[(.ae 76),.int],[]⟩
def nC:Sp:=⟨16,[(.str 4294967296),(.aV 126),(.ae 137),(.ae 76)],[],[.int],[]⟩
def jA:Sp:=⟨18,[(.str 4294967296),(.aV 126),(.ae 137),(.ae 76)],[],[(.ae 76),.int,.int,.int,.int,.int,.int,.int,.int,(.ae 3),(.ae 95),.bool],[]⟩
def mj:Sp:=⟨22,[(.str 4294967296),(.ae 115),(.ae 35),(.ae 134)],[],[.int],[]⟩
def rz:Sp:=⟨23,[(.ae 115)],[],[(.ae 115)],[(.grow (.v 1) (.v 0) 0),(.t (.o .eq (.u .len (.v 1)) (.u .len (.v 0))) true)]⟩
def nz:Sp:=⟨29,[(.str 4294967296),(.ae 115),(.ae 35),(.ae 134)],[],[(.str 4294967296),(.ae 115),(.ae 35),(.ae 134),.int],[]⟩
def pS:Sp:=⟨30,[(.ae 63)],[],[(.ae 63)],[(.grow (.v 1) (.v 0) 0),(.t (.o .eq (.u .len (.v 1)) (.u .len (.v 0))) true)]⟩
def pg:Sp:=⟨33,[(.str 4294967296),(.aV 126),(.ae 137)],[],[.int],[]⟩
def AH:Sp:=⟨35,[(.str 4294967296),(.aV 126),(.ae 137),.int,.int,.int,(.aV 88),(.aV 223),.int,(.aV 3),(.aV 187),(.aV 196),(.aV 203),(.aV 67),(.aV 208),(.aV 283),(.aV 213),(.aV 3),(.aV 3),(.aV 3),.int],[],[.int],[]⟩
def eN:Sp:=⟨37,[.int,.int,.int,(.aV 88),(.aV 223),.int,(.aV 3),(.aV 187),(.aV 196),(.aV 203),(.aV 67),(.aV 208),(.aV 283),(.aV 213),(.aV 3),(.aV 3),(.aV 3),.int],[],[.int,.int,.int,.int,.int,.int,.int,.int,(.ae 3),.bool],[]⟩
def dU:Sp:=⟨38,[(.str 4294967296),(.aV 126),(.ae 137),.int,.int,.int,(.ae 88),(.ae 223),.int,(.ae 3),(.ae 187),(.ae 196),(.ae 203),(.ae 67),(.ae 208),(.ae 283),(.ae 213),(.ae 3),(.ae 3),(.ae 3),.int],[],[.int,.int,.int,(.ae 88),(.ae 223),.int,(.ae 3),(.ae 187),(.ae 196),(.ae 203),(.ae 67),(.ae 208),(.ae 283),(.ae 213),(.ae 3),(.ae 3),(.ae 3),.int,.int,.int,.int,.int,.int,.int,.int,.int,(.ae 3),(.ae 88),(.ae 95),.bool],[]⟩
def ru:Sp:=⟨39,[(.ae 76)],[],[(.ae 76)],[(.grow (.v 1) (.v 0) 0),(.t (.o .eq (.u .len (.v 1)) (.u .len (.v 0))) true)]⟩
def sN:Sp:=⟨44,[.int,.int],[],[.int],[]⟩
def xx:Sp:=⟨48,[(.str 4294967296),(.ae 115),(.ae 35),(.ae 134),.int,(.ae 1006),(.ae 105)],[],[.int],[]⟩
def oF:Sp:=⟨51,[(.ae 35)],[],[(.ae 35)],[(.grow (.v 1) (.v 0) 0),(.t (.o .eq (.u .len (.v 1)) (.u .len (.v 0))) true)]⟩
def ff:Sp:=⟨54,[(.ae 60)],[(.t (.o .le (.u .len (.v 0)) (.i 4)) true)],[(.ae 1006)],[]⟩
def bK:Sp:=⟨75,[(.str 4294967296),(.aV 115),(.aV 184),(.aV 193),(.aV 200),(.aV 9),(.aV 9),(.aV 9),(.aV 9),(.aV 9),(.aV 63),(.aV 111),(.aV 408),.int,.int,.int,(.aV 88),(.aV 223),.int,(.aV 3),(.aV 187),(.aV 196),(.aV 203),(.aV 67),(.aV 208),(.aV 283),(.aV 213),(.aV 3),(.aV 3),(.aV 3),.int],[],[.bool],[(.imp (.v 31) true (.t (.o .eq (.u .len (.v 19)) (.u .len (.v 1))) true)),(.imp (.v 31) true (.t (.o .eq (.u .len (.v 20)) (.u .len (.v 2))) true)),(.imp (.v 31) true (.t (.o .eq (.u .len (.v 21)) (.u .len (.v 3))) true)),(.imp (.v 31) true (.t (.o .eq (.u .len (.v 22)) (.u .len (.v 4))) true)),(.imp (.v 31) true (.t (.o .eq (.u .len (.v 23)) (.u .len (.v 5))) true)),(.imp (.v 31) true (.t (.o .eq (.u .len (.v 24)) (.u .len (.v 6))) true)),(.imp (.v 31) true (.t (.o .eq (.u .len (.v 25)) (.u .len (.v 7))) true)),(.imp (.v 31) true (.t (.o .eq (.u .len (.v 26)) (.u .len (.v 8))) true)),(.imp (.v 31) true (.t (.o .eq (.u .len (.v 27)) (.u .len (.v 9))) true)),(.imp (.v 31) true (.t (.o .eq (.u .len (.v 28)) (.u .len (.v 10))) true)),(.imp (.v 31) true (.t (.o .eq (.u .len (.v 29)) (.u .len (.v 10))) true))]⟩
def vH:Sp:=⟨78,[(.str 4294967296),(.aV 115),(.aV 184),(.aV 193),(.aV 200),(.aV 9),(.aV 9),(.aV 9),(.aV 9),(.aV 9),(.aV 63),(.aV 111),(.aV 408),(.ae 130),(.aV 223)],[],[.int],[(.imp (.o .eq (.v 15) (.i 0)) true (.t (.o .le (.u .len (.v 14)) (.i 300)) true))]⟩
def zf:Sp:=⟨81,[(.aV 88)],[],[.int,.int,.int,.int,.int,.int,.int,.int,(.ae 3),(.ae 88),.bool],[]⟩
def cP:Sp:=⟨82,[(.ae 1015),(.ae 1016),(.ae 1017),(.ae 1018),(.ae 1019),(.ae 1020),(.ae 1021),(.ae 1022),(.ae 1023),(.ae 1024),(.ae 1024),(.aV 1029),(.aV 1031),(.str 4294967296),(.ae 115),(.ae 1014),(.ae 193),(.ae 200),(.ae 9),(.ae 9),(.ae 9),(.ae 9),(.ae 9),(.ae 63),(.ae 111),(.ae 408),(.ae 1026),(.ae 1032),.int,.int,(.ae 88),(.ae 1027),.int,.int,.int,.int,.int,(.aV 3),.int,.int,.int,.bool,.int,.int,.int,.int,.int,.int,.int,.int,(.ae 3)],[(.t (.o .le (.u .len (.v 12)) (.i 0)) true),(.t (.o .le (.u .len (.v 11)) (.i 0)) true),(.t (.o .le (.u .len (.v 31)) (.i 300)) true),(.t (.o .eq (.u .len (.v 1)) (.u .len (.v 15))) true),(.t (.o .le (.i 0) (.v 48)) true),(.rel 6 [(.v 26)])],[(.ae 1015),(.ae 1016),(.ae 1017),(.ae 1018),(.ae 1019),(.ae 1020),(.ae 1021),(.ae 1022),(.ae 1023),(.ae 1024),(.ae 1024),(.aV 1029),(.aV 1031),.int,.int,(.ae 88),(.ae 1027),.int,.int,.int,.int,.int,(.aV 3),.int,.int,.int,.bool],[(.t (.o .le (.u .len (.v 67)) (.i 320)) true),(.t (.o .le (.u .len (.v 63)) (.i 400000000)) true),(.t (.o .le (.u .len (.v 62)) (.i 1000)) true)]⟩
def AG:Sp:=⟨90,[(.str 4294967296),(.aV 115),(.aV 184),(.aV 193),(.aV 200),(.aV 9),(.ae 9),(.aV 9),(.aV 9),(.aV 9),(.aV 63),(.aV 111),(.aV 408)],[],[.int],[(.imp (.o .eq (.v 13) (.i 0)) true (.t (.o .le (.u .len (.v 2)) (.i 32)) true))]⟩
def aK:Sp:=⟨106,[(.str 4294967296),(.ae 126),(.ae 137),.int,(.str 4294967296),.int,.int,(.ae 173),.int,.int,.int,.int,.int,(.str 4294967296),.int,(.ae 100),.int,(.str 4294967296),.int,(.ae 100),(.ae 100),.int,.int,.int,.int,(.ae 3),(.ae 3),.bool],[(.t (.o .le (.i 0) (.v 3)) true),(.t (.o .lt (.v 3) (.u .len (.v 1))) true)],[.int],[(.imp (.o .eq (.v 28) (.i 0)) true (.imp (.o .eq (.v 8) (.i 1)) true (.t (.o .le (.i 0) (.v 9)) true))),(.imp (.o .eq (.v 28) (.i 0)) true (.imp (.o .eq (.v 8) (.i 1)) true (.t (.o .lt (.v 9) (.v 6)) true))),(.imp (.o .eq (.v 28) (.i 0)) true (.imp (.o .eq (.v 8) (.i 2)) true (.t (.o .le (.i 0) (.v 9)) true))),(.imp (.o .eq (.v 28) (.i 0)) true (.imp (.o .eq (.v 8) (.i 2)) true (.t (.o .lt (.v 9) (.u .len (.u (.cell 1) (.o .idx (.v 1) (.v 3))))) true))),(.imp (.o .eq (.v 28) (.i 0)) true (.imp (.o .eq (.v 8) (.i 3)) true (.t (.o .le (.i 0) (.v 9)) true))),(.imp (.o .eq (.v 28) (.i 0)) true (.imp (.o .eq (.v 8) (.i 3)) true (.t (.o .lt (.v 9) (.v 6)) true))),(.imp (.o .eq (.v 28) (.i 0)) true (.imp (.o .eq (.v 8) (.i 3)) true (.t (.o .le (.i 0) (.v 10)) true))),(.imp (.o .eq (.v 28) (.i 0)) true (.imp (.o .eq (.v 8) (.i 3)) true (.t (.o .lt (.v 10) (.u .len (.u (.cell 6) (.o .idx (.v 1) (.v 3))))) true))),(.imp (.o .eq (.v 28) (.i 0)) true (.imp (.o .eq (.v 8) (.i 7)) true (.t (.o .le (.i 0) (.v 9)) true))),(.imp (.o .eq (.v 28) (.i 0)) true (.imp (.o .eq (.v 8) (.i 7)) true (.t (.o .lt (.v 9) (.u .len (.u (.cell 2) (.o .idx (.v 1) (.v 3))))) true))),(.imp (.o .eq (.v 28) (.i 0)) true (.imp (.o .eq (.v 8) (.i 8)) true (.t (.o .le (.i 0) (.v 9)) true))),(.imp (.o .eq (.v 28) (.i 0)) true (.imp (.o .eq (.v 8) (.i 8)) true (.t (.o .lt (.v 9) (.u .len (.u (.cell 2) (.o .idx (.v 1) (.v 3))))) true))),(.imp (.o .eq (.v 28) (.i 0)) true (.imp (.o .eq (.v 8) (.i 9)) true (.t (.o .le (.i 0) (.v 9)) true))),(.imp (.o .eq (.v 28) (.i 0)) true (.imp (.o .eq (.v 8) (.i 9)) true (.t (.o .lt (.v 9) (.u .len (.u (.cell 3) (.o .idx (.v 1) (.v 3))))) true))),(.imp (.o .eq (.v 28) (.i 0)) true (.imp (.o .eq (.v 8) (.i 10)) true (.t (.o .le (.i 0) (.v 9)) true))),(.imp (.o .eq (.v 28) (.i 0)) true (.imp (.o .eq (.v 8) (.i 10)) true (.t (.o .lt (.v 9) (.u .len (.u (.cell 3) (.o .idx (.v 1) (.v 3))))) true))),(.imp (.o .eq (.v 28) (.i 0)) true (.imp (.o .eq (.v 8) (.i 10)) true (.t (.o .le (.i 0) (.v 10)) true))),(.imp (.o .eq (.v 28) (.i 0)) true (.imp (.o .eq (.v 8) (.i 10)) true (.t (.o .lt (.v 10) (.v 6)) true))),(.imp (.o .eq (.v 28) (.i 0)) true (.imp (.o .eq (.v 8) (.i 11)) true (.t (.o .le (.i 0) (.v 9)) true))),(.imp (.o .eq (.v 28) (.i 0)) true (.imp (.o .eq (.v 8) (.i 11)) true (.t (.o .lt (.v 9) (.u .len (.u (.cell 4) (.o .idx (.v 1) (.v 3))))) true))),(.imp (.o .eq (.v 28) (.i 0)) true (.imp (.o .eq (.v 8) (.i 12)) true (.t (.o .le (.i 0) (.v 9)) true))),(.imp (.o .eq (.v 28) (.i 0)) true (.imp (.o .eq (.v 8) (.i 12)) true (.t (.o .lt (.v 9) (.u .len (.u (.cell 5) (.o .idx (.v 1) (.v 3))))) true))),(.imp (.o .eq (.v 28) (.i 0)) true (.imp (.o .eq (.v 8) (.i 13)) true (.t (.o .le (.i 0) (.v 9)) true))),(.imp (.o .eq (.v 28) (.i 0)) true (.imp (.o .eq (.v 8) (.i 13)) true (.t (.o .lt (.v 9) (.u .len (.u (.cell 5) (.o .idx (.v 1) (.v 3))))) true))),(.imp (.o .eq (.v 28) (.i 0)) true (.imp (.o .eq (.v 8) (.i 14)) true (.t (.o .le (.i 0) (.v 9)) true))),(.imp (.o .eq (.v 28) (.i 0)) true (.imp (.o .eq (.v 8) (.i 14)) true (.t (.o .lt (.v 9) (.u .len (.v 1))) true))),(.imp (.o .eq (.v 28) (.i 0)) true (.imp (.o .eq (.v 8) (.i 16)) true (.t (.o .le (.i 0) (.v 9)) true))),(.imp (.o .eq (.v 28) (.i 0)) true (.imp (.o .eq (.v 8) (.i 16)) true (.t (.o .lt (.v 9) (.u .len (.u (.cell 7) (.o .idx (.v 1) (.v 3))))) true))),(.imp (.o .eq (.v 28) (.i 0)) true (.imp (.o .eq (.v 8) (.i 17)) true (.t (.o .le (.i 0) (.v 9)) true))),(.imp (.o .eq (.v 28) (.i 0)) true (.imp (.o .eq (.v 8) (.i 17)) true (.t (.o .lt (.v 9) (.u .len (.u (.cell 8) (.o .idx (.v 1) (.v 3))))) true))),(.imp (.o .eq (.v 28) (.i 0)) true (.imp (.o .eq (.v 8) (.i 18)) true (.t (.o .le (.i 0) (.v 9)) true))),(.imp (.o .eq (.v 28) (.i 0)) true (.imp (.o .eq (.v 8) (.i 18)) true (.t (.o .lt (.v 9) (.u .len (.u (.cell 9) (.o .idx (.v 1) (.v 3))))) true)))]⟩
def uv:Sp:=⟨115,[(.ae 1025)],[],[(.ae 1025)],[(.grow (.v 1) (.v 0) 0),(.t (.o .eq (.u .len (.v 1)) (.u .len (.v 0))) true)]⟩
def gW:Sp:=⟨115,[(.ae 3)],[],[(.ae 3)],[(.grow (.v 1) (.v 0) 0),(.t (.o .eq (.u .len (.v 1)) (.u .len (.v 0))) true)]⟩
def oE:Sp:=⟨116,[(.ae 187)],[],[(.ae 187)],[(.grow (.v 1) (.v 0) 0),(.t (.o .eq (.u .len (.v 1)) (.u .len (.v 0))) true)]⟩
def rx:Sp:=⟨117,[(.ae 196)],[],[(.ae 196)],[(.grow (.v 1) (.v 0) 0),(.t (.o .eq (.u .len (.v 1)) (.u .len (.v 0))) true)]⟩
def sr:Sp:=⟨118,[(.ae 203)],[],[(.ae 203)],[(.grow (.v 1) (.v 0) 0),(.t (.o .eq (.u .len (.v 1)) (.u .len (.v 0))) true)]⟩
def qx:Sp:=⟨119,[(.ae 67)],[],[(.ae 67)],[(.grow (.v 1) (.v 0) 0),(.t (.o .eq (.u .len (.v 1)) (.u .len (.v 0))) true)]⟩
def qw:Sp:=⟨120,[(.ae 208)],[],[(.ae 208)],[(.grow (.v 1) (.v 0) 0),(.t (.o .eq (.u .len (.v 1)) (.u .len (.v 0))) true)]⟩
def ry:Sp:=⟨121,[(.ae 283)],[],[(.ae 283)],[(.grow (.v 1) (.v 0) 0),(.t (.o .eq (.u .len (.v 1)) (.u .len (.v 0))) true)]⟩
def rj:Sp:=⟨122,[(.ae 213)],[],[(.ae 213)],[(.grow (.v 1) (.v 0) 0),(.t (.o .eq (.u .len (.v 1)) (.u .len (.v 0))) true)]⟩
def iH:Sp:=⟨135,[(.str 4294967296),(.aV 115),(.aV 184),(.aV 193),(.aV 200),(.aV 9),(.aV 9),(.aV 9),(.aV 9),(.aV 9),(.aV 63),(.aV 111),(.aV 408),(.ae 130),.int,.int,.int,(.ae 3),.int,.int,.int],[],[.int],[(.imp (.o .eq (.v 21) (.i 0)) true (.t (.o .le (.i 0) (.v 15)) true)),(.imp (.o .eq (.v 21) (.i 0)) true (.t (.o .lt (.v 15) (.u .len (.v 13))) true)),(.imp (.o .eq (.v 21) (.i 0)) true (.t (.o .eq (.u .len (.v 17)) (.u (.cell 2) (.o .idx (.v 13) (.v 15)))) true))]⟩
def qI:Sp:=⟨139,[(.ae 223),.int],[],[.int],[(.t (.o .lt (.v 2) (.u .len (.v 0))) true)]⟩
def gD:Sp:=⟨139,[(.ae 223),.int],[(.rel 101 [(.v 1),(.v 0)])],[.int],[(.t (.o .lt (.v 2) (.u .len (.v 0))) true),(.t (.o .le (.i 0) (.v 2)) true)]⟩
def bz:Sp:=⟨140,[(.ae 1015),(.ae 1016),(.ae 1017),(.ae 1018),(.ae 1019),(.ae 1020),(.ae 1021),(.ae 1022),(.ae 1023),(.ae 1024),(.aV 1029),(.aV 1031),(.str 4294967296),(.ae 1026),(.ae 1032),.int,.int,(.ae 88),(.ae 1027),.int,.int,.int,(.ae 1034),.int,(.ae 1025),.int,.int,.int,.bool],[(.t (.o .le (.u .len (.v 11)) (.i 10)) true),(.t (.o .le (.u .len (.v 10)) (.i 0)) true),(.t (.o .le (.u .len (.v 18)) (.i 310)) true),(.ty (.u (.cell 3) (.o .idx (.v 13) (.v 22))) (.ae 1033)),(.rel 6 [(.v 13)])],[(.ae 1015),(.ae 1016),(.ae 1017),(.ae 1018),(.ae 1019),(.ae 1020),(.ae 1021),(.ae 1022),(.ae 1023),(.ae 1024),(.aV 1029),(.aV 1031),.int,(.ae 88),(.ae 1027),.int,.int,(.ae 1025),.int,.int,.bool],[(.t (.o .le (.u .len (.v 43)) (.i 320)) true),(.t (.o .le (.u .len (.v 40)) (.i 400000000)) true),(.t (.o .le (.u .len (.v 39)) (.i 1000)) true)]⟩
def ba:Sp:=⟨140,[(.ae 1015),(.ae 1016),(.ae 1017),(.ae 1018),(.ae 1019),(.ae 1020),(.ae 1021),(.ae 1022),(.ae 1023),(.ae 1024),(.aV 1029),(.aV 1031),(.str 4294967296),(.ae 1026),(.ae 1032),.int,.int,(.ae 88),(.ae 1027),.int,.int,.int,(.ae 1028),.int,(.ae 3),.int,.int,.int,.bool],[(.t (.o .le (.u .len (.v 11)) (.i 10)) true),(.t (.o .le (.u .len (.v 10)) (.i 0)) true),(.t (.o .le (.u .len (.v 18)) (.i 310)) true),(.rel 0 [(.v 22),(.v 24)]),(.rel 6 [(.v 13)])],[(.ae 1015),(.ae 1016),(.ae 1017),(.ae 1018),(.ae 1019),(.ae 1020),(.ae 1021),(.ae 1022),(.ae 1023),(.ae 1024),(.aV 1029),(.aV 1031),.int,(.ae 88),(.ae 1027),.int,.int,(.aV 3),.int,.int,.bool],[(.t (.o .le (.u .len (.v 43)) (.i 320)) true),(.t (.o .le (.u .len (.v 40)) (.i 400000000)) true),(.t (.o .le (.u .len (.v 39)) (.i 1000)) true)]⟩
def fO:Sp:=⟨189,[(.ae 173),.int],[],[(.ae 173)],[]⟩
def fX:Sp:=⟨190,[(.str 4294967296),(.ae 115),(.ae 35),(.ae 134),(.ae 115),(.ae 1006),(.str 4294967296),(.ae 115),(.ae 184),(.ae 193),(.ae 200),(.ae 9),(.ae 9),(.ae 9),(.ae 9),(.ae 9),(.ae 63),(.ae 111),(.ae 408),.int,.int,(.str 4294967296),(.str 4294967296),.int,(.str 4294967296),.int,(.ae 100),.int,(.str 4294967296),.int,(.ae 100),(.ae 100),.int,.int,.int,.int,(.ae 3),(.ae 3),.bool,(.aV 105),(.aV 105)],[(.t (.o .eq (.v 20) (.i 3)) false),(.t (.o .eq (.v 20) (.i 4)) false),(.t (.o .eq (.v 20) (.i 13)) false)],[(.ae 173),.int],[(.t (.o .le (.u .len (.v 41)) (.i 1)) true)]⟩
def mh:Sp:=⟨198,[.int,.int,.int,.int,(.ae 3),(.ae 3)],[],[.int],[(.imp (.o .eq (.v 6) (.i 0)) true (.imp (.o .eq (.v 0) (.i 5)) true (.t (.o .le (.i 1) (.v 1)) true))),(.imp (.o .eq (.v 6) (.i 0)) true (.imp (.o .eq (.v 0) (.i 5)) true (.t (.o .le (.v 1) (.i 1000)) true))),(.imp (.o .eq (.v 6) (.i 0)) true (.imp (.o .eq (.v 0) (.i 5)) true (.t (.o .le (.i 1) (.v 2)) true))),(.imp (.o .eq (.v 6) (.i 0)) true (.imp (.o .eq (.v 0) (.i 5)) true (.t (.o .le (.v 2) (.i 1000)) true))),(.imp (.o .eq (.v 6) (.i 0)) true (.imp (.o .eq (.v 0) (.i 4)) true (.t (.o .le (.v 3) (.i 20)) true))),(.imp (.o .eq (.v 6) (.i 0)) true (.imp (.o .eq (.v 0) (.i 3)) true (.t (.o .eq (.u .len (.v 4)) (.u .len (.v 5))) true))),(.imp (.o .eq (.v 6) (.i 0)) true (.imp (.o .eq (.v 0) (.i 3)) true (.t (.o .le (.u .len (.v 4)) (.i 20)) true)))]⟩
def qH:Sp:=⟨199,[.int,.int,.int,.int,.int,.int,.int,.int,(.aV 3)],[],[.int],[(.imp (.o .eq (.v 9) (.i 0)) true (.t (.o .le (.i 0) (.v 6)) true))]⟩
def qC:Sp:=⟨201,[(.ae 88),.int,(.ae 88)],[(.t (.o .le (.i 0) (.v 1)) true),(.t (.o .le (.v 1) (.u .len (.v 0))) true),(.t (.o .le (.u .len (.v 2)) (.i 1)) true),(.t (.o .le (.i 1) (.u .len (.v 2))) true)],[(.aV 88)],[(.grow (.v 3) (.v 0) 1),(.t (.o .le (.u .len (.v 2)) (.u .len (.v 3))) true)]⟩
def rh:Sp:=⟨202,[(.ae 88)],[],[(.ae 88)],[(.grow (.v 1) (.v 0) 0),(.t (.o .eq (.u .len (.v 1)) (.u .len (.v 0))) true)]⟩
def jo:Sp:=⟨206,[(.ae 185)],[(.t (.o .le (.u .len (.v 0)) (.i 4)) true)],[(.ae 1007)],[]⟩
def sO:Sp:=⟨229,[(.str 4294967296),(.aV 115),(.aV 184),(.aV 193),(.aV 200),(.aV 9),(.aV 9),(.aV 9),(.aV 9),(.aV 9),(.aV 63),(.aV 111),(.aV 408),(.ae 130),.int,(.aV 3),.int,.int],[],[.int,.int,.int,(.ae 3),.int,.int,.int,.int],[]⟩
def kQ:Sp:=⟨229,[(.str 4294967296),(.ae 115),(.ae 184),(.ae 193),(.ae 200),(.ae 9),(.ae 9),(.ae 9),(.ae 9),(.ae 9),(.ae 63),(.ae 111),(.ae 408),(.ae 1026),.int,(.ae 3),.int,.int],[(.rel 6 [(.v 13)])],[.int,.int,.int,(.ae 3),.int,.int,.int,.int],[(.imp (.o .eq (.v 25) (.i 0)) true (.ty (.v 14) (.ae 1028))),(.imp (.o .eq (.v 25) (.i 0)) true (.ty (.v 19) (.ae 1028))),(.imp (.o .eq (.v 25) (.i 0)) true (.rel 0 [(.v 19),(.v 21)]))]⟩
def nA:Sp:=⟨230,[(.ae 1027),.int,(.ae 1028),.int,(.ae 3),.int,.int,.int],[(.rel 0 [(.v 2),(.v 4)]),(.rel 101 [(.v 1),(.v 0)])],[(.ae 1027)],[(.grow (.v 8) (.v 0) 0)]⟩
def iG:Sp:=⟨243,[(.str 4294967296),(.aV 115),(.aV 184),(.aV 193),(.aV 200),(.aV 9),(.aV 9),(.aV 9),(.aV 9),(.aV 9),(.ae 63),(.aV 111),(.aV 408),(.str 4294967296)],[],[.int],[(.t (.o .lt (.v 14) (.u .len (.v 10))) true)]⟩
def ri:Sp:=⟨270,[(.ae 173)],[],[(.ae 173)],[(.grow (.v 1) (.v 0) 0),(.t (.o .eq (.u .len (.v 1)) (.u .len (.v 0))) true)]⟩
def dX:Sp:=⟨271,[(.str 4294967296),(.aV 115),(.aV 35),(.aV 134),(.aV 115),(.aV 1006),(.str 4294967296),(.ae 115),(.ae 184),(.ae 193),(.ae 200),(.ae 9),(.ae 9),(.ae 9),(.ae 9),(.ae 9),(.ae 63),(.aV 111),(.aV 408),.int,(.str 4294967296)],[],[.int,.int],[]⟩
def dr:Sp:=⟨276,[(.str 4294967296),(.ae 115),(.ae 35),(.ae 134),(.ae 115),(.ae 1006),(.str 4294967296),(.ae 115),(.ae 184),(.ae 193),(.ae 200),(.ae 9),(.ae 9),(.ae 9),(.ae 9),(.ae 9),(.ae 63),(.ae 111),(.ae 408),.int,.int,(.str 4294967296),.int,(.ae 100)],[],[.int,(.str 4294967296),.int,(.ae 100),.int],[]⟩
def dW:Sp:=⟨277,[(.str 4294967296),(.ae 115),(.ae 35),(.ae 134),(.ae 115),(.ae 1006),(.str 4294967296),(.ae 115),(.ae 184),(.ae 193),(.ae 200),(.ae 9),(.ae 9),(.ae 9),(.ae 9),(.ae 9),(.ae 63),(.ae 111),(.ae 408),.int,(.ae 100)],[],[(.ae 100),.int],[]⟩
def zg:Sp:=⟨285,[.int,.int,.int,.int,(.aV 3),(.aV 3)],[],[.bool],[]⟩
def dt:Sp:=⟨297,[(.ae 1005),.int],[(.rel 100 [(.v 1),(.v 0)])],[.int],[(.t (.o .lt (.v 2) (.u .len (.v 0))) true),(.t (.o .le (.i 0) (.v 2)) true)]⟩
def sw:Sp:=⟨300,[(.ae 1027)],[],[(.ae 1027)],[(.grow (.v 1) (.v 0) 0),(.t (.o .eq (.u .len (.v 1)) (.u .len (.v 0))) true)]⟩
def rA:Sp:=⟨302,[(.ae 1027),.int,(.ae 1027)],[(.t (.o .le (.i 0) (.v 1)) true),(.t (.o .le (.v 1) (.u .len (.v 0))) true),(.t (.o .le (.u .len (.v 2)) (.i 1)) true),(.t (.o .le (.i 1) (.u .len (.v 2))) true)],[(.aV 1027)],[(.grow (.v 3) (.v 0) 1),(.t (.o .le (.u .len (.v 2)) (.u .len (.v 3))) true)]⟩
def rg:Sp:=⟨307,[(.ae 361)],[],[(.ae 361)],[(.grow (.v 1) (.v 0) 0),(.t (.o .eq (.u .len (.v 1)) (.u .len (.v 0))) true)]⟩
def mb:Sp:=⟨319,[(.str 4294967296),(.aV 115),(.aV 35),(.ae 134),(.str 4294967296),(.str 4294967296)],[],[.int,.bool],[]⟩
def AE:Sp:=⟨332,[.int,.int],[],[.int],[]⟩
def iD:Sp:=⟨333,[.int,.int,.int,.int,(.aV 3),(.aV 3),.int],[(.t (.o .eq (.u .len (.v 4)) (.u .len (.v 5))) true),(.t (.o .le (.u .len (.v 4)) (.i 20)) true)],[.int],[]⟩
def fN:Sp:=⟨334,[.int,.int,.int,.int,(.aV 3),(.aV 3),.int],[(.t (.o .le (.i 1) (.v 1)) true),(.t (.o .le (.v 1) (.i 1000)) true),(.t (.o .le (.i 1) (.v 2)) true),(.t (.o .le (.v 2) (.i 1000)) true)],[.int],[]⟩
def qB:Sp:=⟨343,[(.ae 361),.int,(.ae 361)],[(.t (.o .le (.i 0) (.v 1)) true),(.t (.o .le (.v 1) (.u .len (.v 0))) true),(.t (.o .le (.u .len (.v 2)) (.i 1)) true),(.t (.o .le (.i 1) (.u .len (.v 2))) true)],[(.aV 361)],[(.grow (.v 3) (.v 0) 1),(.t (.o .le (.u .len (.v 2)) (.u .len (.v 3))) true)]⟩
def zh:Sp:=⟨355,[.int,.int,.int,.int,(.aV 3),(.ae 3)],[],[.int],[]⟩
def qA:Sp:=⟨426,[(.ae 361),.int,.int],[(.t (.o .le (.i 0) (.v 1)) true),(.t (.o .le (.v 1) (.v 2)) true),(.t (.o .le (.v 2) (.u .len (.v 0))) true)],[(.ae 361)],[(.grow (.v 3) (.v 0) 0)]⟩
def cX:Sp:=⟨428,[(.str 4294967296),(.ae 1026),(.ae 1032),.int,.int,(.ae 1027),.int,.int,.int,.int,.int,.int,.int,.int,.bool,.int,.int],[(.rel 6 [(.v 1)])],[(.aV 1027)],[(.grow (.v 17) (.v 5) 0)]⟩
def lg:Sp:=⟨439,[(.aV 1010)],[(.t (.o .le (.u .len (.v 0)) (.i 4)) true)],[(.ae 1011)],[]⟩
def lh:Sp:=⟨439,[(.ae 67)],[(.t (.o .le (.u .len (.v 0)) (.i 4)) true)],[(.ae 1005)],[]⟩
def jp:Sp:=⟨444,[(.aV 1013)],[(.t (.o .le (.u .len (.v 0)) (.i 2)) true)],[(.ae 88)],[]⟩
def jr:Sp:=⟨444,[(.ae 51)],[(.t (.o .le (.u .len (.v 0)) (.i 4)) true)],[(.ae 1008)],[]⟩
def rm:Sp:=⟨445,[(.ae 373)],[],[(.ae 373)],[(.grow (.v 1) (.v 0) 0),(.t (.o .eq (.u .len (.v 1)) (.u .len (.v 0))) true)]⟩
def du:Sp:=⟨442000440,[(.ae 361)],[],[(.ae 361)],[(.grow (.v 1) (.v 0) 0)]⟩
def cG:List LH:=[lq 33 0 [3] 32 [],lq 32 0 [3] 31 [],lq 35 0 [3] 34 []]
def yI:List LH:=[lq 10 0 [3] 0 []]
def dZ:List LH:=[lr 30 [3,24,29,0,42,0,0,58,15,37,38,39,19,32,2,30,31,11,13] [(tq (az 30 (.i 500))),(tq (cn (ao 45) (ao 2))),(tq (cn (ao 46) (ao 4)))] (Ee 30 (.i 500)) [(7,1),(8,3000),(12,0),(13,0),(15,0),(16,0),(18,0)],lq 52 1 [5,3] 51 [(0,1)],lq 62 0 [3,15,11,13] 60 [(1,1),(3,0)],lq 71 0 [3] 59 [],lq 61 0 [3,0,0,15,11,13] 58 [(3,1),(5,0)],lq 61 0 [3,0,0,15,11,83] 58 [(3,1),(5,0)],lq 53 0 [3,0,0,11,13] 50 [(4,0)]]
def S0:List Sp:=[rz,pS,ru,oF,uv,gW,oE,rx,sr,qx,qw,ry,rj,qC,rh,ri,sw,rA,rg,qB,qA,rm,du]
def exL(l:bZ):Ex:=l.foldr (fun x r=> .o .cons x r) .nil
def QC(ρ:ab):∀l:bZ,(exL l).ev ρ= .l (l.map (Ex.ev ρ))
 |[]=>rfl|x::r=>by show U2.ev .cons (x.ev ρ) ((exL r).ev ρ)=_;rw[QC ρ r];rfl
def DA:List bZ:=[[.s [],.i 0,.i 0,.b false,.b false,.b false,.b false,.b false,.b false],[.s [115,108,111,116],.i 1,.i 0,.b false,.b true,.b false,.b false,.b false,.b false],[.s [118,97,114],.i 2,.i 0,.b false,.b true,.b false,.b false,.b false,.b false],[.s [100,114,97,119],.i 1,.i 3,.b false,.b false,.b false,.b false,.b true,.b false],[.s [106,117,109,112],.i 4,.i 0,.b false,.b false,.b false,.b false,.b false,.b false],[.s [98,114,97,110,99,104],.i 4,.i 0,.b false,.b true,.b false,.b false,.b false,.b false],[.s [104,111,108,100],.i 0,.i 0,.b false,.b true,.b false,.b false,.b false,.b false],[.s [115,101,105,122,101],.i 5,.i 0,.b false,.b true,.b true,.b false,.b false,.b true],[.s [114,101,108,101,97,115,101],.i 5,.i 0,.b false,.b true,.b false,.b false,.b false,.b false],[.s [112,117,116],.i 6,.i 0,.b false,.b true,.b false,.b false,.b false,.b false],[.s [103,101,116],.i 6,.i 1,.b false,.b false,.b false,.b false,.b false,.b false],[.s [114,105,100,101],.i 7,.i 0,.b false,.b false,.b false,.b false,.b false,.b false],[.s [119,97,105,116],.i 8,.i 0,.b false,.b false,.b false,.b false,.b false,.b false],[.s [115,105,103,110,97,108],.i 8,.i 0,.b false,.b true,.b false,.b false,.b false,.b false],[.s [115,101,110,100],.i 9,.i 10,.b true,.b true,.b false,.b true,.b false,.b false],[.s [115,112,97,119,110],.i 0,.i 10,.b false,.b true,.b false,.b true,.b false,.b false],[.s [111,98,115,101,114,118,101],.i 11,.i 0,.b false,.b true,.b false,.b false,.b false,.b false],[.s [108,101,118,101,108],.i 12,.i 0,.b false,.b true,.b false,.b false,.b false,.b false],[.s [99,111,117,110,116],.i 13,.i 0,.b false,.b true,.b false,.b false,.b false,.b false],[.s [101,110,100],.i 0,.i 0,.b false,.b false,.b false,.b false,.b false,.b false]]
def Dz:Ex:=exL (DA.map exL)
def Hs:ab:=DA.map fun l=> .l (l.map (Ex.ev []))
def U0(ρ:ab):Dz.ev ρ= .l Hs:=by
 unfold Dz Hs;rw[QC,map_map];have h:∀l∈DA,(Ex.ev ρ∘exL) l= .l (l.map (Ex.ev [])):=by
  have:∀l∈DA,∀x∈l,x.ev ρ=x.ev []:=by intro l hl x hx;simp only[DA,bX,nV,AR]at hl;rcases hl with rfl|rfl|rfl|rfl|rfl|rfl|rfl|rfl|rfl|rfl|rfl|rfl|rfl|rfl|rfl|rfl|rfl|rfl|rfl|rfl<;>(simp only[bX,nV,AR]at hx;rcases hx with rfl|rfl|rfl|rfl|rfl|rfl|rfl|rfl|rfl<;>rfl)
  intro l hl;show(exL l).ev ρ=_;rw[QC];exact congrArg Sc.l (ND (this l hl))
 exact congrArg Sc.l (ND h)
def XJ:Wd:=⟨0,345,344,Dz⟩
instance:ol Tryz.prog:=⟨[XJ],fun S w=>(∀p,S p->p<w.heap.size)/\S 0/\XP Tryz.prog S w XJ,fun S w h=>h.1,fun S w w' X h hX hb=>by
 obtain⟨h1,h2,D,ad,n,cap,q1,q2,q3,q4,q5,q6⟩:=h;have hk:∀p o u,S p->w.cell? ⟨p,o,none⟩=some u->w'.cell? ⟨p,o,none⟩=some u:=fun p o u hp hu=>by rw[World.cell?_of_block (hb.block p (h1 p hp) (fun hx=>hX p hx hp))];exact hu
 exact⟨fun p hp=>mC (h1 p hp) hb.size,h2,D,ad,n,cap,q1,q2,q3,q4,hk _ _ _ h2 q5,fun agg ks hT j u hj=>by obtain⟨p,o,e1,e2,e3⟩:=q6 agg ks hT j u hj;exact⟨p,o,e1,hk _ _ _ e3 e2,e3⟩⟩,fun S w h x hx=>by
 rcases cw.1 hx with rfl;exact h.2.2⟩
instance:Mrg Tryz.prog:=⟨[250,192],[140,90]⟩
def MQ:bH:=[7,8,25,26,34,35,37,38,43,44,46,47,53,54,62,63,75,76,87,88,94,95,99,100,102,103,104,105,108,109,110,111,114,115,116,117,125,126,129,130,133,134,136,137,151,152,165,166,172,173,181,182,183,184,186,187,192,193,195,196,199,200,202,203,207,208,212,213,222,223,224,225,242,243,244,245,255,256,264,265,269,270,282,283,343,344,360,361,372,373,376,377,393,394,395,396,407,408,410,411,415,416,442,443,463,464,465,466,474,476,548,549,611,612]
def aeW{P:Program}{l:bH}(h:l.all (fun t=> !P.stoodInHeld t&& !P.eqGuardType P.depth t)=true):oU P l:=fun t ht=>by simpa using lO.1 h t (jm.1 ht)
def anz:oU Tryz.prog MQ:=aeW (by kernel_rfl)
def Ph:bH:=999999999::MQ
def anA:oU Tryz.prog Ph:=aeW (by kernel_rfl)
def cOk(P:Program)(f:Nat):Bool:=match P.funcs[f]? with
 |some fn=> !(fn.name== "runtime.NumGoroutine")&&fn.body.isSome|none=>false
def QL{P:Program}{f:Nat}(h:cOk P f=true):∀args w,(callFunc f args).run P w= .ok (.enter f args) w:=fun args w=>by
 unfold cOk at h;split at h
 ·rename_i fn hf;simp only[aL,NC,uh]at h;obtain⟨h1,c,hc⟩:=h;have h2:fn.name≠ "runtime.NumGoroutine" :=by simpa using h1
  simp[callFunc,hf,h2,hc]
 ·cases h
def F9:bH:=[24,25,26,27,41,42,49,56,57,70,84,86,87,88,89,94,95,96,97,100,104,105,137,138,145,146,147,148,149,150,151,152,153,154,155,159,160,161,162,163,164,165,166,167,168,169,170,171,172,174,175,176,178,180,181,186,200,207,208,210,213,218,219,220,221,231,232,234,238,244,245,246,247,259,260,261,262,263,264,265,280,281,283,284,293,294,295,296,299,301,308,309,310,311,312,313,314,322,327,328,337,338,339,340,341,342,345,346,353,354,375,383,387,388,404,406,408,413,414,416,417,425,431,433,436,437,440,441,442,443,447,448,450,451,452,453,454,455,456,457,458,460,462,463,464,465,466,468,469]
def Tu:∀f,iC F9 f=true->∀args w,(callFunc f args).run Tryz.prog w= .ok (.enter f args) w:=fun f hf=>QL (lO.1 (by kernel_rfl:F9.all (cOk Tryz.prog)=true) f (jm.1 hf))
def jJ:Tryz.prog.follows .mixedOrders=true:=by kernel_rfl
structure Mb(P:Program)[ol P][Mrg P](C:ug) where
 bd:tr
 cs:ug
 nP:∀c∈cs,c∈C
 hs:List mw
 pl:ip
 iQ:oU P pl
 ins:List FuncId
 vl:∀f,iC ins f=true->∀args w,(callFunc f args).run P w= .ok (.enter f args) w
 cC:∀args w,(callFunc bd.f args).run P w= .ok (.enter bd.f args) w
 t:T bZ
 ht:tree (ak3 P cs hs pl ins) 9 bd=t
abbrev Fn:Type:=dK
def key_inj:∀{C:ug},(C.map tr.key).Nodup->∀{a b:tr},a∈C->b∈C->a.key=b.key->a=b
 |[],_,_,_,h,_,_=>by cases h
 |c::C,hd,a,b,ha,hb,e=>by
  simp only[jQ,xV]at hd;have key:∀{x:tr},x∈C->x.key≠c.key:=fun hx e=>hd.1 (by rw[<-e];exact NB hx);rcases bX.1 ha with h1|h1
  ·rcases bX.1 hb with h2|h2
   ·rw[h1,h2]
   ·exact absurd (by rw[<-e,h1]) (key h2)
  ·rcases bX.1 hb with h2|h2
   ·exact absurd (by rw[e,h2]) (key h1)
   ·exact key_inj hd.2 h1 h2 e
section
variable{P:Program}[ol P][Mrg P]{C:ug}
def Mb.F(m:Mb P C)(Γ:Nat->Fn):Fn:=fun l=>if l.length=m.bd.width then m.t.aF Γ l []else none
def Mb.holds(mixed:P.follows .mixedOrders=true){Γ:Nat->Fn}(hΓ:∀c∈C,c.holds P (Γ c.key))(m:Mb P C):m.bd.holds P (m.F Γ):=by
 refine@R6 (ak3 P m.cs m.hs m.pl m.ins) ‹ol P› Γ (fun S w0 hG B hn re=> ?_) m.bd _ 9 m.cC fun l rs hl hF=> ?_
 ·have fq:∀w,f8 B.n B.X w0 w->ol.G P S w:=fun w hb=>ol.fq S w0 w B.X hG (fun p hp=>by have:=B.hX p hp;rw[re]at this;exact this) (by rw[<-hn];exact hb);refine⟨mixed,m.iQ,fun c hc w hb=> ?_,m.vl,fun w hb x hx=>by rw[re];exact ol.tab S w (fq w hb) x hx⟩;rw[re];exact hΓ c (m.nP c hc) S w (fq w hb)
 ·rw[m.ht];unfold Mb.F at hF;rw[aA hl]at hF;exact Dr m.t l [] [] hF rfl (fun l k J h=>by simp at h)
def gN(ms:List (Mb P C))(H:Nat->Fn):Nat->Nat->Fn
 |0,key=>if(ms.find? fun m=>Nat.beq m.bd.key key).isSome then fun _=>none else H key
 |n+1,key=>match ms.find? fun m=>Nat.beq m.bd.key key with
  |some m=>m.F (gN ms H n)|none=>H key
def On(mixed:P.follows .mixedOrders=true){ms:List (Mb P C)}{H:Nat->Fn}(hH:∀c∈C,(∀m∈ms,m.bd.key≠c.key)->c.holds P (H c.key))(hK:(C.map tr.key).Nodup)(hms:∀m∈ms,m.bd∈C):∀(n:Nat),∀c∈C,c.holds P (gN ms H n c.key)
 |0,c,hc=>by
  unfold gN;split
  ·exact nofun
  ·rename_i hf;refine hH c hc fun m hm e=>hf ?_;rw[find?_isSome];exact⟨m,hm,by rw[e];exact BK _⟩
 |n+1,c,hc=>by
  unfold gN;split
  ·rename_i m hm;have hk:m.bd.key=c.key:=fh (by simpa using find?_some hm);have hmm:=mem_of_find?_eq_some hm;have e:m.bd=c:=by have h1:=hms m hmm;exact key_inj hK h1 hc hk
   rw[<-e];exact m.holds mixed (On mixed hH hK hms n)
  ·rename_i hf;refine hH c hc fun m hm e=> ?_;have:=find?_eq_none.1 hf m hm;rw[e]at this;exact this (BK _)
end
def Lw(k:Fn)(ks:Nat->Fn):Prop:=(∀n v r,ks n v=some r->ks (n+1) v=some r)/\(∀v r,k v=some r->∃n,ks n v=some r)/\∀n v r,ks n v=some r->k v=some r
def Lw.mono{k:Fn}{ks:Nat->Fn}(h:Lw k ks){n m:Nat}(hnm:n<=m){v r:ab}(hv:ks n v=some r):ks m v=some r:=by
 induction hnm with|refl=>exact hv|step _ ih=>exact h.1 _ _ _ ih
def O5{g:Fn->Fn}{gs:Nat->Fn->Fn}(hg:∀rec ZH,Lw rec ZH->Lw (g rec) fun n=>gs n (ZH n)):∀m,Lw (cH g m) fun n=>cH (gs n) m
 |0=>⟨fun _ _ _ h=>(by cases h),fun _ _ h=>(by cases h),fun _ _ _ h=>(by cases h)⟩|m+1=>hg _ _ (O5 hg m)
def oX{Γ:Nat->Fn}{Γs:Nat->Nat->Fn}(hΓ:∀key,Lw (Γ key) fun n=>Γs n key):∀(t:T bZ)(ρ:ab)(K:List Fn)(Ks:Nat->List Fn),(∀n,(Ks n).length=K.length)->(∀(l:Nat)(k:Fn),K[l]? =some k->∃ks:Nat->Fn,(∀n,(Ks n)[l]? =some (ks n))/\Lw k ks)->(∀n r,t.aF (Γs n) ρ (Ks n)=some r->t.aF (Γs (n+1)) ρ (Ks (n+1))=some r)/\(∀r,t.aF Γ ρ K=some r->∃n,t.aF (Γs n) ρ (Ks n)=some r)/\∀n r,t.aF (Γs n) ρ (Ks n)=some r->t.aF Γ ρ K=some r
 | .ah es,ρ,K,Ks,hl,hk=>⟨fun _ _ h=>h,fun _ h=>⟨0,h⟩,fun _ _ h=>h⟩| .fail _,ρ,K,Ks,hl,hk=>⟨fun _ _ h=>(by cases h),fun _ h=>(by cases h),fun _ _ h=>(by cases h)⟩| .ite c a b,ρ,K,Ks,hl,hk=>by
   have ha:=oX hΓ a ρ K Ks hl hk;have hb:=oX hΓ b ρ K Ks hl hk;simp only[T.aF];split
   ·exact ha
   ·exact hb
 | .aa c k,ρ,K,Ks,hl,hk=>by
   have ha:=oX hΓ k ρ K Ks hl hk;simp only[T.aF];split
   ·exact ha
   ·exact⟨fun _ _ h=>(by cases h),fun _ h=>(by cases h),fun _ _ h=>(by cases h)⟩
 | .call f es m k,ρ,K,Ks,hl,hk=>by
   have hf:=hΓ f;simp only[T.aF];refine⟨fun n r h=> ?_,fun r h=> ?_,fun n r h=> ?_⟩
   ·split at h
    ·rename_i rs hr;have Jo:Γs (n+1) f (es.map (Ex.ev ρ))=some rs:=hf.1 _ _ _ hr;rw[Jo];dsimp only;split at h
     ·rename_i hm;rw[aA hm];exact(oX hΓ k _ K Ks hl hk).1 n r h
     ·cases h
    ·cases h
   ·split at h
    ·rename_i rs hr;split at h
     ·rename_i hm;obtain⟨n1,h1⟩:=hf.2.1 _ _ hr;obtain⟨n2,h2⟩:=(oX hΓ k _ K Ks hl hk).2.1 r h;refine⟨max n1 n2,?_⟩;have Jo:Γs (max n1 n2) f (es.map (Ex.ev ρ))=some rs:=hf.mono (Nat.le_max_left n1 n2) h1;rw[Jo];dsimp only;rw[aA hm];have mono:∀d,k.aF (Γs (n2+d)) (ρ++rs) (Ks (n2+d))=some r:=by
       intro d;induction d with
       |zero=>exact h2|succ d ih=>exact(oX hΓ k _ K Ks hl hk).1 _ r ih
      have e:max n1 n2=n2+(max n1 n2-n2):=by omega
      rw[e];exact mono _
     ·cases h
    ·cases h
   ·split at h
    ·rename_i rs hr;have Jo:Γ f (es.map (Ex.ev ρ))=some rs:=hf.2.2 _ _ _ hr;rw[Jo];dsimp only;split at h
     ·rename_i hm;rw[aA hm];exact(oX hΓ k _ K Ks hl hk).2.2 n r h
     ·cases h
    ·cases h
 | .loop jH body,ρ,K,Ks,hl,hk=>by
   have:=O5 (g:=fun rec v=>body.aF Γ (ρ++v) (K++[rec])) (gs:=fun n rec v=>body.aF (Γs n) (ρ++v) (Ks n++[rec])) (fun rec ZH hr=>by
    have hb:∀v,_:=fun v=>oX hΓ body (ρ++v) (K++[rec]) (fun n=>Ks n++[ZH n]) (fun n=>by simp[hl n]) (fun l k h=>by
     by_cases bi:l<K.length
     ·rw[gA bi]at h;obtain⟨ks,h1,h2⟩:=hk l k h;exact⟨ks,fun n=>by rw[gA (by rw[hl n];exact bi)];exact h1 n,h2⟩
     ·rw[lR (by omega)]at h;have h0:l-K.length=0:=by
       by_cases h0:l-K.length=0
       ·exact h0
       ·rw[mB (by simp;omega)]at h;cases h
      rw[h0]at h;simp at h;subst h;exact⟨ZH,fun n=>by rw[lR (by rw[hl n];omega),hl n,h0];rfl,hr⟩)
    exact⟨fun n v r h=>(hb v).1 n r h,fun v r h=>(hb v).2.1 r h,fun n v r h=>(hb v).2.2 n r h⟩) fg
   simp only[T.aF];exact⟨fun n r h=>this.1 n _ r h,fun r h=>this.2.1 _ r h,fun n r h=>this.2.2 n _ r h⟩
 | .next l vs,ρ,K,Ks,hl,hk=>by
   simp only[T.aF];refine⟨fun n r h=> ?_,fun r h=> ?_,fun n r h=> ?_⟩;all_goals
    split at h
    ·rename_i k fK;first
      |(obtain⟨ks,h1,h2⟩:=hk l k fK
        obtain⟨n,hn⟩:=h2.2.1 _ _ h
        exact⟨n,by rw[h1 n];exact hn⟩)
      |(have bi:l<K.length:=by have:=(kK.1 fK).1;rw[hl n]at this;exact this
        obtain⟨ks,h1,h2⟩:=hk l _ (cB bi)
        rw[h1 n]at fK
        cases fK
        first
         |(rw[h1 (n+1)];exact h2.1 _ _ _ h)
         |(rw[cB bi];exact h2.2.2 _ _ _ h))
    ·cases h
section
variable{P:Program}[ol P][Mrg P]{C:ug}(ms:List (Mb P C))(H:Nat->Fn)
open Classical in
noncomputable def gI(key:Nat):Fn:=fun l=>if h:∃r n,gN ms H n key l=some r then some (Classical.choose h)else none
def Mg(key:Nat)(v:ab):gN ms H 0 key v=if(ms.find? fun m=>Nat.beq m.bd.key key).isSome then none else H key v:=by simp only[gN];split<;>rfl
def Mf{key:Nat}{m:Mb P C}(hm:(ms.find? fun x=>Nat.beq x.bd.key key)=some m)(n:Nat)(v:ab):gN ms H (n+1) key v=m.F (gN ms H n) v:=by simp only[gN];rw[hm]
def F4{key:Nat}(hm:(ms.find? fun x=>Nat.beq x.bd.key key)=none)(n:Nat)(v:ab):gN ms H n key v=H key v:=by
 cases n with|zero=>rw[Mg,hm];rfl|succ n=>simp only[gN];rw[hm]
def adX:∀n key v r,gN ms H n key v=some r->gN ms H (n+1) key v=some r:=by
 intro n;induction n with
 |zero=>
  intro key v r h;rw[Mg]at h;split at h
  ·cases h
  ·rename_i hf;rw[F4 ms H (by simpa using hf)];exact h
 |succ n ih=>
  intro key v r h;cases hf:ms.find? fun x=>Nat.beq x.bd.key key with
  |none=>rw[F4 ms H hf]at h⊢;exact h|some m=>
   rw[Mf ms H hf]at h⊢;unfold Mb.F at h⊢;split at h
   ·rename_i hl;rw[aA hl];have:∀key,Lw (gN ms H (n+1) key) (fun j=>if j=0 then gN ms H n key else gN ms H (n+1) key):=fun key=>⟨fun j v r hj=>by
     cases j with
     |zero=>exact ih key v r hj|succ j=>exact hj,fun v r hv=>⟨1,hv⟩,fun j v r hj=>by
     cases j with
     |zero=>exact ih key v r hj|succ j=>exact hj⟩
    have h2:=(oX (Γ:=gN ms H (n+1)) (Γs:=fun j key=>if j=0 then gN ms H n key else gN ms H (n+1) key) this m.t v [] (fun _=>[]) (fun _=>rfl) (fun l k hk=>by simp at hk)).2.2 0 r;exact h2 (by simpa using h)
   ·cases h
def DB(key:Nat):Lw (gI ms H key) fun n=>gN ms H n key:=by
 have up:∀{n m:Nat},n<=m->∀{v r},gN ms H n key v=some r->gN ms H m key v=some r:=by
  intro n m hnm v r h;induction hnm with
  |refl=>exact h|step _ ih=>exact adX ms H _ key v r ih
 refine⟨fun n v r h=>adX ms H n key v r h,fun v r h=> ?_,fun n v r h=> ?_⟩
 ·unfold gI at h;split at h
  ·rename_i hx;cases h
   exact Classical.choose_spec hx
  ·cases h
 ·unfold gI;have hx:∃r n,gN ms H n key v=some r:=⟨r,n,h⟩;rw[dif_pos hx];obtain⟨m,hm⟩:=Classical.choose_spec hx;have h1:=up (Nat.le_max_left n m) h;have h2:=up (Nat.le_max_right n m) hm;rw[h1]at h2;exact h2.symm
def agH{m:Mb P C}(hm:ms.find? (fun x=>Nat.beq x.bd.key m.bd.key)=some m):gI ms H m.bd.key=m.F (gI ms H):=by
 funext l;have hL:=DB ms H m.bd.key;have hd:=oX (Γ:=gI ms H) (Γs:=fun n=>gN ms H n) (DB ms H) m.t l [] (fun _=>[]) (fun _=>rfl) (fun l k hk=>by simp at hk);have fwd:∀r,gI ms H m.bd.key l=some r->m.F (gI ms H) l=some r:=fun r h=>by
  obtain⟨n,hn⟩:=hL.2.1 l r h;have hn:gN ms H (n+1) m.bd.key l=some r:=hL.1 n l r hn;rw[Mf ms H hm]at hn;unfold Mb.F at hn⊢;split at hn
  ·rename_i hl;rw[aA hl];exact hd.2.2 n r hn
  ·cases hn
 have bwd:∀r,m.F (gI ms H) l=some r->gI ms H m.bd.key l=some r:=fun r h=>by
  unfold Mb.F at h;split at h
  ·rename_i hl;obtain⟨n,hn⟩:=hd.2.1 r h;have:gN ms H (n+1) m.bd.key l=some r:=by rw[Mf ms H hm];unfold Mb.F;rw[aA hl];exact hn
   exact hL.2.2 (n+1) l r this
  ·cases h
 cases h1:gI ms H m.bd.key l with
 |some r=>rw[fwd r h1]|none=>
  cases h2:m.F (gI ms H) l with
  |none=>rfl|some r=>rw[bwd r h2]at h1;cases h1
def SN{key:Nat}(hk:ms.find? (fun x=>Nat.beq x.bd.key key)=none):gI ms H key=H key:=by
 funext l;have hL:=DB ms H key;cases h1:gI ms H key l with
 |some r=>
  obtain⟨n,hn⟩:=hL.2.1 l r h1;have hn:gN ms H n key l=some r:=hn;rw[F4 ms H hk]at hn;exact hn.symm
 |none=>
  cases h2:H key l with
  |none=>rfl|some r=>
   have:gN ms H 0 key l=some r:=by rw[F4 ms H hk];exact h2
   have:=hL.2.2 0 l r this;rw[this]at h1;cases h1
def XK(mixed:P.follows .mixedOrders=true)(hH:∀c∈C,(∀m∈ms,m.bd.key≠c.key)->c.holds P (H c.key))(hK:(C.map tr.key).Nodup)(hms:∀m∈ms,m.bd∈C){c:tr}(hc:c∈C){l rs:ab}(h:gI ms H c.key l=some rs):∃F,c.holds P F/\F l=some rs:=by obtain⟨n,hn⟩:=(DB ms H c.key).2.1 l rs h;exact⟨_,On mixed hH hK hms n c hc,hn⟩
end
def MB:∀ss:Nv,bf (ss.map CS.a)=[]
 |[]=>rfl|s::ss=>by have:=MB ss;unfold bf at this⊢;rw[jQ,AQ,this];rfl
def GS{P:Program}{w:World}{ok:dg}:∀{ss:Nv}{vs:aW}{l:ab}{ns:bH},qj P w ok (ss.map CS.a) vs l ns->ns=[]/\fe P w ok ss vs l
 |[],[],_,_,h=>by obtain⟨rfl,rfl⟩:=h;exact⟨rfl,trivial⟩
 |s::ss,v::vs,_,_,h=>by obtain⟨l1,l2,n1,n2,rfl,rfl,⟨rfl,hx⟩,r2⟩:=h;obtain⟨x,rfl,h⟩:=hx;obtain⟨rfl,h2⟩:=GS r2;exact⟨rfl,h,h2⟩
 |[],_::_,_,_,h=>h.elim|_::_,[],_,_,h=>h.elim
def akM{P:Program}{w:World}{ok:dg}{s:AS}{vs:aW}{l:ab}(h:fe P w ok [s] vs l):∃v x,vs=[v]/\l=[x]/\jk P w ok s v x:=by
 match vs,l,h with
 |[v],[x],h=>exact⟨v,x,rfl,rfl,h.1⟩|[],[],h=>exact h.elim|[],_::_,h=>exact h.elim|_::_,[],h=>exact h.elim|[_],_::_::_,h=>exact h.2.elim|_::_::_,[_],h=>exact h.2.elim|_::_::_,_::_::_,h=>exact h.2.elim
def akN{P:Program}{w:World}{ok:dg}{s s2:AS}{vs:aW}{l:ab}(h:fe P w ok [s,s2] vs l):∃v u x y,vs=[v,u]/\l=[x,y]/\jk P w ok s v x/\jk P w ok s2 u y:=by
 match vs,l,h with
 |v::vs,x::l,h=>
  obtain⟨u,y,rfl,rfl,h2⟩:=akM h.2;exact⟨v,u,x,y,rfl,rfl,h.1,h2⟩
 |[],[],h=>exact h.elim|[],_::_,h=>exact h.elim|_::_,[],h=>exact h.elim
def Nh{P:Program}{w:World}{ok:dg}:∀{ss:Nv}{vs:aW}{X:ab}{U:aW},Dd P w ok (ss.map CS.a) vs X U->X=[]/\U=[]
 |[],[],_,_,h=>h|s::ss,v::vs,_,_,⟨_,_,_,_,rfl,rfl,⟨rfl,rfl⟩,h⟩=>by obtain⟨rfl,rfl⟩:=Nh h;exact⟨rfl,rfl⟩
 |[],_::_,_,_,h=>h.elim|_::_,[],_,_,h=>h.elim
def Jc{P:Program}{w w':World}{ok ok':dg}:∀{ss:Nv}{vs:aW}{l:ab},fe P w ok ss vs l->nN P w' ok' (ss.map CS.a) vs [] []
 |[],[],_,_=>⟨rfl,rfl⟩|s::ss,v::vs,x::l,h=>⟨[],[],[],[],rfl,rfl,⟨rfl,rfl⟩,Jc h.2⟩|[],_::_,[],h=>h.elim|[],_::_,_::_,h=>h.elim|_::_,[],[],h=>h.elim|_::_,[],_::_,h=>h.elim|_::_,_::_,[],h=>h.elim
def QQ{P:Program}[ol P]{key:Nat}{f:FuncId}{ss:Nv}{res:RS}{F:dK}
 (h:∀(w:World)(ok:dg)(vs:aW)(l rs:ab),fe P w ok ss vs l->F l=some rs->Gz P f vs.toArray w fun v w'=>Below w.heap.size w w'/\∃(x2:ab)(u2:aW)(r:ab),rs=x2++r/\(u2.filterMap aO).Nodup/\(∀p∈u2.filterMap aO,w.heap.size<=p)/\vD P w' (Ww w.heap.size ok [] (u2.filterMap aO)) res v x2 u2 r):
 (⟨key,f,ss.map CS.a,res⟩:tr).holds P F:=by
 intro S w hG ok vs ns xs xw us uw ys l rs dH mZ DT hnd Cq re hF
 obtain⟨rfl,HC⟩:=GS dH
 obtain⟨rfl,rfl⟩:=Nh DT
 simp only[MB]at mZ⊢
 obtain⟨rfl,rfl,rfl⟩:=mZ
 simp only[rU,uP]at hF
 refine(h w ok vs l rs HC hF).mono ?_
 rintro v w' ⟨hb,x2,u2,r,e,h1,h2,h3⟩
 refine⟨.of _ hb,[],[],x2,r,[],[],[],u2,by simpa using e,by simpa[bC]using h1,fun p hp=> .inr (h2 p (by simpa[bC]using hp)),⟨rfl,rfl,rfl⟩,Jc HC,h3,?_⟩
 unfold WG
 split
 ·intro n hn;cases hn
 ·trivial
def Qh{P:Program}{w:World}{ok:dg}{k:CK}(hk:∀el,k≠.sl el){v:Value}{x:Sc}(h:jk P w ok (.ck k) v x):v=k.val x:=by obtain⟨d,h1,rfl,_⟩:=h;exact ais hk h1
noncomputable section
open Go.Shelf Go.Lib
abbrev CQ(f:Nat)(fn:Func)(tS el k:Nat):Prop:=Tryz.prog.funcs[f]? =some fn->fn.ntmps=8->Tryz.prog.underlying tS=some (.slice el)->(∀w,(isAgg tS).run Tryz.prog w= .ok false w)->(∀w,(Go.sizeOf tS).run Tryz.prog w= .ok 1 w)->(∀w,(Go.sizeOf el).run Tryz.prog w= .ok k w)->(∀(n c:Nat)(w:World),Calls Tryz.prog f #[.slice none n c] w fun e w'=>e= .returned (.slice none 0 0)/\w'=w)/\
 ∀(i0:TypeInfo)(z:Value)(bytes:Nat),Tryz.prog.info? el=some i0->i0.zero=some z->i0.size=k->i0.bytes=bytes->z.cells.size=k->∀(q:Addr)(n c:Nat)(news:aW)(w:World),news.length=n*k->n<=maxLen->n*bytes<=140737488355328->(∀j u,news[j]? =some u->w.cell? (q.add j)=some u)->(∀u∈news,u.oneCell'=true)->Calls Tryz.prog f #[.slice (some q) n c] w fun e w'=>∃v',e= .returned v'/\w'.ownsRow w.heap.size el k v' n news/\Below w.heap.size w w'
def kb:CQ 23 Tryz.f23 22 115 3/\CQ 30 Tryz.f30 31 63 4/\CQ 39 Tryz.f39 45 76 18/\CQ 51 Tryz.f51 23 35 13/\CQ 115 Tryz.f115 67 3 1/\CQ 116 Tryz.f116 68 187 5/\CQ 117 Tryz.f117 69 196 7/\CQ 118 Tryz.f118 70 203 4/\CQ 119 Tryz.f119 71 67 1/\CQ 120 Tryz.f120 72 208 3/\CQ 121 Tryz.f121 73 283 5/\CQ 122 Tryz.f122 74 213 6/\CQ 202 Tryz.f202 51 88 9/\CQ 270 Tryz.f270 128 173 20/\CQ 300 Tryz.f300 66 223 7/\CQ 307 Tryz.f307 185 361 5/\CQ 445 Tryz.f445 194 373 2:=by
 refine⟨?_,?_,?_,?_,?_,?_,?_,?_,?_,?_,?_,?_,?_,?_,?_,?_,?_⟩;all_goals
  intro hf hm tS aS zS zE
  have mixed:Tryz.prog.follows .mixedOrders=true:=jJ
  have q22:=fun(w:World)(a:Option Addr)(n c n' c':Nat)=>Lib.run_eql_slice_nil w _ _ a n c n' c' tS
  have uS:=run_underlying tS
  refine⟨fun n c w=> ?_,fun i0 z bytes hi Rc ux nQ zO q n c news w hl hn JL hc h1=> ?_⟩
  ·go_enter hf,hm
   go_wp2
   go_ret
   exact⟨rfl,rfl⟩
  ·have A:Aside (∀j u,news[j]? =some u->w.cell? (q.add j)=some u):=hc;clear hc
   go_enter hf,hm
   go_wp2_with (at_builtin;refine wpList_append_own _ rfl _ _ _ rfl w.heap.size _ i0 z _ bytes tS hi Rc ux nQ zO (by decide) _ _ _ rfl (World.ownsRow_made w #[] 0 (aX _) (xA _) (by simp)) q n c news rfl ?qc1 ?qc2 ?qc3 ?qc4 ?qc5 ?qc6 ?_)
   case qc1=>exact hl
   case qc2=>
    intro j u hj;exact Lib.cell?_alloc_some _ (A.out j u hj)
   case qc3=>exact h1
   case qc4=>rw[eG];exact hn
   case qc5=>rw[eG];exact JL
   case qc6=>simp
   intro v' w1 bj Yc DN
   go_wp2
   go_ret
   refine⟨v',rfl,by simpa using bj,?_⟩;exact((Below.refl _ w).alloc (aX _) _).grown Yc (by simp) (by intro k hk;simp[Value.ownBlock]at hk;omega)
def ul(bytes:Nat):dK
 |[.l xs]=>if xs.length<=maxLen/\xs.length*bytes<=140737488355328 then some [.l xs]else none
 |_=>none
def UZ{P:Program}{w:World}{ok:dg}{agg:Bool}{ks:jj}{ys:ab}(hf:∀x∈ys,∀i k,ks[i]? =some k->Fits P w ok k (Ey agg x i)):∀u∈ag agg ks ys,u.oneCell'=true:=by
 intro u hu;have hval:∀(k:CK)(x:Sc),Fits P w ok k x->(k.val x).oneCell'=true:=fun k x h=>by cases h<;>rfl
 unfold ag at hu;obtain⟨x,hx,hu⟩:=xc.1 hu;have hfx:=hf x hx;unfold bP at hu;split at hu
 ·have key:∀(ks2:jj)(n:Nat),(∀i k,ks2[i]? =some k->Fits P w ok k (x.list.getD (n+i) (.i 0)))->u∈jD x ks2 n->u.oneCell'=true:=by
   intro ks2;induction ks2 with
   |nil=>intro n _ h;cases h
   |cons k ks2 ih=>
    intro n h hu;rcases bX.1 hu with rfl|hu
    ·exact hval k _ (by simpa using h 0 k rfl)
    ·exact ih (n+1) (fun i k' hk=>by have:=h (i+1) k' (by simpa using hk);rw[show n+1+i=n+(i+1)by omega];exact this) hu
  exact key _ 0 (fun i k hk=>by simpa[Ey]using hfx i k hk) hu
 ·rename_i k hu;simp only[cw]at hu;subst hu;exact hval k x (by simpa[Ey]using hfx 0 k rfl)
 ·cases hu
def N0{P:Program}[ol P]{f el:Nat}(cC:∀args w,(callFunc f args).run P w= .ok (.enter f args) w){agg:Bool}{ks:jj}(hT:eC P el=some (agg,ks))(bT:bF agg ks=true)(bytes:Nat)(DN:∀(n c:Nat)(w:World),Calls P f #[.slice none n c] w fun e w'=>e= .returned (.slice none 0 0)/\w'=w)
 (YE:∀(q:Addr)(n c:Nat)(news:aW)(w:World),news.length=n*ks.length->n<=maxLen->n*bytes<=140737488355328->(∀j u,news[j]? =some u->w.cell? (q.add j)=some u)->(∀u∈news,u.oneCell'=true)->Calls P f #[.slice (some q) n c] w fun e w'=>∃v',e= .returned v'/\w'.ownsRow w.heap.size el ks.length v' n news/\Below w.heap.size w w'):
 (⟨f,f,[AS.ck (.sl el)].map CS.a,.o el⟩:tr).holds P (ul bytes):=by
 refine QQ fun w ok vs l rs dH hF=> ?_
 obtain⟨v,x,rfl,rfl,h1⟩:=akM dH
 obtain⟨Fx,i8⟩:=dq bT
 unfold ul at hF
 split at hF
 ·rename_i xs he;cases he
  split at hF
  ·rename_i hc;cases hF
   obtain⟨d,hd,rfl,gj⟩:=h1;cases gj with
   |sl U6 hl Mm hm hcell mZ=>
    rename_i Jr Wu ad n cap ys;rw[hT]at U6;cases U6;have he:dP ys=dP xs:=by simp only[Sc.er,Sc.l.injEq]at hd;exact hd
    have hlen:n=xs.length:=by rw[<-hl];exact eU he
    have ut:=aD Fx ys;rw[hl]at ut;have QS:∀w':World,Below w.heap.size w w'->∀p o u,ok p->w.cell? ⟨p,o,none⟩=some u->w'.cell? ⟨p,o,none⟩=some u:=fun w' hb p o u _ hu=>by rw[World.cell?_of_block (hb.block p (World.block_lt_of_cell? w ⟨p,o,none⟩ hu))];exact hu
    have fin:∀(v':Value)(w':World),w'.ownsRow w.heap.size el ks.length v' n (ag agg ks ys)->Below w.heap.size w w'->(∃ad n' cap,v'= .slice ad n' cap/\cap<=maxLen/\n'<=cap/\n'=n)->
     Below w.heap.size w w'/\∃(x2:ab)(u2:aW)(r:ab),[Sc.l xs]=x2++r/\(u2.filterMap aO).Nodup/\(∀p∈u2.filterMap aO,w.heap.size<=p)/\vD P w' (Ww w.heap.size ok [] (u2.filterMap aO)) (.o el) v' x2 u2 r:=by
     rintro v' w' bj hb ⟨Sj,n',iZ,rfl,oD,yA,rfl⟩
     have xj:∀p∈[Value.slice Sj n' iZ].filterMap aO,w.heap.size<=p:=fun p hp=>by
      simp only[AP,filterMap_nil]at hp;cases ho:aO (.slice Sj n' iZ)with
      |none=>rw[ho]at hp;cases hp
      |some g=>
       rw[ho]at hp;simp only[cw]at hp;subst hp;exact(bj.lt p (ju ho)).1
     refine⟨hb,[.l xs],[.slice Sj n' iZ],[],rfl,?_,xj,rfl,.l xs,rfl,rfl,agg,ks,ys,Sj,n',iZ,hT,bT,rfl,?_,hl,yA,oD,.inr ⟨bj.1,?_⟩,fun y hy i k hk=>(mZ y hy i k hk).mono fun p o u hp hu=>⟨⟨.inr (.inl hp),fun hm=> ?_⟩,QS w' hb p o u hp hu⟩⟩
     ·simp only[AP,filterMap_nil];cases aO (.slice Sj n' iZ)<;>simp
     ·simp only[Sc.er,Sc.l.injEq];exact he.symm
     ·rcases bj.2 with h|⟨g,c2,cur,e1,e2,e3,e4⟩
      ·exact .inl h
      ·exact .inr ⟨g,c2,cur,e1,xA _,e3,e4⟩
     ·have:=xj p hm;have:=World.block_lt_of_cell? w ⟨p,o,none⟩ hu;simp at this;omega
    cases ad with
    |none=>
     have HI:n=0:=by
      rcases eq_zero_or_pos n with h|h
      ·exact h
      ·obtain⟨p,o,e,_⟩:=hcell 0 _ (cB (by rw[ut];exact Nat.mul_pos h i8));cases e
     refine .inl ⟨cC _ _,(DN n cap w).mono ?_⟩;rintro e w' ⟨rfl,rfl⟩;subst HI;have hys:ys=[]:=length_eq_zero_iff.1 hl;subst hys;refine⟨_,rfl,fin _ _ ⟨by simp[ag],.inl ⟨rfl,rfl⟩⟩ (.refl _ _) ⟨none,0,0,rfl,xA _,aX _,rfl⟩⟩
    |some q=>
     refine .inl ⟨cC _ _,(YE q n cap (ag agg ks ys) w ut (by rw[hlen];exact hc.1) (by rw[hlen];exact hc.2) (fun j u hj=> ?_) (UZ mZ)).mono ?_⟩
     ·obtain⟨p,o,e,hu,_⟩:=hcell j u hj;cases e
      rw[Addr.add_lit];exact hu
     ·rintro e w' ⟨v',rfl,bj,hb⟩;refine⟨v',rfl,fin v' w' bj hb ?_⟩;rcases bj.2 with⟨h,h0⟩|⟨g,c2,cur,e1,e2,e3,e4,e5,_⟩
      ·subst h;exact⟨none,0,0,rfl,xA _,aX _,h0.symm⟩
      ·exact⟨_,_,_,e1,e5,e4,rfl⟩
  ·cases hF
 ·cases hF
def qP(P:Program)(el:TypeId):Nat:=match P.info? el with|some i=>i.bytes|none=>0
def LT(P:Program)(el k:Nat):Bool:=
 match eC P el,P.info? el with
 |some (agg,ks),some i=>bF agg ks&&Nat.beq i.size k&&Nat.beq ks.length k&&(match i.zero with|some z=>Nat.beq z.cells.size k|none=>false)|_,_=>false
def Qp{P:Program}[ol P]{f el k:Nat}(cC:∀args w,(callFunc f args).run P w= .ok (.enter f args) w)(h:LT P el k=true)(DN:∀(n c:Nat)(w:World),Calls P f #[.slice none n c] w fun e w'=>e= .returned (.slice none 0 0)/\w'=w)
 (YE:∀(i0:TypeInfo)(z:Value)(bytes:Nat),P.info? el=some i0->i0.zero=some z->i0.size=k->i0.bytes=bytes->z.cells.size=k->∀(q:Addr)(n c:Nat)(news:aW)(w:World),news.length=n*k->n<=maxLen->n*bytes<=140737488355328->(∀j u,news[j]? =some u->w.cell? (q.add j)=some u)->(∀u∈news,u.oneCell'=true)->Calls P f #[.slice (some q) n c] w fun e w'=>∃v',e= .returned v'/\w'.ownsRow w.heap.size el k v' n news/\Below w.heap.size w w'):
 (⟨f,f,[AS.ck (.sl el)].map CS.a,.o el⟩:tr).holds P (ul (qP P el)):=by
 unfold LT at h
 split at h
 ·rename_i agg ks i0 hT hi;simp only[aL]at h;obtain⟨⟨⟨h1,h2⟩,h4⟩,h3⟩:=h;have h2:=fh h2;have h4:=fh h4;subst h4;split at h3
  ·rename_i z hz;have h3:=fh h3;have hb:qP P el=i0.bytes:=by unfold qP;rw[hi]
   rw[hb];exact N0 cC hT h1 i0.bytes DN (YE i0 z i0.bytes hi hz h2 rfl h3)
  ·cases h3
 ·cases h
def cK(f el k:Nat){fn:Func}{tS:Nat}(hq:CQ f fn tS el k)(hf:Tryz.prog.funcs[f]? =some fn)(h8:fn.ntmps=8)(tU:Tryz.prog.underlying tS=some (.slice el))(aS:∀w,(isAgg tS).run Tryz.prog w= .ok false w)(zS:∀w,(Go.sizeOf tS).run Tryz.prog w= .ok 1 w)(zE:∀w,(Go.sizeOf el).run Tryz.prog w= .ok k w)(hc:cOk Tryz.prog f=true:=by kernel_rfl)(hk:LT Tryz.prog el k=true:=by kernel_rfl):uN Tryz.prog:=⟨⟨f,f,[AS.ck (.sl el)].map CS.a,.o el⟩,ul (qP Tryz.prog el),Qp (QL hc) hk (hq hf h8 tU aS zS zE).1 (hq hf h8 tU aS zS zE).2⟩
def lY:=cK 23 115 3 kb.1 Tryz.func23 Tryz.ntmps23 Tryz.underlying22 Tryz.isAgg22 Tryz.sizeOf22 Tryz.sizeOf115
def fU:=cK 30 63 4 kb.2.1 Tryz.func30 Tryz.ntmps30 Tryz.underlying31 Tryz.isAgg31 Tryz.sizeOf31 Tryz.sizeOf63
def gZ:=cK 39 76 18 kb.2.2.1 Tryz.func39 Tryz.ntmps39 Tryz.underlying45 Tryz.isAgg45 Tryz.sizeOf45 Tryz.sizeOf76
def fE:=cK 51 35 13 kb.2.2.2.1 Tryz.func51 Tryz.ntmps51 Tryz.underlying23 Tryz.isAgg23 Tryz.sizeOf23 Tryz.sizeOf35
def fW:=cK 115 3 1 kb.2.2.2.2.1 Tryz.func115 Tryz.ntmps115 Tryz.underlying67 Tryz.isAgg67 Tryz.sizeOf67 Tryz.sizeOf3
def fD:=cK 116 187 5 kb.2.2.2.2.2.1 Tryz.func116 Tryz.ntmps116 Tryz.underlying68 Tryz.isAgg68 Tryz.sizeOf68 Tryz.sizeOf187
def g8:=cK 117 196 7 kb.2.2.2.2.2.2.1 Tryz.func117 Tryz.ntmps117 Tryz.underlying69 Tryz.isAgg69 Tryz.sizeOf69 Tryz.sizeOf196
def iE:=cK 118 203 4 kb.2.2.2.2.2.2.2.1 Tryz.func118 Tryz.ntmps118 Tryz.underlying70 Tryz.isAgg70 Tryz.sizeOf70 Tryz.sizeOf203
def gn:=cK 119 67 1 kb.2.2.2.2.2.2.2.2.1 Tryz.func119 Tryz.ntmps119 Tryz.underlying71 Tryz.isAgg71 Tryz.sizeOf71 Tryz.sizeOf67
def gm:=cK 120 208 3 kb.2.2.2.2.2.2.2.2.2.1 Tryz.func120 Tryz.ntmps120 Tryz.underlying72 Tryz.isAgg72 Tryz.sizeOf72 Tryz.sizeOf208
def g9:=cK 121 283 5 kb.2.2.2.2.2.2.2.2.2.2.1 Tryz.func121 Tryz.ntmps121 Tryz.underlying73 Tryz.isAgg73 Tryz.sizeOf73 Tryz.sizeOf283
def gY:=cK 122 213 6 kb.2.2.2.2.2.2.2.2.2.2.2.1 Tryz.func122 Tryz.ntmps122 Tryz.underlying74 Tryz.isAgg74 Tryz.sizeOf74 Tryz.sizeOf213
def lW:=cK 202 88 9 kb.2.2.2.2.2.2.2.2.2.2.2.2.1 Tryz.func202 Tryz.ntmps202 Tryz.underlying51 Tryz.isAgg51 Tryz.sizeOf51 Tryz.sizeOf88
def gX:=cK 270 173 20 kb.2.2.2.2.2.2.2.2.2.2.2.2.2.1 Tryz.func270 Tryz.ntmps270 Tryz.underlying128 Tryz.isAgg128 Tryz.sizeOf128 Tryz.sizeOf173
def mU:=cK 300 223 7 kb.2.2.2.2.2.2.2.2.2.2.2.2.2.2.1 Tryz.func300 Tryz.ntmps300 Tryz.underlying66 Tryz.isAgg66 Tryz.sizeOf66 Tryz.sizeOf223
def lV:=cK 307 361 5 kb.2.2.2.2.2.2.2.2.2.2.2.2.2.2.2.1 Tryz.func307 Tryz.ntmps307 Tryz.underlying185 Tryz.isAgg185 Tryz.sizeOf185 Tryz.sizeOf361
def lX:=cK 445 373 2 kb.2.2.2.2.2.2.2.2.2.2.2.2.2.2.2.2 Tryz.func445 Tryz.ntmps445 Tryz.underlying194 Tryz.isAgg194 Tryz.sizeOf194 Tryz.sizeOf373
end
section
open Go.Shelf Go.Lib
theorem cV{P:Program}(w:World)(dT sT ty elem:TypeId)(g o ak6 asb:Nat)(a:Addr)(anR au7:Nat)(cur:Array Value)(t:TypeId)(cs:aW)(size N:Nat)(hu:P.underlying dT=some (.slice elem))(hs:(P.info? elem).map (·.size)=some size)(hg:w.heap[g]? =some (.cells cur t (0,0)))(hN:N=Nat.min anR ak6)(hn:cs.length=N*size)(JT:∀j v,cs[j]? =some v->w.cell? (a.add j)=some v)(gj:o+cs.length<=cur.size)(h1:∀v∈cs,v.oneCell'=true):
 (Builtin.copy_ #[dT,sT] ty #[.slice (some ⟨g,o,none⟩) ak6 asb,.slice (some a) anR au7]).run P w=
   .ok (goInt N) (w.setRow g (cur.toList.take o++cs++cur.toList.drop (o+cs.length)).toArray):=by
 have hl:=run_loadCells_list (P:=P) w a cs JT
 have fC:=run_storeCells_at P g o t cs 0 cur w hg (by simpa using gj) h1
 cases hq:P.info? elem with
 |none=>simp[hq]at hs|some i=>
  have hi:i.size=size:=by simpa[hq]using hs
  simp[Builtin.copy_,run_underlying hu,Builtin.lenOf,Builtin.firstCells,sizeOf,typeInfo,hq,hi,<-hN,<-hn,hl,fC]
theorem oP{P:Program}(w:World)(tS tR e:TypeId)(ht:P.underlying tS=some (.slice e))(size:Nat)(hz:∀w,(Go.sizeOf e).run P w= .ok size w)(a b:Addr)(la ca lb cb:Nat)(vP:a.block≠b.block)(tA tB:TypeId)(kA kB:Nat)(hsa:w.shape? a.block=some (tA,kA))(hsb:w.shape? b.block=some (tB,kB))(hkB:kB≠0)(hkA:kA≠0)(Jk:w.frozen? b=false)(hfe:w.frozen? {block:=b.block,off:=kB}=false):
 (Extern.SlicesOverlaps.overlaps #[tS,tS] #[tR] #[.slice (some a) la ca,.slice (some b) lb cb]).run P w= .ok (.bool false) w:=by
 have hnb:(a.block !=b.block)=true:=by simpa using vP
 have atx:(a.block==b.block)=false:=by simpa using vP
 have hm:∀(g:Option Addr->Nat->Nat->Option Addr->Nat->Nat->Sem Value)(n:Array Value->Sem Value),Extern.SlicesOverlaps.overlaps.match_4 (fun _=>Sem Value) #[.slice (some a) la ca,.slice (some b) lb cb] g n=g (some a) la ca (some b) lb cb:=fun _ _=>rfl
 delta Extern.SlicesOverlaps.overlaps;rw[hm]
 by_cases h0:la=0\/lb=0\/size=0
 ·simp[run_underlying ht,hz,h0]
 ·cases kB with
  |zero=>exact absurd rfl hkB|succ kB=>
   cases kA with
   |zero=>exact absurd rfl hkA|succ kA=>
    cases hfa:w.frozen? a<;>cases atd:w.frozen? {block:=a.block,off:=kA+1}<;>
    simp[run_underlying ht,hz,h0,hnb,atx,frozen,noView,viewAt,mayBeOne,stringish,shape,Sem.run,hsa,hsb,Jk,hfe,hfa,atd]
theorem kL(a:Addr)(j:Nat):(a.add j).block=a.block:=by unfold Addr.add;split<;>rfl
theorem IU{w:World}{g:Nat}{cur:Array Value}{t:TypeId}{f:Nat×Nat}(hg:w.heap[g]? =some (.cells cur t f)):w.shape? g=some (t,cur.size):=by simp[World.shape?,hg]
theorem Bv{w:World}{a:Addr}{v:Value}(h:w.cell? a=some v):∃t k,w.shape? a.block=some (t,k)/\k≠0:=by
 unfold World.cell? at h;unfold World.shape?;split at h
 ·rename_i c t f hh;split at h
  ·cases h
  ·exact⟨_,_,rfl,by have:=(iX.1 h).1;omega⟩
 ·cases h
theorem Ia{α:Type}(l vs:List α)(a b d m:Nat)(hm:vs.length=m)(hab:a<=b)(hd:b+m<=l.length):
 ((l.take (a+m)++(l.take b).drop a++l.drop (b+m)).take a++vs++(l.take (a+m)++(l.take b).drop a++l.drop (b+m)).drop (a+m)).take (b+m)=l.take a++vs++(l.take b).drop a:=by
 have h1:(l.take (a+m)).length=a+m:=by rw[iW];omega
 have h2:((l.take b).drop a).length=b-a:=by rw[tc,iW];omega
 have e1:(l.take (a+m)++(l.take b).drop a++l.drop (b+m)).take a=l.take a:=by rw[eh,iw (by omega),take_take,vT (by omega)]
 have e2:(l.take (a+m)++(l.take b).drop a++l.drop (b+m)).drop (a+m)=(l.take b).drop a++l.drop (b+m):=by rw[eh];exact drop_left' h1
 rw[e1,e2,<-eh]
 exact take_left' (by rw[fR,fR,iW,h2,hm];omega)
section
variable{P:Program}{sl el kz:Nat}(gB:kz=9\/kz=7\/kz=5)(tS:P.underlying sl=some (.slice el))(t3:P.underlying 3=some (.int .i64))(eT:(P.info? el).map (·.size)=some kz)
include gB tS eT
theorem Ak(g c n m i vc:Nat)(cur:Array Value)(ad:Addr)(vs:aW)(w:World)(hg:w.heap[g]? =some (.cells cur el (0,0)))(vh:cur.size=c*kz)(eW:n+m<=c)(hc:c<=maxLen)(hm:0<m)(uK:vs.length=m*kz)(BL:∀j u,vs[j]? =some u->w.cell? (ad.add j)=some u)(F7:ad.spot=none)(h1:∀u∈vs,u.oneCell'=true)(h2:∀u∈cur.toList.take (n*kz),u.oneCell'=true)(vP:ad.block≠g)(hi:i<n):
 ∃bD cu W1,W1=w.drew.setRow g bD/\(∀ty dc sc,(Builtin.copy_ #[sl,sl] ty #[.slice (some ⟨g,(i+m)*kz,none⟩) (n+m-(i+m)) dc,.slice (some ⟨g,i*kz,none⟩) (n+m-i) sc]).run P w.drew= .ok (goInt ((n-i:Nat):Int)) W1)/\
  (∀ty dc,(Builtin.copy_ #[sl,sl] ty #[.slice (some ⟨g,i*kz,none⟩) (n+m-i) dc,.slice (some ad) m vc]).run P W1= .ok (goInt m) (W1.setRow g cu))/\cu.size=c*kz/\cu.toList.take ((n+m)*kz)=cur.toList.take (i*kz)++vs++(cur.toList.take (n*kz)).drop (i*kz):=by
 unfold maxLen at hc
 have mZ:i<=n:=by omega
 have fm:cur.toList.length=c*kz:=by rw[cW,vh]
 obtain⟨sg,sx⟩:∃sg,sg=(cur.toList.take (n*kz)).drop (i*kz):=⟨_,rfl⟩
 have mi:sg.length=(n-i)*kz:=by rw[sx,tc,iW,fm,Nat.sub_mul];(rcases gB with rfl|rfl|rfl<;>omega)
 have BH:w.drew.heap[g]? =some (.cells cur el (0,0)):=hg
 obtain⟨bD,dS⟩:∃bD:Array Value,bD=(cur.toList.take ((i+m)*kz)++sg++cur.toList.drop ((i+m)*kz+sg.length)).toArray:=⟨_,rfl⟩
 have mH:bD.size=c*kz:=by rw[dS];simp only[Jq,fR,iW,tc,fm,mi];(rcases gB with rfl|rfl|rfl<;>omega)
 have aaX:∀ty dc sc,(Builtin.copy_ #[sl,sl] ty #[.slice (some ⟨g,(i+m)*kz,none⟩) (n+m-(i+m)) dc,.slice (some ⟨g,i*kz,none⟩) (n+m-i) sc]).run P w.drew= .ok (goInt ((n-i:Nat):Int)) (w.drew.setRow g bD):=fun ty dc sc=>by
  rw[dS];exact cV w.drew sl sl ty el g ((i+m)*kz) (n+m-(i+m)) dc ⟨g,i*kz,none⟩ (n+m-i) sc cur el sg kz (n-i) tS eT BH (by simp only[Nat.min_def]<;>split<;>(rcases gB with rfl|rfl|rfl<;>omega)) mi (fun j v hj=>by
   rw[Addr.add_lit,sx,BR,qg]at*;split at hj
   ·have JP:cur[i*kz+j]? =some v:=by rw[<-qf];exact hj
    simp[World.cell?,BH,JP]
   ·cases hj) (by rw[mi,vh];(rcases gB with rfl|rfl|rfl<;>omega)) (fun u hu=>h2 u (xB (by rw[sx]at hu;exact hu)))
 have Co:(w.drew.setRow g bD).heap[g]? =some (.cells bD el (0,0)):=setRow_heap w.drew g cur bD el _ BH
 obtain⟨cu,tv⟩:∃cu:Array Value,cu=(bD.toList.take (i*kz)++vs++bD.toList.drop (i*kz+vs.length)).toArray:=⟨_,rfl⟩
 obtain⟨W1,iJ⟩:∃W1,W1=w.drew.setRow g bD:=⟨_,rfl⟩
 have aeC:∀ty dc,(Builtin.copy_ #[sl,sl] ty #[.slice (some ⟨g,i*kz,none⟩) (n+m-i) dc,.slice (some ad) m vc]).run P W1= .ok (goInt m) (W1.setRow g cu):=fun ty dc=>by
  rw[tv];exact cV W1 sl sl ty el g (i*kz) (n+m-i) dc ad m vc bD el vs kz m tS eT (by rw[iJ];exact Co) (by simp only[Nat.min_def]<;>split<;>(rcases gB with rfl|rfl|rfl<;>omega)) uK (fun j v hj=>by rw[iJ];have:(w.drew.setRow g bD).heap[(ad.add j).block]? =w.drew.heap[(ad.add j).block]? :=setRow_other w.drew g _ bD (by rw[kL];exact vP);unfold World.cell?;rw[this];exact BL j v hj) (by rw[uK,mH];(rcases gB with rfl|rfl|rfl<;>omega)) h1
 rw[<-iJ]at aaX
 have nk:cu.size=c*kz/\cu.toList.take ((n+m)*kz)=cur.toList.take (i*kz)++vs++(cur.toList.take (n*kz)).drop (i*kz):=by refine⟨by rw[tv];simp only[Jq,fR,iW,tc,cW,mH,uK];(rcases gB with rfl|rfl|rfl<;>omega),?_⟩;have:=Ia cur.toList vs (i*kz) (n*kz) 0 (m*kz) uK (by rcases gB with rfl|rfl|rfl<;>omega) (by rw[fm];(rcases gB with rfl|rfl|rfl<;>omega));rw[tv,dS,mi,uK,sx];rw[show(i+m)*kz=i*kz+m*kz by rcases gB with rfl|rfl|rfl<;>omega,show i*kz+m*kz+(n-i)*kz=n*kz+m*kz by rcases gB with rfl|rfl|rfl<;>omega,show(n+m)*kz=n*kz+m*kz by rcases gB with rfl|rfl|rfl<;>omega];exact this
 exact⟨bD,cu,W1,iJ,aaX,aeC,nk⟩
include t3 in
theorem xd(i0:TypeInfo)(z:Value)(bytes:Nat)(Nr:P.info? el=some i0)(Rc:i0.zero=some z)(ux:i0.size=kz)(nQ:i0.bytes=bytes)(zO:z.cells.size=kz)(g c n m i vc:Nat)(cur:Array Value)(ad:Addr)(vs:aW)(w:World)(hg:w.heap[g]? =some (.cells cur el (0,0)))(vh:cur.size=c*kz)(yA:n<=c)(eW:c<n+m)(JL:(n+m)*bytes<=140737488355328)(hmx:n+m<=maxLen)(hm:0<m)(uK:vs.length=m*kz)(BL:∀j u,vs[j]? =some u->w.cell? (ad.add j)=some u)(OH:ad.block<w.heap.size)(h1:∀u∈vs,u.oneCell'=true)(h2:∀u∈cur.toList.take (n*kz),u.oneCell'=true)(hi:i<n):
 ∃G cu W1 W2 W3,n+m<=G/\G<=maxLen/\(∀ty,(Builtin.append_ #[sl,3] ty #[.slice (some ⟨g,0,none⟩) i c,.int .i64 ((n:Int)+(m:Int)-(i:Int))]).run P w= .ok (.slice (some ⟨w.heap.size,0,none⟩) (n+m) G) W1)/\(∀ty dc,(Builtin.copy_ #[sl,sl] ty #[.slice (some ⟨w.heap.size,i*kz,none⟩) (n+m-i) dc,.slice (some ad) m vc]).run P W1= .ok (goInt m) W2)/\(∀ty dc sc,(Builtin.copy_ #[sl,sl] ty #[.slice (some ⟨w.heap.size,(i+m)*kz,none⟩) (n+m-(i+m)) dc,.slice (some ⟨g,i*kz,none⟩) (n-i) sc]).run P W2.drew= .ok (goInt ((n-i:Nat):Int)) W3)/\
  (W3.os=w.os/\W3.tape=w.tape/\W3.output=w.output/\W3.heap=w.heap.push (.cells cu el))/\cu.size=G*kz/\cu.toList.take ((n+m)*kz)=cur.toList.take (i*kz)++vs++(cur.toList.take (n*kz)).drop (i*kz):=by
 have mZ:i<=n:=by omega
 have aeO:=hmx
 unfold maxLen at aeO
 have hgw:g<w.heap.size:=(iX.1 hg).1
 have hik:i+(n+m-i)=n+m:=by rcases gB with rfl|rfl|rfl<;>omega
 have fm:cur.toList.length=c*kz:=by rw[cW,vh]
 have hold:(Builtin.firstCells i0.size i (.slice (some ⟨g,0,none⟩) i c)).run P w.drew= .ok (cur.toList.take (i*kz)).toArray w.drew:=by
  rw[ux];exact run_firstCells_some w.drew kz i ⟨g,0,none⟩ i c _ (by rw[iW,fm];(rcases gB with rfl|rfl|rfl<;>omega)) (fun j v hj=>by
   rw[Addr.add_lit,eG];rw[qg]at hj;split at hj
   ·have JP:cur[j]? =some v:=by rw[<-qf];exact hj
    have BH:w.drew.heap[g]? =some (.cells cur el (0,0)):=hg;simp[World.cell?,BH,JP]
   ·cases hj)
 have Wm:(n:Int)+(m:Int)-(i:Int)=((n+m-i:Nat):Int):=by rcases gB with rfl|rfl|rfl<;>omega
 obtain⟨G,hG⟩:∃G,G=grownCap w (n+m) c el:=⟨_,rfl⟩
 have hGn:n+m<=G:=by rw[hG];exact grownCap_ge w _ _ _
 have hGm:G<=maxLen:=by rw[hG];exact grownCap_le_maxLen w (n+m) c el hmx
 have arm:G<=9223372036854775807:=by unfold maxLen at hGm;(rcases gB with rfl|rfl|rfl<;>omega)
 obtain⟨ROW,aez⟩:∃ROW:Array Value,ROW=(cur.toList.take (i*kz)).toArray++Builtin.zeroCells z.cells (n+m-i)++Builtin.zeroCells z.cells (G-(n+m)):=⟨_,rfl⟩
 have hRs:ROW.size=G*kz:=by rw[aez];simp only[Array.size_append,Jq,iW,size_zeroCells,zO,fm];rcases gB with rfl|rfl|rfl<;>omega
 obtain⟨W1,iJ⟩:∃W1,W1=w.drew.alloc (.cells ROW el):=⟨_,rfl⟩
 have hrz:∀ty,(Builtin.append_ #[sl,3] ty #[.slice (some ⟨g,0,none⟩) i c,.int .i64 ((n:Int)+(m:Int)-(i:Int))]).run P w= .ok (.slice (some ⟨w.heap.size,0,none⟩) (n+m) G) W1:=fun ty=>by have h:=Lib.run_append_grow_zeros w sl 3 ty el i0 z .i64 .i64 tS t3 Nr Rc (some ⟨g,0,none⟩) i c _ hold (n+m-i) (by rcases gB with rfl|rfl|rfl<;>omega) (by rcases gB with rfl|rfl|rfl<;>omega) (by rcases gB with rfl|rfl|rfl<;>omega) (by rcases gB with rfl|rfl|rfl<;>omega) (by rw[nQ];have:=fu bytes (show n+m-i<=n+m by rcases gB with rfl|rfl|rfl<;>omega);(rcases gB with rfl|rfl|rfl<;>omega)) (by rw[nQ,hik];exact growslice_fits eW JL);rw[hik,<-hG,<-aez,<-iJ]at h;rw[Wm];exact h
 have hN:W1.heap[w.heap.size]? =some (.cells ROW el (0,0)):=by rw[iJ];exact heap_alloc_new w.drew _
 have hO:∀k,k<w.heap.size->W1.heap[k]? =w.heap[k]? :=fun k hk=>by rw[iJ];show(w.heap.push (.cells ROW el))[k]? =_;rw[Array.getElem?_push,aE (by rcases gB with rfl|rfl|rfl<;>omega)]
 obtain⟨bD,dS⟩:∃bD:Array Value,bD=(ROW.toList.take (i*kz)++vs++ROW.toList.drop (i*kz+vs.length)).toArray:=⟨_,rfl⟩
 have hRl:ROW.toList.length=G*kz:=by rw[cW,hRs]
 have mH:bD.size=G*kz:=by rw[dS];simp only[Jq,fR,iW,tc,hRl,uK];(rcases gB with rfl|rfl|rfl<;>omega)
 obtain⟨W2,Dg⟩:∃W2,W2=W1.setRow w.heap.size bD:=⟨_,rfl⟩
 have aeD:∀ty dc,(Builtin.copy_ #[sl,sl] ty #[.slice (some ⟨w.heap.size,i*kz,none⟩) (n+m-i) dc,.slice (some ad) m vc]).run P W1= .ok (goInt m) W2:=fun ty dc=>by
  rw[Dg,dS];exact cV W1 sl sl ty el w.heap.size (i*kz) (n+m-i) dc ad m vc ROW el vs kz m tS eT hN (by simp only[Nat.min_def]<;>split<;>(rcases gB with rfl|rfl|rfl<;>omega)) uK (fun j v hj=>by have:W1.heap[(ad.add j).block]? =w.heap[(ad.add j).block]? :=hO _ (by rw[kL];exact OH);unfold World.cell?;rw[this];exact BL j v hj) (by rw[uK,hRs];(rcases gB with rfl|rfl|rfl<;>omega)) h1
 obtain⟨sg,sx⟩:∃sg,sg=(cur.toList.take (n*kz)).drop (i*kz):=⟨_,rfl⟩
 have mi:sg.length=(n-i)*kz:=by rw[sx,tc,iW,fm,Nat.sub_mul];(rcases gB with rfl|rfl|rfl<;>omega)
 obtain⟨cu,tv⟩:∃cu:Array Value,cu=(bD.toList.take ((i+m)*kz)++sg++bD.toList.drop ((i+m)*kz+sg.length)).toArray:=⟨_,rfl⟩
 have Wk:W2.drew.heap[w.heap.size]? =some (.cells bD el (0,0)):=by rw[Dg];exact setRow_heap W1 w.heap.size ROW bD el _ hN
 have hO2:W2.drew.heap[g]? =some (.cells cur el (0,0)):=by rw[Dg];exact((setRow_other W1 w.heap.size g bD (by rcases gB with rfl|rfl|rfl<;>omega)).trans (hO g hgw)).trans hg
 obtain⟨W3,hW3⟩:∃W3,W3=W2.drew.setRow w.heap.size cu:=⟨_,rfl⟩
 have aeG:∀ty dc sc,(Builtin.copy_ #[sl,sl] ty #[.slice (some ⟨w.heap.size,(i+m)*kz,none⟩) (n+m-(i+m)) dc,.slice (some ⟨g,i*kz,none⟩) (n-i) sc]).run P W2.drew= .ok (goInt ((n-i:Nat):Int)) W3:=fun ty dc sc=>by
  rw[hW3,tv];exact cV W2.drew sl sl ty el w.heap.size ((i+m)*kz) (n+m-(i+m)) dc ⟨g,i*kz,none⟩ (n-i) sc bD el sg kz (n-i) tS eT Wk (by simp only[Nat.min_def]<;>split<;>(rcases gB with rfl|rfl|rfl<;>omega)) mi (fun j v hj=>by
   rw[Addr.add_lit];rw[sx,BR,qg]at hj;split at hj
   ·have JP:cur[i*kz+j]? =some v:=by rw[<-qf];exact hj
    simp[World.cell?,hO2,JP]
   ·cases hj) (by rw[mi,mH];(rcases gB with rfl|rfl|rfl<;>omega)) (fun u hu=>h2 u (xB (by rw[sx]at hu;exact hu)))
 have nk:cu.size=G*kz/\cu.toList.take ((n+m)*kz)=cur.toList.take (i*kz)++vs++(cur.toList.take (n*kz)).drop (i*kz):=by
  refine⟨by rw[tv];simp only[Jq,fR,iW,tc,cW,mH,mi];(rcases gB with rfl|rfl|rfl<;>omega),?_⟩;have e0:ROW.toList.take (i*kz)=cur.toList.take (i*kz):=by rw[aez];simp only[Array.toList_append,eh];rw[iw (by rw[iW,fm];(rcases gB with rfl|rfl|rfl<;>omega)),take_take,Nat.min_self]
  have e1:bD.toList.take ((i+m)*kz)=cur.toList.take (i*kz)++vs:=by rw[dS,e0];exact take_left' (by rw[fR,iW,fm,uK];(rcases gB with rfl|rfl|rfl<;>omega))
  rw[tv,e1,<-sx];exact take_left' (by rw[fR,fR,iW,fm,uK,mi];(rcases gB with rfl|rfl|rfl<;>omega))
 have X:W3.os=w.os/\W3.tape=w.tape/\W3.output=w.output/\W3.heap=w.heap.push (.cells cu el):=by
  refine⟨by rw[hW3,Dg,iJ];rfl,by rw[hW3,Dg,iJ];rfl,by rw[hW3,Dg,iJ];rfl,?_⟩;rw[hW3];show(W2.setRow w.heap.size cu).heap=_;rw[Dg,setRow_setRow,iJ];unfold World.setRow;apply Array.ext_getElem?;intro k;show((w.heap.push (.cells ROW el)).modify w.heap.size _)[k]? =_;rw[Array.getElem?_modify,Array.getElem?_push,Array.getElem?_push];by_cases hk:k=w.heap.size
  ·subst hk;simp
  ·rw[aE (fun h=>hk h.symm)];simp[hk]
 exact⟨G,cu,W1,W2,W3,hGn,hGm,hrz,aeD,aeG,X,nk⟩
end
theorem agq{P:Program}(w:World){sl el k o:Nat}(tS:P.underlying sl=some (.slice el))(zE:∀w,(Go.sizeOf el).run P w= .ok k w){ad:Addr}{g m vc lb cb:Nat}{cur:Array Value}{tA:TypeId}{kA:Nat}(vP:ad.block≠g)(hsA:w.shape? ad.block=some (tA,kA))(hg:w.heap[g]? =some (.cells cur el (0,0)))(hkA:kA≠0)(hc:cur.size≠0):
 (((Extern.SlicesOverlaps.overlaps #[sl,sl] #[4] #[.slice (some ad) m vc,.slice (some ⟨g,o,none⟩) lb cb]).run P w).andThen fun v w'=> .ok (Next.value v) w')= .ok (.value (.bool false)) w:=by
 have h:=oP w sl 4 el tS k zE ad ⟨g,o,none⟩ m vc lb cb vP tA el kA cur.size hsA (IU hg) hc hkA (by simp[World.frozen?,hg]) (by simp[World.frozen?,hg])
 rw[h];rfl
abbrev aa1(f o sl el kz:Nat)(fn:Func):Prop:=Tryz.prog.funcs[f]? =some fn->fn.ntmps=95->Tryz.prog.underlying sl=some (.slice el)->(∀w,(isAgg sl).run Tryz.prog w= .ok false w)->(∀w,(Go.sizeOf sl).run Tryz.prog w= .ok 1 w)->(∀w,(Go.sizeOf el).run Tryz.prog w= .ok kz w)->(Tryz.prog.info? el).map (·.size)=some kz->(∀xs w,(callFunc o xs).run Tryz.prog w=((Extern.SlicesOverlaps.overlaps #[sl,sl] #[4] xs).run Tryz.prog w).andThen fun v w'=> .ok (Next.value v) w')->
 (∀(g c n m i vc:Nat)(cur:Array Value)(ad:Addr)(vs:aW)(w:World)(hg:w.heap[g]? =some (.cells cur el (0,0)))(vh:cur.size=c*kz)(eW:n+m<=c)(hc:c<=maxLen)(hm:0<m)(uK:vs.length=m*kz)
   (BL:∀j u,vs[j]? =some u->w.cell? (ad.add j)=some u) (F7:ad.spot=none) (h1:∀u∈vs,u.oneCell'=true) (h2:∀u∈cur.toList.take (n*kz),u.oneCell'=true) (vP:ad.block≠g) (hi:i<n),Calls Tryz.prog f #[.slice (some ⟨g,0,none⟩) n c,.int .i64 i,.slice (some ad) m vc] w fun e w'=>e= .returned (.slice (some ⟨g,0,none⟩) (n+m) c)/\∃dy,w'.os=w.os/\w'.tape=w.tape/\w'.output=w.output/\w'.heap=(w.setRow g dy).heap/\dy.size=c*kz/\dy.toList.take ((n+m)*kz)=cur.toList.take (i*kz)++vs++(cur.toList.take (n*kz)).drop (i*kz))/\
 (∀(i0:TypeInfo)(z:Value)(bytes:Nat)(Nr:Tryz.prog.info? el=some i0)(Rc:i0.zero=some z)(ux:i0.size=kz)(nQ:i0.bytes=bytes)(zO:z.cells.size=kz)
   (g c n m i vc:Nat) (cur:Array Value) (ad:Addr) (vs:aW) (w:World) (hg:w.heap[g]? =some (.cells cur el (0,0))) (vh:cur.size=c*kz) (yA:n<=c) (eW:c<n+m) (JL:(n+m)*bytes<=140737488355328) (hmx:n+m<=maxLen) (hm:0<m) (uK:vs.length=m*kz)
   (BL:∀j u,vs[j]? =some u->w.cell? (ad.add j)=some u) (OH:ad.block<w.heap.size) (h1:∀u∈vs,u.oneCell'=true) (h2:∀u∈cur.toList.take (n*kz),u.oneCell'=true) (hi:i<n),Calls Tryz.prog f #[.slice (some ⟨g,0,none⟩) n c,.int .i64 i,.slice (some ad) m vc] w fun e w'=>∃G dy,e= .returned (.slice (some ⟨w.heap.size,0,none⟩) (n+m) G)/\n+m<=G/\G<=maxLen/\w'.os=w.os/\w'.tape=w.tape/\w'.output=w.output/\w'.heap=w.heap.push (.cells dy el)/\dy.size=G*kz/\dy.toList.take ((n+m)*kz)=cur.toList.take (i*kz)++vs++(cur.toList.take (n*kz)).drop (i*kz))/\
 ∀(base:Option Addr)(n c m vc:Nat)(ad:Addr)(w w':World)(v':Value)(hr:(Builtin.append_ #[sl,sl] sl #[.slice base n c,.slice (some ad) m vc]).run Tryz.prog w= .ok v' w')(hm:0<m)(yA:n<=c)(hb:base=none->c=0),Calls Tryz.prog f #[.slice base n c,.int .i64 n,.slice (some ad) m vc] w fun e w2=>e= .returned v'/\w2=w'
theorem dc:aa1 201 288 51 88 9 Tryz.f201/\aa1 302 335 66 223 7 Tryz.f302/\aa1 343 358 185 361 5 Tryz.f343:=by
 refine⟨?_,?_,?_⟩;all_goals
  intro hf hn tS aS zS zE eT XS
  have mixed:Tryz.prog.follows .mixedOrders=true:=jJ
  have t0:=Tryz.underlying3;have a0:=Tryz.isAgg3;have z0:=Tryz.sizeOf3;have u0:=run_underlying Tryz.underlying3
  have t4:=Tryz.underlying4;have a4:=Tryz.isAgg4;have z4:=Tryz.sizeOf4;have u4:=run_underlying Tryz.underlying4
  have uS:=run_underlying tS
  refine⟨?_,?_,?_⟩
  ·intro g c n m i vc cur ad vs w hg vh eW hc hm uK BL F7 h1 h2 vP hi;obtain⟨bD,cu,W1,iJ,aaX,aeC,nk⟩:=Ak (by decide) tS eT g c n m i vc cur ad vs w hg vh eW hc hm uK BL F7 h1 h2 vP hi;unfold maxLen at hc;have ux:¬((m:Int)=0):=by omega
   have nQ:¬((i:Int)=(n:Int)):=by omega
   have hw1:IntKind.i64.wrap ((i:Int)+(m:Int))=(i:Int)+(m:Int):=by rw[IntKind.wrap_i64];omega
   have DS:IntKind.i64.wrap ((n:Int)+(m:Int))=(n:Int)+(m:Int):=by rw[IntKind.wrap_i64];omega
   have SX:(0:Int)<=(i:Int)+(m:Int):=by omega
   have mZ:i<=n:=by omega
   have htn:((i:Int)+(m:Int)).toNat=i+m:=by omega
   have azi:((n:Int)+(m:Int)).toNat=n+m:=by omega
   have SY:¬(c=i+m):=by omega
   have hb3:(i:Int)<=(n:Int)+(m:Int):=by omega
   have hb4:¬(c=i):=by omega
   obtain⟨tA,kA,hsA,hkA⟩:=Bv (BL 0 _ (cB (by rw[uK];omega)));rw[kL]at hsA;have hov:=fun(o lb cb:Nat)=>(XS _ w).trans (agq w tS zE (ad:=ad) (g:=g) (o:=o) (m:=m) (vc:=vc) (lb:=lb) (cb:=cb) vP hsA hg hkA (by omega));have X:Aside (W1=w.drew.setRow g bD):=iJ;have Y:Aside _:=nk;clear iJ nk h2 BL XS
   go_enter hf,hn
   go_wp2_with (simp only[hov])
   go_region_law_o (refine step_copy_runI rfl _ _ _ _ rfl _ _ (by simp[Act.eval,Act.put]) (by simp[Act.eval,Act.put]) (aaX _ _ _) ?_)
   go_wp2_with (at_builtin;refine wpList_copy_runI _ rfl _ _ _ _ rfl _ _ rfl rfl (aeC _ _) ?_)
   go_ret
   have iJ:=X.out;exact⟨rfl,cu,by rw[iJ];rfl,by rw[iJ];rfl,by rw[iJ];rfl,by rw[iJ,setRow_setRow];rfl,Y.out⟩
  ·intro i0 z bytes Nr Rc ux nQ zO g c n m i vc cur ad vs w hg vh yA eW JL hmx hm uK BL OH h1 h2 hi;obtain⟨G,cu,W1,W2,W3,hGn,hGm,hrz,aeD,aeG,X,nk⟩:=xd (by decide) tS t0 eT i0 z bytes Nr Rc ux nQ zO g c n m i vc cur ad vs w hg vh yA eW JL hmx hm uK BL OH h1 h2 hi;have aeO:=hmx;unfold maxLen at aeO;have arm:G<=9223372036854775807:=by unfold maxLen at hGm;omega
   have Vh:¬((m:Int)=0):=by omega
   have hz4:¬((i:Int)=(n:Int)):=by omega
   have hz5:(c:Int)<(n:Int)+(m:Int):=by omega
   have hw1:IntKind.i64.wrap ((i:Int)+(m:Int))=(i:Int)+(m:Int):=by rw[IntKind.wrap_i64];omega
   have DS:IntKind.i64.wrap ((n:Int)+(m:Int))=(n:Int)+(m:Int):=by rw[IntKind.wrap_i64];omega
   have hw3:IntKind.i64.wrap ((n:Int)+(m:Int)-(i:Int))=(n:Int)+(m:Int)-(i:Int):=by rw[IntKind.wrap_i64];omega
   have SX:(0:Int)<=(i:Int)+(m:Int):=by omega
   have mZ:i<=n:=by omega
   have htn:((i:Int)+(m:Int)).toNat=i+m:=by omega
   have hb3:(i:Int)<=(n:Int):=by omega
   have hGi:¬(G=i):=by omega
   have axZ:¬(G=i+m):=by omega
   have hci:¬(c=i):=by omega
   have X:Aside _:=X;have Y:Aside _:=nk;clear nk h2 BL XS
   go_enter hf,hn
   go_wp2_with (first
    |(at_builtin;refine Lib.wpList_append_run _ rfl _ _ _ _ rfl _ _ rfl rfl _ _ (hrz _) ?_)
    |(at_builtin;refine wpList_copy_runI _ rfl _ _ _ _ rfl _ _ rfl rfl (aeD _ _) ?_))
   go_region_law_o (refine step_copy_runI rfl _ _ _ _ rfl _ _ (by simp[Act.eval,Act.put]) (by simp[Act.eval,Act.put]) (aeG _ _ _) ?_)
   go_wp2
   go_ret
   exact⟨G,cu,rfl,hGn,hGm,X.out.1,X.out.2.1,X.out.2.2.1,X.out.2.2.2,Y.out.1,Y.out.2⟩
  ·intro base n c m vc ad w w' v' hr hm yA hb;clear XS;have Vh:¬((m:Int)=0):=by omega
   cases base with
   |none=>
    have Nq:=hb rfl;subst Nq;have HI:n=0:=by omega
    subst HI
    go_enter hf,hn
    go_wp2_with (at_builtin;refine Lib.wpList_append_run _ rfl _ _ _ _ rfl _ _ rfl rfl _ _ hr ?_)
    all_goals(go_ret;exact⟨rfl,rfl⟩)
   |some a=>
    go_enter hf,hn
    go_wp2_with (at_builtin;refine Lib.wpList_append_run _ rfl _ _ _ _ rfl _ _ rfl rfl _ _ hr ?_)
    all_goals(go_ret;exact⟨rfl,rfl⟩)
end
section
open Go.Shelf Go.Lib
def yW{P:Program}(w:World)(t e ty:TypeId)(z:Value)(ht:P.underlying t=some (.slice e))(hv:∀w,(zeroValue e).run P w= .ok z w)(size:Nat)(hz:z.cells.size=size)(h1:∀u∈z.cells.toList,u.oneCell'=true)(g o n c:Nat)(cur:Array Value)(hg:w.heap[g]? =some (.cells cur e (0,0)))(hn:0<n)(gj:o+n*size<=cur.size):
 ∃dy,(Builtin.clear_ #[t] ty #[.slice (some ⟨g,o,none⟩) n c]).run P w= .ok (.tuple #[]) (w.setRow g dy)/\dy.size=cur.size/\dy.toList.take o=cur.toList.take o:=by
 have hl:(Builtin.zeroCells z.cells n).toList.length=n*size:=by rw[cW,size_zeroCells,hz]
 have fC:=run_storeCells_at P g o e (Builtin.zeroCells z.cells n).toList 0 cur w hg (by rw[hl];simpa using gj) (fun u hu=>by
  unfold Builtin.zeroCells at hu;rw[Array.toList_map]at hu;obtain⟨k,hk,rfl⟩:=pB.1 hu;have hk:k<n*z.cells.size:=by simpa using hk
  have hp:0<z.cells.size:=by
   rcases eq_zero_or_pos z.cells.size with h|h
   ·rw[h]at hk;omega
   ·exact h
  have hm:=mod_lt k hp;rw[getElem!_pos z.cells _ hm];exact h1 _ (by rw[Array.mem_toList_iff];exact Array.getElem_mem hm))
 obtain⟨m,rfl⟩:∃m,n=m+1:=⟨n-1,by omega⟩
 refine⟨(cur.toList.take o++(Builtin.zeroCells z.cells (m+1)).toList++cur.toList.drop (o+(Builtin.zeroCells z.cells (m+1)).toList.length)).toArray,?_,?_,?_⟩
 ·simp only[pA]at fC;simp only[Builtin.clear_];simp[run_underlying ht,hv,fC]
 ·simp only[Jq,fR,iW,tc,hl,cW];omega
 ·show(cur.toList.take o++_++_).take o=_;rw[eh,iw (by rw[iW,cW];omega),take_take,Nat.min_self]
def vI{P:Program}{ops:Array Oper}{o:Oper}{a:Act}{w:World}{K:Act->World->Prop}{Q:Exit->Act->World->Prop}{E:Prop}(hg:o.guard=none)(d x:Operand)(dT sT:TypeId)(hop:o.op=Op.call {callee:=Callee.builtin Builtin.append,args:= #[d,x],argTypes:= #[dT,sT]})(v u:Value)(hd:a.eval d=v)(hx:a.eval x=u){v':Value}{w':World}(hr:(Builtin.append_ #[dT,sT] o.type #[v,u]).run P w= .ok v' w')(hK:K (a.put o.dst v') w'):
 if Region.wanted o (yielded ops a.tmps)=true then Oper.wp P o a w K Q else E:=by
 have hw:Region.wanted o (yielded ops a.tmps)=true:=by simp[Region.wanted,hg]
 rw[aA hw]
 unfold Oper.wp
 simp[execOp,hop,resolve,invoke,builtin,hd,hx,hr,Result.andThen]
 exact hK
def G9(base:Option Addr)(n c i:Nat)(w:World)(hi:i<=n)(yA:n<=c)(hb:base=none->c=0):
 Calls Tryz.prog 426 #[.slice base n c,.int .i64 i,.int .i64 i] w fun e w'=>e= .returned (.slice base n c)/\w'=w:=by
 have mixed:Tryz.prog.follows .mixedOrders=true:=jJ
 have t0:=Tryz.underlying3;have a0:=Tryz.isAgg3;have z0:=Tryz.sizeOf3;have u0:=run_underlying Tryz.underlying3
 have t4:=Tryz.underlying4;have a4:=Tryz.isAgg4;have z4:=Tryz.sizeOf4;have u4:=run_underlying Tryz.underlying4
 have tS:=Tryz.underlying185;have aS:=Tryz.isAgg185;have zS:=Tryz.sizeOf185;have uS:=run_underlying Tryz.underlying185
 have zE:=Tryz.sizeOf361
 cases base with
 |none=>
  have Nq:=hb rfl;subst Nq;have HI:n=0:=by omega
  subst HI;have Nr:i=0:=by omega
  subst Nr
  go_enter Tryz.func426,Tryz.ntmps426
  go_wp2
  all_goals(go_ret;exact⟨rfl,rfl⟩)
 |some a=>
  go_enter Tryz.func426,Tryz.ntmps426
  go_wp2
  all_goals(go_ret;exact⟨rfl,rfl⟩)
def Jv(i0:TypeInfo)(z:Value)(Nr:Tryz.prog.info? 361=some i0)(ux:i0.size=5)(zO:z.cells.size=5)(hzv:∀w,(zeroValue 361).run Tryz.prog w= .ok z w)(hzo:∀u∈z.cells.toList,u.oneCell'=true)(g c n i j:Nat)(cur:Array Value)(w:World)(hg:w.heap[g]? =some (.cells cur 361 (0,0)))(vh:cur.size=c*5)(hc:c<=maxLen)(Ov:i<j)(yA:n<=c)(hj:j<=n)(hcj:¬(c=j))(h2:∀u∈cur.toList.take (n*5),u.oneCell'=true):
 Calls Tryz.prog 426 #[.slice (some ⟨g,0,none⟩) n c,.int .i64 i,.int .i64 j] w fun e w'=>e= .returned (.slice (some ⟨g,0,none⟩) (i+(n-j)) c)/\
  ∃dy,w'.os=w.os/\w'.tape=w.tape/\w'.output=w.output/\w'.heap=(w.setRow g dy).heap/\dy.size=c*5/\dy.toList.take ((i+(n-j))*5)=cur.toList.take (i*5)++(cur.toList.take (n*5)).drop (j*5):=by
 have mixed:Tryz.prog.follows .mixedOrders=true:=jJ
 have t0:=Tryz.underlying3;have a0:=Tryz.isAgg3;have z0:=Tryz.sizeOf3;have u0:=run_underlying Tryz.underlying3
 have t4:=Tryz.underlying4;have a4:=Tryz.isAgg4;have z4:=Tryz.sizeOf4;have u4:=run_underlying Tryz.underlying4
 have tS:=Tryz.underlying185;have aS:=Tryz.isAgg185;have zS:=Tryz.sizeOf185;have uS:=run_underlying Tryz.underlying185
 have zE:=Tryz.sizeOf361
 unfold maxLen at hc
 have fm:cur.toList.length=c*5:=by rw[cW,vh]
 obtain⟨sg,sx⟩:∃sg,sg=(cur.toList.take (n*5)).drop (j*5):=⟨_,rfl⟩
 have mi:sg.length=(n-j)*5:=by rw[sx,tc,iW,fm];first|omega|(rw[Nat.sub_mul];omega)
 have BH:w.drew.heap[g]? =some (.cells cur 361 (0,0)):=hg
 obtain⟨bD,dS⟩:∃bD:Array Value,bD=(cur.toList.take (i*5)++sg++cur.toList.drop (i*5+sg.length)).toArray:=⟨_,rfl⟩
 have mH:bD.size=c*5:=by rw[dS];simp only[Jq,fR,iW,tc,fm,mi];omega
 obtain⟨W1,iJ⟩:∃W1,W1=w.drew.setRow g bD:=⟨_,rfl⟩
 have hap:∀ty,(Builtin.append_ #[185,185] ty #[.slice (some ⟨g,0,none⟩) i c,.slice (some ⟨g,j*5,none⟩) (n-j) (c-j)]).run Tryz.prog w.drew= .ok (.slice (some ⟨g,0,none⟩) (i+(n-j)) c) W1:=fun ty=>by
  have h:=run_append_room (P:=Tryz.prog) w.drew 185 ty 361 i0 tS Nr g i c cur BH ⟨g,j*5,none⟩ (n-j) (c-j) sg (by rw[ux];exact mi) (fun t v ht=>by
   rw[Addr.add_lit];rw[sx,BR,qg]at ht;split at ht
   ·have ht':cur[j*5+t]? =some v:=by rw[<-qf];exact ht
    first|(exfalso;omega)|(simp[World.cell?,BH,ht'];done)
   ·cases ht) (fun u hu=>h2 u (xB (by rw[sx]at hu;exact hu))) (by omega) (by rw[ux,mi,vh];omega)
  rw[ux,<-dS,<-iJ]at h;exact h
 have Co:W1.heap[g]? =some (.cells bD 361 (0,0)):=by rw[iJ];exact setRow_heap w.drew g cur bD 361 _ BH
 have X8:∀ty,∃cu,(Builtin.clear_ #[185] ty #[.slice (some ⟨g,(i+(n-j))*5,none⟩) (n-(i+(n-j))) (c-(i+(n-j)))]).run Tryz.prog W1= .ok (.tuple #[]) (W1.setRow g cu)/\cu.size=bD.size/\cu.toList.take ((i+(n-j))*5)=bD.toList.take ((i+(n-j))*5):=fun ty=>
  yW W1 185 361 ty z tS hzv 5 zO hzo g _ _ _ bD Co (by omega) (by rw[mH];omega)
 obtain⟨cu,JM,X6,ht2⟩:=X8 0
 have as0:∀ty,(Builtin.clear_ #[185] ty #[.slice (some ⟨g,(i+(n-j))*5,none⟩) (n-(i+(n-j))) (c-(i+(n-j)))]).run Tryz.prog W1= .ok (.tuple #[]) (W1.setRow g cu):=fun ty=>JM
 have nk:cu.size=c*5/\cu.toList.take ((i+(n-j))*5)=cur.toList.take (i*5)++(cur.toList.take (n*5)).drop (j*5):=by refine⟨by rw[X6,mH],?_⟩;rw[ht2,dS,<-sx];exact take_left' (by rw[fR,iW,fm,mi];omega)
 have X:Aside (W1=w.drew.setRow g bD):=iJ
 have Y:Aside (cu.size=c*5/\cu.toList.take ((i+(n-j))*5)=cur.toList.take (i*5)++(cur.toList.take (n*5)).drop (j*5)):=nk
 have hq1:¬((i:Int)=(j:Int)):=by omega
 have Tj:¬(c=i+(n-j)):=by omega
 have hq3:(i:Int)<=(j:Int):=by omega
 have hq4:(j:Int)<=(n:Int):=by omega
 have hq5:(i:Int)<=(c:Int):=by omega
 have hq6:i<=c:=by omega
 have hq7:j<=c:=by omega
 have hq8:i+(n-j)<=n:=by omega
 clear iJ nk fm sx mi BH dS mH Co X8 JM X6 ht2 h2
 go_enter Tryz.func426,Tryz.ntmps426
 go_wp2_with fail
 go_region_law_o (refine vI rfl _ _ 185 185 rfl _ _ (by simp[Act.eval,Act.put]) (by simp[Act.eval,Act.put]) (hap _) ?_)
 go_wp2
 go_ret
 have iJ:=X.out
 exact⟨rfl,cu,by rw[iJ];rfl,by rw[iJ];rfl,by rw[iJ];rfl,by rw[iJ,setRow_setRow];rfl,Y.out⟩
def Ha(i0:TypeInfo)(z:Value)(Nr:Tryz.prog.info? 361=some i0)(ux:i0.size=5)(zO:z.cells.size=5)(hzv:∀w,(zeroValue 361).run Tryz.prog w= .ok z w)(hzo:∀u∈z.cells.toList,u.oneCell'=true)(g n i:Nat)(cur:Array Value)(w:World)(hg:w.heap[g]? =some (.cells cur 361 (0,0)))(vh:cur.size=n*5)(hc:n<=maxLen)(Ov:i<n)(h2:∀u∈cur.toList.take (n*5),u.oneCell'=true):
 Calls Tryz.prog 426 #[.slice (some ⟨g,0,none⟩) n n,.int .i64 i,.int .i64 n] w fun e w'=>e= .returned (.slice (some ⟨g,0,none⟩) i n)/\
  ∃dy,w'.os=w.os/\w'.tape=w.tape/\w'.output=w.output/\w'.heap=(w.setRow g dy).heap/\dy.size=n*5/\dy.toList.take (i*5)=cur.toList.take (i*5)++(cur.toList.take (n*5)).drop (n*5):=by
 have mixed:Tryz.prog.follows .mixedOrders=true:=jJ
 have t0:=Tryz.underlying3;have a0:=Tryz.isAgg3;have z0:=Tryz.sizeOf3;have u0:=run_underlying Tryz.underlying3
 have t4:=Tryz.underlying4;have a4:=Tryz.isAgg4;have z4:=Tryz.sizeOf4;have u4:=run_underlying Tryz.underlying4
 have tS:=Tryz.underlying185;have aS:=Tryz.isAgg185;have zS:=Tryz.sizeOf185;have uS:=run_underlying Tryz.underlying185
 have zE:=Tryz.sizeOf361
 unfold maxLen at hc
 have fm:cur.toList.length=n*5:=by rw[cW,vh]
 obtain⟨sg,sx⟩:∃sg,sg=(cur.toList.take (n*5)).drop (n*5):=⟨_,rfl⟩
 have mi:sg.length=0*5:=by rw[sx,tc,iW,fm];first|omega|(rw[Nat.sub_mul];omega)
 have BH:w.drew.heap[g]? =some (.cells cur 361 (0,0)):=hg
 obtain⟨bD,dS⟩:∃bD:Array Value,bD=(cur.toList.take (i*5)++sg++cur.toList.drop (i*5+sg.length)).toArray:=⟨_,rfl⟩
 have mH:bD.size=n*5:=by rw[dS];simp only[Jq,fR,iW,tc,fm,mi];omega
 obtain⟨W1,iJ⟩:∃W1,W1=w.drew.setRow g bD:=⟨_,rfl⟩
 have hap:∀ty,(Builtin.append_ #[185,185] ty #[.slice (some ⟨g,0,none⟩) i n,.slice (some ⟨g,0,none⟩) 0 0]).run Tryz.prog w.drew= .ok (.slice (some ⟨g,0,none⟩) i n) W1:=fun ty=>by
  have h:=run_append_room (P:=Tryz.prog) w.drew 185 ty 361 i0 tS Nr g i n cur BH ⟨g,0,none⟩ 0 0 sg (by rw[ux];exact mi) (fun t v ht=>by
   rw[Addr.add_lit];rw[sx,BR,qg]at ht;split at ht
   ·have ht':cur[n*5+t]? =some v:=by rw[<-qf];exact ht
    first|(exfalso;omega)|(simp[World.cell?,BH,ht'];done)
   ·cases ht) (fun u hu=>h2 u (xB (by rw[sx]at hu;exact hu))) (by omega) (by rw[ux,mi,vh];omega)
  rw[ux,<-dS,<-iJ]at h;exact h
 have Co:W1.heap[g]? =some (.cells bD 361 (0,0)):=by rw[iJ];exact setRow_heap w.drew g cur bD 361 _ BH
 have X8:∀ty,∃cu,(Builtin.clear_ #[185] ty #[.slice (some ⟨g,i*5,none⟩) (n-i) (n-i)]).run Tryz.prog W1= .ok (.tuple #[]) (W1.setRow g cu)/\cu.size=bD.size/\cu.toList.take (i*5)=bD.toList.take (i*5):=fun ty=>
  yW W1 185 361 ty z tS hzv 5 zO hzo g _ _ _ bD Co (by omega) (by rw[mH];omega)
 obtain⟨cu,JM,X6,ht2⟩:=X8 0
 have as0:∀ty,(Builtin.clear_ #[185] ty #[.slice (some ⟨g,i*5,none⟩) (n-i) (n-i)]).run Tryz.prog W1= .ok (.tuple #[]) (W1.setRow g cu):=fun ty=>JM
 have nk:cu.size=n*5/\cu.toList.take (i*5)=cur.toList.take (i*5)++(cur.toList.take (n*5)).drop (n*5):=by refine⟨by rw[X6,mH],?_⟩;rw[ht2,dS,<-sx];exact take_left' (by rw[fR,iW,fm,mi];omega)
 have X:Aside (W1=w.drew.setRow g bD):=iJ
 have Y:Aside (cu.size=n*5/\cu.toList.take (i*5)=cur.toList.take (i*5)++(cur.toList.take (n*5)).drop (n*5)):=nk
 have hq1:¬((i:Int)=(n:Int)):=by omega
 have Tj:¬(n=i):=by omega
 have hq3:(i:Int)<=(n:Int):=by omega
 have hq4:(n:Int)<=(n:Int):=by omega
 have hq5:(i:Int)<=(n:Int):=by omega
 have hq6:i<=n:=by omega
 have hq7:n<=n:=by omega
 have hq8:i<=n:=by omega
 clear iJ nk fm sx mi BH dS mH Co X8 JM X6 ht2 h2
 go_enter Tryz.func426,Tryz.ntmps426
 go_wp2_with fail
 go_region_law_o (refine vI rfl _ _ 185 185 rfl _ _ (by simp[Act.eval,Act.put]) (by simp[Act.eval,Act.put]) (hap _) ?_)
 go_wp2
 go_ret
 have iJ:=X.out
 exact⟨rfl,cu,by rw[iJ];rfl,by rw[iJ];rfl,by rw[iJ];rfl,by rw[iJ,setRow_setRow];rfl,Y.out⟩
end
noncomputable section
open Go.Shelf Go.Lib
def XU{P:Program}[ol P]{key:Nat}{f:FuncId}{el:TypeId}{ss:Nv}{F:dK}
 (h:∀(w:World)(ok:dg)(v0:Value)(vs:aW)(x0:Sc)(l rs:ab),ja P w ok el v0 x0->fe P w ok ss vs l->(∀p,aO v0=some p->p<w.heap.size/\¬ok p)->F (x0::l)=some rs->
   Gz P f (v0::vs).toArray w fun v w'=>f8 w.heap.size (fun p=>aO v0=some p) w w'/\∃y,rs=[y]/\(∀p,aO v=some p->aO v0=some p\/w.heap.size<=p)/\ja P w' (Ww w.heap.size ok ([v0].filterMap aO) ([v].filterMap aO)) el v y):
 (⟨key,f,.w el false::ss.map CS.a,.o el⟩:tr).holds P F:=by
 intro S w hG ok vs ns xs xw us uw ys l rs dH mZ DT hnd Cq re hF
 cases vs with
 |nil=>exact dH.elim|cons v0 vs=>
 obtain⟨l1,l2,n1,n2,rfl,rfl,⟨rfl,rfl⟩,h2⟩:=dH
 obtain⟨rfl,HC⟩:=GS h2
 obtain⟨X1,U1,X2,U2,rfl,rfl,⟨x0,rfl,rfl,Vg⟩,DS⟩:=DT
 obtain⟨rfl,rfl⟩:=Nh DS
 have Q3:bf (.w el false::ss.map CS.a)=[]:=by have:=MB ss;unfold bf at this⊢;rw[AQ,this];rfl
 simp only[Q3]at mZ⊢
 obtain⟨rfl,rfl,rfl⟩:=mZ
 simp only[rU,uP,Fe]at hF re⊢
 refine(h w ok v0 vs x0 l2 rs Vg HC (fun p hp=>re p (by simp[bC,hp])) hF).mono ?_
 rintro v w' ⟨hb,y,rfl,h1,h3⟩
 refine⟨hb.mono (aX _) (fun p _ hp=>by simp[bC,hp]),[],[],[y],[],[],[],[],[v],rfl,?_,fun p hp=> ?_,⟨rfl,rfl,rfl⟩,⟨[],[],[],[],rfl,rfl,⟨rfl,rfl⟩,Jc HC⟩,?_,trivial⟩
 ·simp only[bC,rU,uP,AP,filterMap_nil];cases aO v<;>simp
 ·have hp:aO v=some p:=by
   simp only[bC,rU,uP,AP,filterMap_nil]at hp;cases ho:aO v with
   |none=>rw[ho]at hp;cases hp
   |some q=>rw[ho]at hp;simp at hp;rw[hp]
  rcases h1 p hp with h|h
  ·exact .inl (by simp[bC,h])
  ·exact .inr h
 ·exact⟨rfl,y,rfl,rfl,h3⟩
def Eu{w w':World}{g n c:Nat}{dy:Array Value}(h1:w'.os=w.os)(h2:w'.tape=w.tape)(h3:w'.output=w.output)(h4:w'.heap=(w.setRow g dy).heap):f8 w.heap.size (fun p=>p=g) w w':=
 ⟨h1,h2,h3,by rw[h4];simp[World.setRow],fun k hk hx=>by rw[h4];exact setRow_other w g k dy hx⟩
def UF{w w':World}{o:Obj}(X:dg)(h1:w'.os=w.os)(h2:w'.tape=w.tape)(h3:w'.output=w.output)(h4:w'.heap=w.heap.push o):f8 w.heap.size X w w':=
 ⟨h1,h2,h3,by rw[h4];simp,fun k hk hx=>by rw[h4,Array.getElem?_push,aE (by omega)]⟩
def CI{w w':World}{ok:dg}{v0 v:Value}(hb:f8 w.heap.size (fun p=>aO v0=some p) w w')(bT:∀p,aO v0=some p->p<w.heap.size/\¬ok p)(hv:∀p,aO v=some p->aO v0=some p\/w.heap.size<=p):
 ∀p o u,ok p->w.cell? ⟨p,o,none⟩=some u->Ww w.heap.size ok ([v0].filterMap aO) ([v].filterMap aO) p/\w'.cell? ⟨p,o,none⟩=some u:=fun p o u hp hu=>by
 have bi:=World.block_lt_of_cell? w ⟨p,o,none⟩ hu
 simp only at bi
 have vP:aO v0≠some p:=fun h=>(bT p h).2 hp
 refine⟨⟨.inr (.inl hp),fun hm=> ?_⟩,by rw[World.cell?_of_block (hb.block p bi vP)];exact hu⟩
 simp only[AP,filterMap_nil]at hm
 cases ho:aO v with
 |none=>rw[ho]at hm;cases hm
 |some q=>
  rw[ho]at hm;simp only[cw]at hm;subst hm;rcases hv p ho with h|h
  ·exact vP h
  ·omega
def OL(bytes:Nat):dK
 |[.l xs,.i i,.l vs]=>if 0<=i/\i<=xs.length/\0<vs.length/\xs.length+vs.length<=maxLen/\(xs.length+vs.length)*bytes<=140737488355328 then some [.l (xs.take i.toNat++vs++xs.drop i.toNat)]else none
 |_=>none
def UP:dK
 |[.l xs,.i i,.i j]=>if 0<=i/\i<=j/\j<=xs.length then some [.l (xs.take i.toNat++xs.drop j.toNat)]else none
 |_=>none
def LJ{P:Program}{w:World}{ok:dg}{k:IntKind}{v:Value}{z:Int}(h:jk P w ok (.ck (.int k)) v (.i z)):v= .int k z:=Qh (fun _ h=>by cases h) h
def VG{ad:Option Addr}{n c:Nat}{p:Nat}(h:aO (.slice ad n c)=some p):0<c/\∃a,ad=some a/\a.block=p:=by
 unfold aO at h;split at h
 ·rename_i a l q e;cases e
  exact⟨succ_pos _,a,rfl,by simpa using h⟩
 ·cases h
def QB{xs D vs ys:ab}{i:Nat}(h1:dP D=dP xs)(h2:dP ys=dP vs):(Sc.l (xs.take i++vs++xs.drop i)).er= .l (dP (D.take i++ys++D.drop i)):=by simp only[Sc.er,Sc.l.injEq];show dP _=_;simp only[sf,pM,pK,h1,h2]
def Xx{xs D:ab}{i j:Nat}(h1:dP D=dP xs):(Sc.l (xs.take i++xs.drop j)).er= .l (dP (D.take i++D.drop j)):=by simp only[Sc.er,Sc.l.injEq];show dP _=_;simp only[sf,pM,pK,h1]
def DV{P:Program}[ol P]{f el sl:Nat}(cC:∀args w,(callFunc f args).run P w= .ok (.enter f args) w){agg:Bool}{ks:jj}(hT:eC P el=some (agg,ks))(bT:bF agg ks=true)(bytes:Nat)(i0:TypeInfo)(z:Value)(mi:P.underlying sl=some (.slice el))(Nr:P.info? el=some i0)(Rc:i0.zero=some z)(ux:i0.size=ks.length)(nQ:i0.bytes=bytes)(zO:z.cells.size=ks.length)
 (acb:∀(base:Option Addr)(n c m vc:Nat)(ad:Addr)(w w':World)(v':Value),(Builtin.append_ #[sl,sl] sl #[.slice base n c,.slice (some ad) m vc]).run P w= .ok v' w'->0<m->n<=c->(base=none->c=0)->Calls P f #[.slice base n c,.int .i64 n,.slice (some ad) m vc] w fun e w2=>e= .returned v'/\w2=w')
 (eW:∀(g c n m i vc:Nat)(cur:Array Value)(ad:Addr)(vs:aW)(w:World),w.heap[g]? =some (.cells cur el (0,0))->cur.size=c*ks.length->n+m<=c->c<=maxLen->0<m->vs.length=m*ks.length->(∀j u,vs[j]? =some u->w.cell? (ad.add j)=some u)->ad.spot=none->(∀u∈vs,u.oneCell'=true)->(∀u∈cur.toList.take (n*ks.length),u.oneCell'=true)->ad.block≠g->i<n->
   Calls P f #[.slice (some ⟨g,0,none⟩) n c,.int .i64 i,.slice (some ad) m vc] w fun e w'=>e= .returned (.slice (some ⟨g,0,none⟩) (n+m) c)/\∃dy,w'.os=w.os/\w'.tape=w.tape/\w'.output=w.output/\w'.heap=(w.setRow g dy).heap/\dy.size=c*ks.length/\dy.toList.take ((n+m)*ks.length)=cur.toList.take (i*ks.length)++vs++(cur.toList.take (n*ks.length)).drop (i*ks.length))
 (Yc:∀(g c n m i vc:Nat)(cur:Array Value)(ad:Addr)(vs:aW)(w:World),w.heap[g]? =some (.cells cur el (0,0))->cur.size=c*ks.length->n<=c->c<n+m->(n+m)*bytes<=140737488355328->n+m<=maxLen->0<m->vs.length=m*ks.length->(∀j u,vs[j]? =some u->w.cell? (ad.add j)=some u)->ad.block<w.heap.size->(∀u∈vs,u.oneCell'=true)->(∀u∈cur.toList.take (n*ks.length),u.oneCell'=true)->i<n->
   Calls P f #[.slice (some ⟨g,0,none⟩) n c,.int .i64 i,.slice (some ad) m vc] w fun e w'=>∃G dy,e= .returned (.slice (some ⟨w.heap.size,0,none⟩) (n+m) G)/\n+m<=G/\G<=maxLen/\w'.os=w.os/\w'.tape=w.tape/\w'.output=w.output/\w'.heap=w.heap.push (.cells dy el)/\dy.size=G*ks.length/\dy.toList.take ((n+m)*ks.length)=cur.toList.take (i*ks.length)++vs++(cur.toList.take (n*ks.length)).drop (i*ks.length)):
 (⟨f,f,.w el false::[AS.ck (.int .i64),AS.ck (.sl el)].map CS.a,.o el⟩:tr).holds P (OL bytes):=by
 obtain⟨Fx,i8⟩:=dq bT
 refine XU fun w ok v0 vs x0 l rs bj dH re hF=> ?_
 obtain⟨vi,va,xi,xa,rfl,rfl,h1,h2⟩:=akN dH
 unfold OL at hF
 split at hF
 rotate_left
 ·cases hF
 rename_i xs i ws he
 cases he
 split at hF
 rotate_left
 ·cases hF
 rename_i hc
 obtain⟨c1,c2,c3,c4,c5⟩:=hc
 cases hF
 have hvi:=LJ h1
 subst hvi
 obtain⟨Jr,Wu,D,ad,n,cap,U6,_,rfl,hD,hn,yA,oD,dz,gj⟩:=bj
 rw[hT]at U6;cases U6
 have QO:dP D=dP xs:=by simp only[Sc.er,Sc.l.injEq]at hD;exact hD.symm
 have hxn:xs.length=n:=by rw[<-hn];exact(eU QO).symm
 obtain⟨d,hd,rfl,Yb⟩:=h2
 cases Yb with
 |sl hT2 hl2 awr hm2 XY agY=>
 rename_i axA ks2 lJ m bM ys
 rw[hT]at hT2;cases hT2
 have hye:dP ys=dP ws:=by simp only[Sc.er,Sc.l.injEq]at hd;exact hd
 have hml:m=ws.length:=by rw[<-hl2];exact eU hye
 have Q4:0<m:=by omega
 have ut:=aD Fx ys
 rw[hl2]at ut
 obtain⟨p2,o2,rfl,Tq,Ti⟩:=XY 0 _ (cB (by rw[ut];exact Nat.mul_pos Q4 i8))
 have gC:∀j u,(ag agg ks ys)[j]? =some u->w.cell? ((⟨p2,o2,none⟩:Addr).add j)=some u:=fun j u hj=>by
  obtain⟨p,o,e,h,_⟩:=XY j u hj;cases e
  rw[Addr.add_lit];exact h
 have atE:p2<w.heap.size:=World.block_lt_of_cell? w ⟨p2,o2+0,none⟩ Tq
 obtain⟨k,rfl⟩:∃k:Nat,i=k:=⟨i.toNat,by omega⟩
 simp only[om]
 have hDl:D.length=n:=hn
 have KL:∀(w':World)(ok':dg),(∀p o u,ok p->w.cell? ⟨p,o,none⟩=some u->ok' p/\w'.cell? ⟨p,o,none⟩=some u)->∀x∈D.take k++ys++D.drop k,dR P w' ok' agg ks x:=fun w' ok' hk x hx=>by
  rw[eh]at hx;rcases ic.1 hx with hx|hx
  ·exact ki hk (gj x (vS hx))
  ·rcases ic.1 hx with hx|hx
   ·exact ki hk (fun j kk hj=>agY x hx j kk hj)
   ·exact ki hk (gj x (xB hx))
 have Cp:(D.take k++ys++D.drop k).length=n+m:=by simp only[fR,iW,tc,hDl,hl2];omega
 have alV:ag agg ks (D.take k++ys++D.drop k)=(ag agg ks D).take (k*ks.length)++ag agg ks ys++(ag agg ks D).drop (k*ks.length):=by rw[cF,cF,Dy Fx,Dx Fx]
 have hDf:(ag agg ks D).length=n*ks.length:=by rw[aD Fx,hDl]
 refine .inl ⟨cC _ _,?_⟩
 by_cases hk:k=n
 ·subst hk;obtain⟨adR,ak0,wR,hr,r1,r2,r3,r4,r5⟩:=sJ (P:=P) (ty:=sl) w sl el i0 z ks.length bytes mi Nr Rc ux nQ zO i8 ad k cap yA oD (ag agg ks D) hDf dz (some ⟨p2,o2,none⟩) m bM (ag agg ks ys) ut (.inr ⟨_,rfl,gC⟩) (ni agg ks ys) (by omega) (by rw[hml,<-hxn];exact c5);refine(acb ad k cap m bM ⟨p2,o2,none⟩ w wR _ hr Q4 yA (fun h=> ?_)).mono ?_
  ·subst h;rcases dz with h|h
   ·exact h
   ·rcases h.2 with⟨e,_⟩|⟨g,c3,cur,e,_⟩
    ·cases e;rfl
    ·cases e
  ·rintro e w' ⟨rfl,rfl⟩;have Wl:f8 w.heap.size (fun p=>aO (.slice ad k cap)=some p) w w':=⟨r4.os,r4.tape,r4.output,r4.size,fun j hj hx=>r4.block j hj (fun e=>hx e.symm)⟩;have OH:∀p,aO (.slice adR (k+m) ak0)=some p->aO (.slice ad k cap)=some p\/w.heap.size<=p:=fun p hp=>by
    rcases r5 with h|h
    ·exact .inl (by rw[<-h];exact hp)
    ·exact .inr (h p hp)
   refine⟨_,rfl,Wl,_,rfl,OH,agg,ks,D.take k++ys++D.drop k,adR,k+m,ak0,hT,bT,rfl,QB QO hye,Cp,r1,r2,?_,KL w' _ (CI Wl re OH)⟩;refine r3.imp id fun h=> ?_;have:ag agg ks (D.take k++ys++D.drop k)=ag agg ks D++ag agg ks ys:=by rw[lQ (by omega),rV (by omega),uP,cF]
   rw[this];exact h
 ·have JR:k<n:=by omega
  rcases dz with h|dz
  ·omega
  rcases dz.2 with⟨_,e⟩|⟨g,iZ,cur,e,_,hg,_,_,nP,Wp⟩
  ·omega
  cases e
  have HJ:aO (.slice (some ⟨g,0,none⟩) n cap)=some g:=by
   cases cap with|zero=>omega|succ c=>rfl
  have JM:∀u∈cur.toList.take (n*ks.length),u.oneCell'=true:=by rw[Wp];exact ni agg ks D
  have ati:p2≠g:=fun e=>(re g HJ).2 (e▸Ti);have fm:cur.toList.length=cap*ks.length:=by rw[cW,nP]
  have acm:cur.toList.take (k*ks.length)=(ag agg ks D).take (k*ks.length):=by rw[<-Wp,take_take,vT (fu _ (by omega))]
  by_cases hr:n+m<=cap
  ·refine(eW g cap n m k bM cur ⟨p2,o2,none⟩ (ag agg ks ys) w hg nP hr oD Q4 ut gC rfl (ni agg ks ys) JM ati JR).mono ?_;rintro e w' ⟨rfl,dy,q1,q2,q3,q4,q5,q6⟩;have Wl:f8 w.heap.size (fun p=>aO (.slice (some ⟨g,0,none⟩) n cap)=some p) w w':=(Eu (n:=0) (c:=0) q1 q2 q3 q4).mono (aX _) (fun p _ hp=>by rw[hp];exact HJ);have Yr:aO (.slice (some ⟨g,0,none⟩) (n+m) cap)=some g:=by
    cases cap with|zero=>omega|succ c=>rfl
   have OH:∀p,aO (.slice (some ⟨g,0,none⟩) (n+m) cap)=some p->aO (.slice (some ⟨g,0,none⟩) n cap)=some p\/w.heap.size<=p:=fun p hp=> .inl (by rw[HJ];rw[Yr]at hp;exact hp);refine⟨_,rfl,Wl,_,rfl,OH,agg,ks,D.take k++ys++D.drop k,some ⟨g,0,none⟩,n+m,cap,hT,bT,rfl,QB QO hye,Cp,hr,oD,.inr ⟨by rw[aD Fx,Cp],.inr ⟨g,cap,dy,rfl,xA _,by rw[q4];exact setRow_heap w g cur dy el _ hg,hr,oD,q5,?_⟩⟩,KL w' _ (CI Wl re OH)⟩;rw[q6,alV,acm,Wp]
  ·refine(Yc g cap n m k bM cur ⟨p2,o2,none⟩ (ag agg ks ys) w hg nP yA (by omega) (by rw[hml,<-hxn];exact c5) (by omega) Q4 ut gC atE (ni agg ks ys) JM JR).mono ?_;rintro e w' ⟨G,dy,rfl,g1,g2,q1,q2,q3,q4,q5,q6⟩;have Wl:f8 w.heap.size (fun p=>aO (.slice (some ⟨g,0,none⟩) n cap)=some p) w w':=UF _ q1 q2 q3 q4;have Yr:∀p,aO (.slice (some ⟨w.heap.size,0,none⟩) (n+m) G)=some p->p=w.heap.size:=fun p hp=>by obtain⟨_,a,e1,e2⟩:=VG hp;cases e1;exact e2.symm
   have OH:∀p,aO (.slice (some ⟨w.heap.size,0,none⟩) (n+m) G)=some p->aO (.slice (some ⟨g,0,none⟩) n cap)=some p\/w.heap.size<=p:=fun p hp=> .inr (by rw[Yr p hp];exact aX _);refine⟨_,rfl,Wl,_,rfl,OH,agg,ks,D.take k++ys++D.drop k,some ⟨w.heap.size,0,none⟩,n+m,G,hT,bT,rfl,QB QO hye,Cp,g1,g2,.inr ⟨by rw[aD Fx,Cp],.inr ⟨w.heap.size,G,dy,rfl,xA _,by rw[q4];simp,g1,g2,q5,?_⟩⟩,KL w' _ (CI Wl re OH)⟩;rw[q6,alV,acm,Wp]
def UQ{P:Program}[ol P]{f el:Nat}(cC:∀args w,(callFunc f args).run P w= .ok (.enter f args) w){agg:Bool}{ks:jj}(hT:eC P el=some (agg,ks))(bT:bF agg ks=true)(HN:∀(base:Option Addr)(n c i:Nat)(w:World),i<=n->n<=c->(base=none->c=0)->Calls P f #[.slice base n c,.int .i64 i,.int .i64 i] w fun e w'=>e= .returned (.slice base n c)/\w'=w)
 (as7:∀(g c n i j:Nat)(cur:Array Value)(w:World),w.heap[g]? =some (.cells cur el (0,0))->cur.size=c*ks.length->n<=c->c<=maxLen->i<j->j<=n->(∀u∈cur.toList.take (n*ks.length),u.oneCell'=true)->
   Calls P f #[.slice (some ⟨g,0,none⟩) n c,.int .i64 i,.int .i64 j] w fun e w'=>e= .returned (.slice (some ⟨g,0,none⟩) (i+(n-j)) c)/\∃dy,w'.os=w.os/\w'.tape=w.tape/\w'.output=w.output/\w'.heap=(w.setRow g dy).heap/\dy.size=c*ks.length/\dy.toList.take ((i+(n-j))*ks.length)=cur.toList.take (i*ks.length)++(cur.toList.take (n*ks.length)).drop (j*ks.length)):
 (⟨f,f,.w el false::[AS.ck (.int .i64),AS.ck (.int .i64)].map CS.a,.o el⟩:tr).holds P UP:=by
 obtain⟨Fx,i8⟩:=dq bT
 refine XU fun w ok v0 vs x0 l rs bj dH re hF=> ?_
 obtain⟨vi,va,xi,xa,rfl,rfl,h1,h2⟩:=akN dH
 unfold UP at hF
 split at hF
 rotate_left
 ·cases hF
 rename_i xs i j he
 cases he
 split at hF
 rotate_left
 ·cases hF
 rename_i hc
 obtain⟨c1,c2,c3⟩:=hc
 cases hF
 have hvi:=LJ h1
 subst hvi
 have hva:=LJ h2
 subst hva
 obtain⟨Jr,Wu,D,ad,n,cap,U6,_,rfl,hD,hn,yA,oD,dz,gj⟩:=bj
 rw[hT]at U6;cases U6
 have QO:dP D=dP xs:=by simp only[Sc.er,Sc.l.injEq]at hD;exact hD.symm
 have hxn:xs.length=n:=by rw[<-hn];exact(eU QO).symm
 obtain⟨a,rfl⟩:∃a:Nat,i=a:=⟨i.toNat,by omega⟩
 obtain⟨b,rfl⟩:∃b:Nat,j=b:=⟨j.toNat,by omega⟩
 simp only[om]
 have hDl:D.length=n:=hn
 have KL:∀(w':World)(ok':dg),(∀p o u,ok p->w.cell? ⟨p,o,none⟩=some u->ok' p/\w'.cell? ⟨p,o,none⟩=some u)->∀x∈D.take a++D.drop b,dR P w' ok' agg ks x:=fun w' ok' hk x hx=>by
  rcases ic.1 hx with hx|hx
  ·exact ki hk (gj x (vS hx))
  ·exact ki hk (gj x (xB hx))
 have Cp:(D.take a++D.drop b).length=a+(n-b):=by simp only[fR,iW,tc,hDl];omega
 refine .inl ⟨cC _ _,?_⟩
 by_cases hab:a=b
 ·subst hab;refine(HN ad n cap a w (by omega) yA (fun h=> ?_)).mono ?_
  ·subst h;rcases dz with h|h
   ·exact h
   ·rcases h.2 with⟨e,_⟩|⟨g,c3,cur,e,_⟩
    ·cases e;rfl
    ·cases e
  ·rintro e w' ⟨rfl,rfl⟩;refine⟨_,rfl,.refl _ _ _,_,rfl,fun p hp=> .inl hp,agg,ks,D.take a++D.drop a,ad,n,cap,hT,bT,rfl,Xx QO,by rw[Cp];omega,yA,oD,?_,KL w' _ (CI (.refl _ _ _) re (fun p hp=> .inl hp))⟩;rw[Qd];exact dz
 ·have bi:a<b:=by omega
  rcases dz with h|dz
  ·omega
  rcases dz.2 with⟨_,e⟩|⟨g,iZ,cur,e,_,hg,_,_,nP,Wp⟩
  ·omega
  cases e
  have HJ:aO (.slice (some ⟨g,0,none⟩) n cap)=some g:=by
   cases cap with|zero=>omega|succ c=>rfl
  have JM:∀u∈cur.toList.take (n*ks.length),u.oneCell'=true:=by rw[Wp];exact ni agg ks D
  refine(as7 g cap n a b cur w hg nP yA oD bi (by omega) JM).mono ?_;rintro e w' ⟨rfl,dy,q1,q2,q3,q4,q5,q6⟩;have Wl:f8 w.heap.size (fun p=>aO (.slice (some ⟨g,0,none⟩) n cap)=some p) w w':=(Eu (n:=0) (c:=0) q1 q2 q3 q4).mono (aX _) (fun p _ hp=>by rw[hp];exact HJ);have Yr:aO (.slice (some ⟨g,0,none⟩) (a+(n-b)) cap)=some g:=by
   cases cap with|zero=>omega|succ c=>rfl
  have OH:∀p,aO (.slice (some ⟨g,0,none⟩) (a+(n-b)) cap)=some p->aO (.slice (some ⟨g,0,none⟩) n cap)=some p\/w.heap.size<=p:=fun p hp=> .inl (by rw[HJ];rw[Yr]at hp;exact hp);refine⟨_,rfl,Wl,_,rfl,OH,agg,ks,D.take a++D.drop b,some ⟨g,0,none⟩,a+(n-b),cap,hT,bT,rfl,Xx QO,Cp,by omega,oD,.inr ⟨by rw[aD Fx,Cp],.inr ⟨g,cap,dy,rfl,xA _,by rw[q4];exact setRow_heap w g cur dy el _ hg,by omega,oD,q5,?_⟩⟩,KL w' _ (CI Wl re OH)⟩;rw[q6,cF,Wp];have acm:cur.toList.take (a*ks.length)=(ag agg ks D).take (a*ks.length):=by rw[<-Wp,take_take,vT (fu _ (by omega))]
  rw[acm,Dy Fx,Dx Fx]
def ZX(P:Program)(sl el k:Nat):Bool:=
 match eC P el,P.info? el,P.underlying sl with
 |some (agg,ks),some i,some (.slice e)=>bF agg ks&&Nat.beq i.size k&&Nat.beq ks.length k&&Nat.beq e el&&(match i.zero with|some z=>Nat.beq z.cells.size k&&z.cells.toList.all Value.oneCell'|none=>false)|_,_,_=>false
def tT{P:Program}{sl el k:Nat}(h:ZX P sl el k=true):∃agg ks i0 z,eC P el=some (agg,ks)/\bF agg ks=true/\ks.length=k/\P.info? el=some i0/\i0.zero=some z/\i0.size=k/\i0.bytes=qP P el/\z.cells.size=k/\P.underlying sl=some (.slice el)/\(∀u∈z.cells.toList,u.oneCell'=true):=by
 unfold ZX at h;split at h
 ·rename_i agg ks i0 e hT hi hs;simp only[aL]at h;obtain⟨⟨⟨⟨h1,h2⟩,h4⟩,h5⟩,h3⟩:=h;have h2:=fh h2;have h4:=fh h4;have h5:=fh h5;subst h5;split at h3
  ·rename_i z hz;rw[aL]at h3;exact⟨agg,ks,i0,z,hT,h1,h4,hi,hz,h2,by unfold qP;rw[hi],fh h3.1,hs,fun u hu=>lO.1 h3.2 u hu⟩
  ·cases h3
 ·cases h
def W3{f o sl el k:Nat}{fn:Func}(hq:aa1 f o sl el k fn)(hf:Tryz.prog.funcs[f]? =some fn)(h9:fn.ntmps=95)(tS:Tryz.prog.underlying sl=some (.slice el))(aS:∀w,(isAgg sl).run Tryz.prog w= .ok false w)(zS:∀w,(Go.sizeOf sl).run Tryz.prog w= .ok 1 w)(zE:∀w,(Go.sizeOf el).run Tryz.prog w= .ok k w)(XS:∀xs w,(callFunc o xs).run Tryz.prog w=((Extern.SlicesOverlaps.overlaps #[sl,sl] #[4] xs).run Tryz.prog w).andThen fun v w'=> .ok (Next.value v) w')(eT:(Tryz.prog.info? el).map (·.size)=some k:=by kernel_rfl)(hc:cOk Tryz.prog f=true:=by kernel_rfl)(hr:ZX Tryz.prog sl el k=true:=by kernel_rfl):
 (⟨f,f,.w el false::[AS.ck (.int .i64),AS.ck (.sl el)].map CS.a,.o el⟩:tr).holds Tryz.prog (OL (qP Tryz.prog el)):=by
 obtain⟨q1,q2,q3⟩:=hq hf h9 tS aS zS zE eT XS
 obtain⟨agg,ks,i0,z,hT,bT,hk,hi,hz,h1,h2,h3,hs,h4⟩:=tT hr
 subst hk
 exact DV (QL hc) hT bT _ i0 z hs hi hz h1 h2 h3 q3 q1 (q2 i0 z _ hi hz h1 h2 h3)
def lm:uN Tryz.prog:=⟨_,_,W3 dc.1 Tryz.func201 Tryz.ntmps201 Tryz.underlying51 Tryz.isAgg51 Tryz.sizeOf51 Tryz.sizeOf88 fun xs w=>run_callFunc_extern Tryz.func288 (by kernel_rfl) (by kernel_rfl) (by kernel_rfl) (e:=Extern.SlicesOverlaps.overlaps #[51,51] #[4]) (by kernel_rfl) xs w⟩
def lZ:uN Tryz.prog:=⟨_,_,W3 dc.2.1 Tryz.func302 Tryz.ntmps302 Tryz.underlying66 Tryz.isAgg66 Tryz.sizeOf66 Tryz.sizeOf223 fun xs w=>run_callFunc_extern Tryz.func335 (by kernel_rfl) (by kernel_rfl) (by kernel_rfl) (e:=Extern.SlicesOverlaps.overlaps #[66,66] #[4]) (by kernel_rfl) xs w⟩
def ll:uN Tryz.prog:=⟨_,_,W3 dc.2.2 Tryz.func343 Tryz.ntmps343 Tryz.underlying185 Tryz.isAgg185 Tryz.sizeOf185 Tryz.sizeOf361 fun xs w=>run_callFunc_extern Tryz.func358 (by kernel_rfl) (by kernel_rfl) (by kernel_rfl) (e:=Extern.SlicesOverlaps.overlaps #[185,185] #[4]) (by kernel_rfl) xs w⟩
def Ju:(⟨426,426,.w 361 false::[AS.ck (.int .i64),AS.ck (.int .i64)].map CS.a,.o 361⟩:tr).holds Tryz.prog UP:=by
 obtain⟨agg,ks,i0,z,hT,bT,hk,hi,hz,h1,h2,h3,hs,h4⟩:=tT (P:=Tryz.prog) (sl:=185) (el:=361) (k:=5) (by kernel_rfl);refine UQ Tryz.call426 hT bT G9 ?_;rw[hk];intro g c n i j cur w hg nP yA oD Ov hj h5;have hzv:∀w,(zeroValue 361).run Tryz.prog w= .ok z w:=fun w=>by simp[zeroValue,typeInfo,hi,hz]
 by_cases hcj:c=j
 ·have hcn:c=n:=by omega
  subst hcn;subst hcj;have:=Ha i0 z hi h1 h3 hzv h4 g c i cur w hg nP oD Ov h5;simpa using this
 ·exact Jv i0 z hi h1 h3 hzv h4 g c n i j cur w hg nP oD Ov yA hj hcj h5
def lj:uN Tryz.prog:=⟨_,_,Ju⟩
end
section
open Go.Shelf
def laysCmp_ren:Ren:=⟨fun|5=>44|7=>85|n=>n,fun|22=>3|3=>3|4=>4|n=>n,fun|n=>n⟩
def laysCmp:SlLaysC2.n5 Tryz.prog laysCmp_ren:={
 mixed:=by kernel_rfl
 f5:=⟨Tryz.f44.name,by decide,Tryz.func44.trans (congrArg some (by kernel_rfl))⟩
 f7:=⟨Tryz.f85.name,by decide,Tryz.func85.trans (congrArg some (by kernel_rfl))⟩
 t3:=Tryz.underlying3
 a3:=Tryz.isAgg3
 z3:=Tryz.sizeOf3
 v3:=Tryz.zeroValue3
 t4:=Tryz.underlying4
 a4:=Tryz.isAgg4
 z4:=Tryz.sizeOf4
 v4:=Tryz.zeroValue4
 t22:=Tryz.underlying3
 a22:=Tryz.isAgg3
 z22:=Tryz.sizeOf3
 v22:=Tryz.zeroValue3}
def laysSort_ren:Ren:=⟨fun|6=>440|15=>449|14=>448|28=>459|29=>385|20=>451|21=>452|22=>453|23=>454|24=>455|25=>456|26=>457|27=>458|46=>460|47=>461|48=>462|49=>463|50=>464|57=>465|n=>n,fun|22=>185|24=>361|25=>365|3=>3|39=>352|0=>0|53=>537|55=>206|4=>4|46=>589|45=>588|50=>142|5=>5|9=>9|66=>595|70=>599|76=>601|77=>602|n=>n,fun|n=>n⟩
def laysSort:SlLaysF0.n6 Tryz.prog laysSort_ren:={
 mixed:=by kernel_rfl
 f6:=⟨Tryz.f440.name,by decide,Tryz.func440.trans (congrArg some (by kernel_rfl))⟩
 f14:=⟨Tryz.f448.name,by decide,Tryz.func448.trans (congrArg some (by kernel_rfl))⟩
 f15:=Tryz.func449.trans (congrArg some (by kernel_rfl))
 f20:=⟨Tryz.f451.name,by decide,Tryz.func451.trans (congrArg some (by kernel_rfl))⟩
 f21:=⟨Tryz.f452.name,by decide,Tryz.func452.trans (congrArg some (by kernel_rfl))⟩
 f22:=⟨Tryz.f453.name,by decide,Tryz.func453.trans (congrArg some (by kernel_rfl))⟩
 f23:=⟨Tryz.f454.name,by decide,Tryz.func454.trans (congrArg some (by kernel_rfl))⟩
 f24:=⟨Tryz.f455.name,by decide,Tryz.func455.trans (congrArg some (by kernel_rfl))⟩
 f25:=⟨Tryz.f456.name,by decide,Tryz.func456.trans (congrArg some (by kernel_rfl))⟩
 f26:=⟨Tryz.f457.name,by decide,Tryz.func457.trans (congrArg some (by kernel_rfl))⟩
 f27:=⟨Tryz.f458.name,by decide,Tryz.func458.trans (congrArg some (by kernel_rfl))⟩
 f28:=Tryz.func459.trans (congrArg some (by kernel_rfl))
 f29:=Tryz.func385.trans (congrArg some (by kernel_rfl))
 f46:=⟨Tryz.f460.name,by decide,Tryz.func460.trans (congrArg some (by kernel_rfl))⟩
 f47:=Tryz.func461.trans (congrArg some (by kernel_rfl))
 f48:=Tryz.func462.trans (congrArg some (by kernel_rfl))
 f49:=⟨Tryz.f463.name,by decide,Tryz.func463.trans (congrArg some (by kernel_rfl))⟩
 f50:=⟨Tryz.f464.name,by decide,Tryz.func464.trans (congrArg some (by kernel_rfl))⟩
 f57:=⟨Tryz.f465.name,by decide,Tryz.func465.trans (congrArg some (by kernel_rfl))⟩
 t0:=Tryz.underlying0
 a0:=Tryz.isAgg0
 z0:=Tryz.sizeOf0
 v0:=Tryz.zeroValue0
 t3:=Tryz.underlying3
 a3:=Tryz.isAgg3
 z3:=Tryz.sizeOf3
 v3:=Tryz.zeroValue3
 t4:=Tryz.underlying4
 a4:=Tryz.isAgg4
 z4:=Tryz.sizeOf4
 v4:=Tryz.zeroValue4
 t5:=Tryz.underlying5
 a5:=Tryz.isAgg5
 z5:=Tryz.sizeOf5
 v5:=Tryz.zeroValue5
 t9:=Tryz.underlying9
 a9:=Tryz.isAgg9
 z9:=Tryz.sizeOf9
 v9:=Tryz.zeroValue9
 t22:=Tryz.underlying185
 a22:=Tryz.isAgg185
 z22:=Tryz.sizeOf185
 v22:=Tryz.zeroValue185
 t25:=Tryz.underlying365
 a25:=Tryz.isAgg365
 z25:=Tryz.sizeOf365
 v25:=Tryz.zeroValue365
 t39:=Tryz.underlying352
 a39:=Tryz.isAgg352
 z39:=Tryz.sizeOf352
 v39:=Tryz.zeroValue352
 t45:=Tryz.underlying588
 a45:=Tryz.isAgg588
 z45:=Tryz.sizeOf588
 v45:=Tryz.zeroValue588
 t46:=Tryz.underlying589
 a46:=Tryz.isAgg589
 z46:=Tryz.sizeOf589
 v46:=Tryz.zeroValue589
 t50:=Tryz.underlying142
 a50:=Tryz.isAgg142
 z50:=Tryz.sizeOf142
 v50:=Tryz.zeroValue142
 t53:=Tryz.underlying537
 a53:=Tryz.isAgg537
 z53:=Tryz.sizeOf537
 v53:=Tryz.zeroValue537
 t55:=Tryz.underlying206
 a55:=Tryz.isAgg206
 z55:=Tryz.sizeOf206
 v55:=Tryz.zeroValue206
 t66:=Tryz.underlying595
 a66:=Tryz.isAgg595
 z66:=Tryz.sizeOf595
 v66:=Tryz.zeroValue595
 t70:=Tryz.underlying599
 a70:=Tryz.isAgg599
 z70:=Tryz.sizeOf599
 v70:=Tryz.zeroValue599
 t76:=Tryz.underlying601
 a76:=Tryz.isAgg601
 z76:=Tryz.sizeOf601
 v76:=Tryz.zeroValue601
 t77:=Tryz.underlying602
 a77:=Tryz.isAgg602
 z77:=Tryz.sizeOf602
 v77:=Tryz.zeroValue602}
end
section
open Go.Shelf Go.Lib Go.Sort
section
variable{P:Program}{ops:Array Oper}{md:Region.Mode}{C:World->Prop}
def De(P:Program)(md:Region.Mode)(ops:Array Oper)(C:World->Prop)(n:Nat)(L:Array Bool->Act->Prop):Nat->Array Bool->Act->Prop
 |0,listed,a=>L listed a|f+1,listed,a=>
  Region.ready md ops listed≠[]/\∀i∈Region.ready md ops listed,i<n/\qOp P ops C i (De P md ops C n L f (listed.setIfInBounds i true)) a
def zC{n g:Nat}{L:Array Bool->Act->Prop}{Q':Exit->Act->World->Prop}(hL:∀listed a w,C w->L listed a->wpAny P md ops Q' g listed a w):∀(f:Nat)(listed:Array Bool)(a:Act)(w:World),C w->De P md ops C n L f listed a->wpAny P md ops Q' (f+g) listed a w
 |0,listed,a,w,hw,h=>by rw[eG];exact hL _ _ _ hw h
 |f+1,listed,a,w,hw,h=>by rw[show f+1+g=(f+g)+1 by omega];exact⟨fun h0=>absurd h0 h.1,fun i hi=>wpOp_of_qOp hw (fun a' w' hw' h'=>zC hL f _ a' w' hw' h') (h.2 i hi).2⟩
def Kb{n i:Nat}{oi:Oper}{v:Value}{L:Array Bool->Act->Prop}(hi:ops[i]? =some oi)(Ra:∀(j:Nat)(o:Oper) cs b,ops[j]? =some o->o.op≠.select cs b)(hs:Region.sinkB md ops n=true)(hc:Region.chainB md ops n=true)(hn:n<ops.size)(mZ:i<n)(alN:∀listed a,L listed a->∀j∈Region.ready md ops listed,n<=j):
 ∀(f:Nat)(listed:Array Bool)(a:Act),HeadInv md ops n listed->(∀j oj,ops[j]? =some oj->j≠i->listed.getD j true=false->(∀e∈oj.after,Region.binds md e=true->e.on≠i)->oi.apart ops oj=true)->i∈Region.ready md ops listed->YieldsIn P ops C oi v a->
  De P md ops C n L f (listed.setIfInBounds i true) (a.put oi.dst v)->De P md ops C n L (f+1) listed a:=by
 intro f
 induction f with
 |zero=>
  intro listed a inv _ hr hy H;have OG:=(mem_ready.1 hr).1;refine⟨fun h=>(by rw[h]at hr;cases hr),fun j hj=> ?_⟩;have hjn:j<n:=by
   rcases xU j n with h|h
   ·exact h
   ·exact absurd hj (tail_waits hs hc hn inv _ i rfl mZ OG j h)
  refine⟨hjn,?_⟩;by_cases EP:j=i
  ·subst EP;exact hy.qOp hi H
  ·have:=alN _ _ H j (ready_mono hj EP);omega
 |succ f ih=>
  intro listed a inv aed hr hy H;have OG:=(mem_ready.1 hr).1;refine⟨fun h=>(by rw[h]at hr;cases hr),fun j hj=> ?_⟩;have hjn:j<n:=by
   rcases xU j n with h|h
   ·exact h
   ·exact absurd hj (tail_waits hs hc hn inv _ i rfl mZ OG j h)
  refine⟨hjn,?_⟩;by_cases EP:j=i
  ·subst EP;exact hy.qOp hi H
  ·have h1:=(H.2 j (ready_mono hj EP)).2;obtain⟨amg,oj,hoj,wh⟩:=mem_ready.1 hj;have Q5:∀e∈oj.after,Region.binds md e=true->e.on≠i:=fun e he hb heq=>by have h1:=wh e he hb;rw[heq,getD_both OG]at h1;cases h1
   have h2:=qOp_put hoj (aed j oj hoj EP amg Q5) (fun cs b=>Ra i oi cs b hi) (fun cs b=>Ra j oj cs b hoj) hy h1;have agU:∀k ok,ops[k]? =some ok->k≠i->(listed.setIfInBounds j true).getD k true=false->
    (∀e∈ok.after,Region.binds md e=true->e.on≠i)->oi.apart ops ok=true:=fun k ok hk hki OG Dh=>by
    refine aed k ok hk hki ?_ Dh
    by_cases hjk:j=k
    ·subst hjk;exact amg
    ·rw[getD_set_ne true hjk]at OG;exact OG
   refine qOp_mono (fun a' h3=>ih (listed.setIfInBounds j true) a' (inv.set hj hjn) agU (ready_mono hr (Ne.symm EP)) h3.1 ?_) h2;rw[Array.setIfInBounds_comm _ _ EP];exact h3.2
def E7{n g:Nat}{Lq:Act->Prop}(Ra:Region.noSelect ops=true)(hs:Region.sinkB md ops n=true)(hc:Region.chainB md ops n=true)(hn:n<ops.size):∀(l:dB)(k:Nat)(listed:Array Bool)(a:Act),(∀j,j<l.length->l[j]? =ops[k+j]?)->k+l.length=n->HeadInv md ops n listed->Region.lexHead md ops g l.length k listed=true->wpQuiet P ops C Lq l a->De P md ops C n (fun TJ a'=>Region.seqB md ops g n TJ=true/\Lq a') l.length listed a
 |[],k,listed,a,_,hk,_,hB,h=>by
  have:k=n:=by simpa using hk
  subst this;exact⟨by simpa[Region.lexHead]using hB,h⟩
 |o::l,k,listed,a,hl,hk,inv,hB,h=>by
  have h0:ops[k]? =some o:=by simpa using(hl 0 (by simp)).symm
  simp only[AM,Region.lexHead,aL]at hB;obtain⟨⟨hr,hf⟩,hB'⟩:=hB;have JR:k<n:=by simp only[AM]at hk;omega
  have Jo:k∈Region.ready md ops listed:=by simpa using hr
  have fC:qOp P ops C k (wpQuiet P ops C Lq l) a:=by unfold qOp;simp only[h0];exact h
  obtain⟨v,hy,hK⟩:=yieldsIn_of_qOp h0 fC;exact Kb h0 (Region.noSelect_spec Ra) hs hc hn JR (fun TJ a' hL=>seqB_ready hL.1) l.length listed a inv (Region.free_spec h0 hf) Jo hy
   (E7 Ra hs hc hn l (k+1) _ _ (fun j hj=>by have:=hl (j+1) (by simp;omega);simpa[td,Nat.add_comm 1 j]using this) (by simp only[AM]at hk;omega) (inv.set Jo JR) hB' hK)
def zD{id:Nat}{Q:Exit->Act->World->Prop}{a:Act}{w:World}{l:dB}(n:Nat)(hm:P.follows .mixedOrders=true)(hB:Region.lexTailB .any l.toArray n=true)(hC:C {w with drawn:=w.drawn+1})(h:wpQuiet P l.toArray C (fun a'=>∀w',C w'->wpList P l.toArray Q (l.drop n) a' w') (l.take n) a):(Code.region id l.toArray true).wp P Q a w:=by
 simp only[Region.lexTailB,aL,ei]at hB
 obtain⟨⟨⟨⟨Ra,hn⟩,hs⟩,hc⟩,atr⟩:=hB
 have hn':n<l.length:=by simpa using hn
 have htl:(l.take n).length=n:=by simp;omega
 have Mt:(l.drop n).length=l.toArray.size-n:=by simp
 have aue:HeadInv .any l.toArray n (Array.replicate l.toArray.size false):=
  ⟨by simp,fun j oj _ hl=>(by rw[getD_replicate_false]at hl;cases hl),fun t _ ht=>getD_in (by simpa using ht) (getD_replicate_false _ _)⟩
 have H:=E7 (md:= .any) (g:=l.toArray.size-n) Ra hs hc hn (l.take n) 0 _ a (fun j hj=>by
  have JP:j<n:=by rw[htl]at hj;exact hj
  simp[JP]) (by simpa using htl) aue (by rw[htl];exact atr) h
 refine wp_region_any hm ?_
 have:=zC (Q':=Q) (g:=l.toArray.size-n) (fun listed a' w' hw' hL=>by
  have:=wpAny_of_seq (md:= .any) (Q':=Q) (l.drop n) n listed a' w' (fun j=>by simp[BR]) (by rw[Mt];exact hL.1) (hL.2 w' hw')
  rwa [Mt]at this) _ _ _ _ hC H
 rw[htl,show n+(l.toArray.size-n)=l.toArray.size by omega]at this
 exact this
end
abbrev Cl:Type:=Int×Int×Int×Int×Bool
def lU(x:Cl):aW:=[.int .i64 x.1,.int .i64 x.2.1,.int .i64 x.2.2.1,.int .i64 x.2.2.2.1,.bool x.2.2.2.2]
def nf(w:World)(cs:Array Value)(t:TypeId)(j:Nat)(v:Value)(h:cs[j]? =some v):(w.alloc (Obj.cells cs t)).cell? ⟨w.heap.size,j,none⟩=some v:=by unfold World.cell? World.alloc;simp[h]
def CW{P:Program}{id:Nat}{Q:Exit->Act->World->Prop}{a:Act}{w:World}{l:dB}(n:Nat)(hm:P.follows .mixedOrders=true)(hB:Region.lexTailB .any l.toArray n=true)(h:wpQuiet P l.toArray (fun w'=>∃p:GrownBy,w'=grow (w.drewN p.n) p.os) (fun a'=>∀w',(∃p:GrownBy,w'=grow (w.drewN p.n) p.os)->wpList P l.toArray Q (l.drop n) a' w') (l.take n) a):(Code.region id l.toArray true).wp P Q a w:=
 zD (C:=fun w'=>∃p:GrownBy,w'=grow (w.drewN p.n) p.os) n hm hB ⟨⟨1,#[]⟩,by rw[grow_empty];rfl⟩ h
def abz(x y:Cl)(W:World):Calls Tryz.prog 211 #[.agg (lU x).toArray,.agg (lU y).toArray] W fun e w'=>e= .returned (.int .i64 (Lib.compareInt x.2.2.2.1 y.2.2.2.1))/\∃q os',w'=grow (W.drewN q) os':=by
 obtain⟨x0,x1,x2,x3,x4⟩:=x;obtain⟨y0,y1,y2,y3,y4⟩:=y;have Bd:=fun W'=>AnyG.cmp_Compare_int laysCmp x3 y3 W';change ∀W',Calls Tryz.prog 44 _ _ _ at Bd;show Calls Tryz.prog 211 #[.agg #[.int .i64 x0,.int .i64 x1,.int .i64 x2,.int .i64 x3,.bool x4],.agg #[.int .i64 y0,.int .i64 y1,.int .i64 y2,.int .i64 y3,.bool y4]] W fun e w'=>e= .returned (.int .i64 (Lib.compareInt x3 y3))/\∃q os',w'=grow (W.drewN q) os';generalize Lib.compareInt x3 y3=r at Bd⊢
 go_enter Tryz.func211,Tryz.ntmps211
 go_wp2_with (go_at_call 44;refine(Bd _).mono ?_;rintro e w' ⟨rfl,rfl⟩)
 go_ret
 exact⟨rfl,0,_,by rw[alloc_eq_grow,alloc_eq_grow,grow_grow];rfl⟩
def orI(u v:Int):Int:=if u=0 then v else u
def auX(g:Nat)(a b:Int)(W:World)(h0:W.cell? ⟨g,0,none⟩=some (.int .i64 a))(h1:W.cell? ⟨g,1,none⟩=some (.int .i64 b)):Calls Tryz.prog 43 #[.slice (some ⟨g,0,none⟩) 2 2] W fun e w'=>e= .returned (.int .i64 (orI a b))/\∃q os',w'=grow (W.drewN q) os':=by
 have mixed:=laysCmp.mixed;by_cases ha:a=0
 ·subst ha;by_cases hb:b=0
  ·subst hb
   go_enter Tryz.func43,Tryz.ntmps43
   go_wp2
   refine wp_loop_rounds 3 ?_;rw[rounds_succ]
   go_wp2
   rw[rounds_succ]
   go_wp2
   rw[rounds_succ]
   go_wp2
   go_ret
   exact⟨rfl,0,#[],by rw[grow_empty];rfl⟩
  ·have SY:decide (b=0)=false:=decide_eq_false hb
   go_enter Tryz.func43,Tryz.ntmps43
   go_wp2
   refine wp_loop_rounds 3 ?_;rw[rounds_succ]
   go_wp2
   rw[rounds_succ]
   go_wp2
   go_ret
   exact⟨rfl,0,#[],by rw[grow_empty];rfl⟩
 ·have ha2:decide (a=0)=false:=decide_eq_false ha
  go_enter Tryz.func43,Tryz.ntmps43
  go_wp2
  refine wp_loop_rounds 3 ?_;rw[rounds_succ]
  go_wp2
  go_ret
  exact⟨by rw[orI,aE ha];rfl,0,#[],by rw[grow_empty];rfl⟩
def WV(x y:Cl)(W:World):Calls Tryz.prog 212 #[.agg (lU x).toArray,.agg (lU y).toArray] W fun e w'=>e= .returned (.int .i64 (orI (Lib.compareInt x.2.2.1 y.2.2.1) (Lib.compareInt x.2.2.2.1 y.2.2.2.1)))/\∃q os',w'=grow (W.drewN q) os':=by
 have hs:=fun W'=>abz x y W';obtain⟨x0,x1,x2,x3,x4⟩:=x;obtain⟨y0,y1,y2,y3,y4⟩:=y;have Bd:=fun W'=>AnyG.cmp_Compare_int laysCmp x2 y2 W';change ∀W',Calls Tryz.prog 44 _ _ _ at Bd;change ∀W',Calls Tryz.prog 211 #[.agg #[.int .i64 x0,.int .i64 x1,.int .i64 x2,.int .i64 x3,.bool x4],.agg #[.int .i64 y0,.int .i64 y1,.int .i64 y2,.int .i64 y3,.bool y4]] W' (fun e w'=>e= .returned (.int .i64 (Lib.compareInt x3 y3))/\∃q os',w'=grow (W'.drewN q) os')at hs;show Calls Tryz.prog 212 #[.agg #[.int .i64 x0,.int .i64 x1,.int .i64 x2,.int .i64 x3,.bool x4],.agg #[.int .i64 y0,.int .i64 y1,.int .i64 y2,.int .i64 y3,.bool y4]] W fun e w'=>e= .returned (.int .i64 (orI (Lib.compareInt x2 y2) (Lib.compareInt x3 y3)))/\∃q os',w'=grow (W.drewN q) os';generalize Lib.compareInt x2 y2=r at Bd⊢;generalize Lib.compareInt x3 y3=r2 at hs⊢;have mixed:=laysCmp.mixed;obtain⟨w2,DS⟩:∃w2,w2=(W.alloc (Obj.cells #[Value.int IntKind.i64 x0,Value.int IntKind.i64 x1,Value.int IntKind.i64 x2,Value.int IntKind.i64 x3,Value.bool x4] 361)).alloc (Obj.cells #[Value.int IntKind.i64 y0,Value.int IntKind.i64 y1,Value.int IntKind.i64 y2,Value.int IntKind.i64 y3,Value.bool y4] 361):=⟨_,rfl⟩;have sz:w2.heap.size=W.heap.size+2:=by rw[DS,World.alloc,World.alloc];simp only[Array.size_push]
 have cx:∀j v,[Value.int IntKind.i64 x0,Value.int IntKind.i64 x1,Value.int IntKind.i64 x2,Value.int IntKind.i64 x3,Value.bool x4][j]? =some v->w2.cell? ⟨W.heap.size,j,none⟩=some v:=by intro j v hj;rw[DS,alloc_eq_grow _ (Obj.cells #[Value.int IntKind.i64 y0,_,_,_,_] 361)];rw[cell?_grow _ _ _ (by show W.heap.size<(W.alloc _).heap.size;rw[World.alloc];simp only[Array.size_push];omega)];exact nf _ _ _ j v (by simpa using hj)
 have cy:∀j v,[Value.int IntKind.i64 y0,Value.int IntKind.i64 y1,Value.int IntKind.i64 y2,Value.int IntKind.i64 y3,Value.bool y4][j]? =some v->w2.cell? ⟨W.heap.size+1,j,none⟩=some v:=by
  intro j v hj;have e:W.heap.size+1=(W.alloc (Obj.cells #[Value.int IntKind.i64 x0,Value.int IntKind.i64 x1,Value.int IntKind.i64 x2,Value.int IntKind.i64 x3,Value.bool x4] 361)).heap.size:=by rw[World.alloc];simp only[Array.size_push]
  rw[DS,e];exact nf _ _ _ j v (by simpa using hj)
 have px0:∀n os,(grow (w2.drewN n) os).cell? ⟨W.heap.size,0,none⟩=some (.int .i64 x0):=fun n os=>cell_grown (by show W.heap.size<_;omega) (cx 0 _ rfl) n os;have px1:∀n os,(grow (w2.drewN n) os).cell? ⟨W.heap.size,1,none⟩=some (.int .i64 x1):=fun n os=>cell_grown (by show W.heap.size<_;omega) (cx 1 _ rfl) n os;have px2:∀n os,(grow (w2.drewN n) os).cell? ⟨W.heap.size,2,none⟩=some (.int .i64 x2):=fun n os=>cell_grown (by show W.heap.size<_;omega) (cx 2 _ rfl) n os;have px3:∀n os,(grow (w2.drewN n) os).cell? ⟨W.heap.size,3,none⟩=some (.int .i64 x3):=fun n os=>cell_grown (by show W.heap.size<_;omega) (cx 3 _ rfl) n os;have px4:∀n os,(grow (w2.drewN n) os).cell? ⟨W.heap.size,4,none⟩=some (.bool x4):=fun n os=>cell_grown (by show W.heap.size<_;omega) (cx 4 _ rfl) n os;have py0:∀n os,(grow (w2.drewN n) os).cell? ⟨W.heap.size+1,0,none⟩=some (.int .i64 y0):=fun n os=>cell_grown (by show W.heap.size+1<_;omega) (cy 0 _ rfl) n os;have py1:∀n os,(grow (w2.drewN n) os).cell? ⟨W.heap.size+1,1,none⟩=some (.int .i64 y1):=fun n os=>cell_grown (by show W.heap.size+1<_;omega) (cy 1 _ rfl) n os;have py2:∀n os,(grow (w2.drewN n) os).cell? ⟨W.heap.size+1,2,none⟩=some (.int .i64 y2):=fun n os=>cell_grown (by show W.heap.size+1<_;omega) (cy 2 _ rfl) n os;have py3:∀n os,(grow (w2.drewN n) os).cell? ⟨W.heap.size+1,3,none⟩=some (.int .i64 y3):=fun n os=>cell_grown (by show W.heap.size+1<_;omega) (cy 3 _ rfl) n os;have py4:∀n os,(grow (w2.drewN n) os).cell? ⟨W.heap.size+1,4,none⟩=some (.bool y4):=fun n os=>cell_grown (by show W.heap.size+1<_;omega) (cy 4 _ rfl) n os;have c44:∀n os,Calls Tryz.prog 44 #[.int .i64 x2,.int .i64 y2] (grow (w2.drewN n) os) fun e w''=>e= .returned (.int .i64 r)/\∃p:GrownBy,w''=grow (w2.drewN p.n) p.os:=fun n os=>Calls.grown_of ((Bd _).mono fun _ _ ⟨he,hw⟩=>⟨he,0,#[],by rw[hw,grow_empty];rfl⟩);have ar6:∀n os,Calls Tryz.prog 211 #[.agg #[.int .i64 x0,.int .i64 x1,.int .i64 x2,.int .i64 x3,.bool x4],.agg #[.int .i64 y0,.int .i64 y1,.int .i64 y2,.int .i64 y3,.bool y4]] (grow (w2.drewN n) os) fun e w''=>e= .returned (.int .i64 r2)/\∃p:GrownBy,w''=grow (w2.drewN p.n) p.os:=fun n os=>Calls.grown_of (hs _)
 go_enter Tryz.func212,Tryz.ntmps212
 go_wp2
 rw[<-DS];have Hw:Hid (∃os',w2=grow W os'):=⟨_,by rw[DS,alloc_eq_grow,alloc_eq_grow,grow_grow]⟩;clear DS cx cy;refine CW 8 (by assumption) (by kernel_rfl) ?_;simp only[take_succ_cons,take_zero,drop_succ_cons,Ki];repeat(quiet_step (first|exact c44 _ _|exact ar6 _ _))
 refine wpQuiet_nil ?_;intro _ hw';obtain⟨⟨nq,osq⟩,at3⟩:=hw';subst at3;have szg:(grow (w2.drewN nq) osq).heap.size=W.heap.size+2+osq.size:=by rw[size_grow];show w2.heap.size+_=_;rw[sz]
 have q0:((grow (w2.drewN nq) osq).alloc (Obj.cells #[Value.int IntKind.i64 r,Value.int IntKind.i64 r2] 3)).cell? ⟨W.heap.size+2+osq.size,0,none⟩=some (.int .i64 r):=by rw[<-szg];exact nf _ _ _ 0 _ rfl
 have q1:((grow (w2.drewN nq) osq).alloc (Obj.cells #[Value.int IntKind.i64 r,Value.int IntKind.i64 r2] 3)).cell? ⟨W.heap.size+2+osq.size,1,none⟩=some (.int .i64 r2):=by rw[<-szg];exact nf _ _ _ 1 _ rfl
 have c43:=auX (W.heap.size+2+osq.size) r r2 _ q0 q1
 go_wp2_with (go_at_call 43;refine c43.mono ?_;rintro e w' ⟨rfl,q3,os3,hw3⟩)
 go_ret
 obtain⟨os0,rfl⟩:=(show ∃os',w2=grow W os' from Hw);refine⟨rfl,nq+q3,((os0++osq)++ #[Obj.cells #[Value.int IntKind.i64 r,Value.int IntKind.i64 r2] 3])++os3,?_⟩;rw[alloc_eq_grow];show grow (grow (grow (grow ((W.drewN nq).drewN q3) os0) osq) #[Obj.cells #[Value.int IntKind.i64 r,Value.int IntKind.i64 r2] 3]) os3=_;rw[grow_grow,grow_grow,grow_grow,World.drewN_drewN,Array.append_assoc,Array.append_assoc]
def UL(x y:Cl)(W:World):Calls Tryz.prog 441 #[.agg (lU x).toArray,.agg (lU y).toArray] W fun e w'=>e= .returned (.int .i64 (orI (Lib.compareInt y.2.2.1 x.2.2.1) (Lib.compareInt y.2.2.2.1 x.2.2.2.1)))/\∃q os',w'=grow (W.drewN q) os':=by
 have hs:=fun W'=>WV y x W';obtain⟨x0,x1,x2,x3,x4⟩:=x;obtain⟨y0,y1,y2,y3,y4⟩:=y;change ∀W',Calls Tryz.prog 212 #[.agg #[.int .i64 y0,.int .i64 y1,.int .i64 y2,.int .i64 y3,.bool y4],.agg #[.int .i64 x0,.int .i64 x1,.int .i64 x2,.int .i64 x3,.bool x4]] W' (fun e w'=>e= .returned (.int .i64 (orI (Lib.compareInt y2 x2) (Lib.compareInt y3 x3)))/\∃q os',w'=grow (W'.drewN q) os')at hs;show Calls Tryz.prog 441 #[.agg #[.int .i64 x0,.int .i64 x1,.int .i64 x2,.int .i64 x3,.bool x4],.agg #[.int .i64 y0,.int .i64 y1,.int .i64 y2,.int .i64 y3,.bool y4]] W fun e w'=>e= .returned (.int .i64 (orI (Lib.compareInt y2 x2) (Lib.compareInt y3 x3)))/\∃q os',w'=grow (W.drewN q) os';generalize orI (Lib.compareInt y2 x2) (Lib.compareInt y3 x3)=r at hs⊢
 go_enter Tryz.func441,Tryz.ntmps441
 go_wp2_with (go_at_call 212;refine(hs _).mono ?_;rintro e w' ⟨rfl,q3,os3,hw3⟩;subst hw3)
 go_ret
 refine⟨rfl,q3,#[Obj.cells #[.int .i64 x0,.int .i64 x1,.int .i64 x2,.int .i64 x3,.bool x4] 361]++ #[Obj.cells #[.int .i64 y0,.int .i64 y1,.int .i64 y2,.int .i64 y3,.bool y4] 361]++os3,?_⟩;rw[alloc_eq_grow,alloc_eq_grow];show grow (grow (grow (W.drewN q3) #[_]) #[_]) os3=_;rw[grow_grow,grow_grow];simp only[Array.append_assoc]
end
section
open Go.Shelf Go.Lib Go.Sort
def cfC(x y:Cl):Int:=orI (Lib.compareInt y.2.2.1 x.2.2.1) (Lib.compareInt y.2.2.2.1 x.2.2.2.1)
theorem ltC(x y:Cl):ltOf cfC x y=decide (y.2.2.1<x.2.2.1\/(y.2.2.1=x.2.2.1/\y.2.2.2.1<x.2.2.2.1)):=by
 unfold ltOf cfC orI Lib.compareInt;rw[decide_eq_decide];repeat' split
 all_goals omega
theorem an1:SWO (ltOf cfC) where
 irrefl x:=by rw[ltC];simp
 trans x y z h1 h2:=by rw[ltC,ei]at*;omega
 ntrans x y z h1 h2:=by rw[ltC,LB]at*;omega
def qV(x:Sc):Cl:=((x.list.getD 0 (.i 0)).int,(x.list.getD 1 (.i 0)).int,(x.list.getD 2 (.i 0)).int,(x.list.getD 3 (.i 0)).int,(x.list.getD 4 (.i 0)).bool)
def JH(x:Cl):Sc:= .l [.i x.1,.i x.2.1,.i x.2.2.1,.i x.2.2.2.1,.b x.2.2.2.2]
def rD(l:List Cl):Array Cl:=pdq (ltOf cfC) l.toArray 0 l.toArray.size (Lib.bitLen l.toArray.size) true true
def aag:dK
 |[.l xs]=>if xs.length<4611686018427387904 then some [.l ((rD (xs.map qV)).toList.map JH)]else none
 |_=>none
theorem zU(l:List Cl):(rD l).size=l.length:=by have h:=pdq_sorts (ltOf cfC) an1 l.toArray 0 l.toArray.size (Lib.bitLen l.toArray.size) true true (xA _) (aX _) (Or.inl rfl);have:=h.1.1;unfold rD;rw[this];rfl
theorem agx{x y:Sc}(h:x.er=y.er):qV x=qV y:=by
 have hl:dP x.list=dP y.list:=by rw[<-wg,<-wg,h]
 have hg:∀i,(x.list.getD i (.i 0)).er=(y.list.getD i (.i 0)).er:=by
  intro i;have:=congrArg (fun l=>l[i]?) hl;simp only[dP,vR]at this;rw[cE,cE];cases h1:x.list[i]? <;>cases h2:y.list[i]? <;>rw[h1,h2]at this<;>simp at this⊢
  exact this
 have hi:∀i,(x.list.getD i (.i 0)).int=(y.list.getD i (.i 0)).int:=fun i=>by rw[<-Dv,hg,Dv]
 have hb:(x.list.getD 4 (.i 0)).bool=(y.list.getD 4 (.i 0)).bool:=by rw[<-zL,hg,zL]
 unfold qV;rw[hi 0,hi 1,hi 2,hi 3,hb]
theorem SG:∀{xs ys:ab},dP xs=dP ys->xs.map qV=ys.map qV
 |[],[],_=>rfl|x::xs,y::ys,h=>by have h:x.er::dP xs=y.er::dP ys:=h;rw[uQ]at h;rw[jQ,jQ,agx h.1,SG h.2]
 |[],_::_,h=>by cases h
 |_::_,[],h=>by cases h
theorem XI{α:Type}{f:α->aW}(hf:∀x,(f x).length=5):∀(l:List α)(t:Nat),(l.flatMap f)[t]? =(l[t/5]?).bind fun x=>(f x)[t%5]?
 |[],t=>by simp
 |x::l,t=>by
  rw[AQ];by_cases h:t<5
  ·rw[gA (by rw[hf];exact h),div_eq_of_lt h,mod_eq_of_lt h];rfl
  ·rw[lR (by rw[hf];omega),hf,XI hf l (t-5)];have e1:t/5=(t-5)/5+1:=by omega
   have e2:(t-5)%5=t%5:=by omega
   rw[e1,e2,getElem?_cons_succ]
theorem Cb(x:Cl):(lU x).length=5:=rfl
theorem abV(x:Cl):∀v∈lU x,v.oneCell'=true:=by intro v hv;simp only[lU,bX,nV,AR]at hv;rcases hv with rfl|rfl|rfl|rfl|rfl<;>rfl
theorem KE(d:Array Cl){t:Nat}(h:t<d.size*5):(d.toList.flatMap lU)[t]? =some (flatK lU 5 d)[t]! :=by
 rw[XI Cb,get_flatK _ _ _ _ h];have h1:t/5<d.size:=by omega
 have h2:t%5<5:=mod_lt _ (by omega);rw[qf,Fd h1,getElem!_pos d _ h1];show(lU d[t/5])[t%5]? =some (lU d[t/5])[t%5]!;rw[getElem!_pos (lU d[t/5]) _ (by rw[Cb];exact h2),cB (by rw[Cb];exact h2)]
theorem anM:eC Tryz.prog 361=some (true,[.int .i64,.int .i64,.int .i64,.int .i64,.bool]):=by kernel_rfl
theorem Ol(D:ab):ag true [.int .i64,.int .i64,.int .i64,.int .i64,.bool] D=(D.map qV).flatMap lU:=by unfold ag;rw[flatMap_map];rfl
theorem XF{w:World}{ok:dg}(x:Sc):dR Tryz.prog w ok true [.int .i64,.int .i64,.int .i64,.int .i64,.bool] x:=by
 intro i k hk
 match i,hk with
 |0,hk=>cases hk;exact .int _ _
 |1,hk=>cases hk;exact .int _ _
 |2,hk=>cases hk;exact .int _ _
 |3,hk=>cases hk;exact .int _ _
 |4,hk=>cases hk;exact .bool _
 |n+5,hk=>simp at hk
theorem ada(g cap:Nat)(cur:Array Value)(d:List Cl)(w:World)(hg:w.heap[g]? =some (.cells cur 361 (0,0)))(hn:d.length<=cap)(bi:d.length<4611686018427387904)(hs:cur.size=cap*5)(ht:cur.toList.take (d.length*5)=d.flatMap lU):
 Calls Tryz.prog 440 #[.slice (some ⟨g,0,none⟩) d.length cap,.func (.func 441) #[] #[]] w fun e w'=>e= .returned (.tuple #[])/\f8 w.heap.size (fun p=>p=g) w w'/\
  ∃dy,w'.heap[g]? =some (.cells dy 361 (0,0))/\dy.size=cap*5/\dy.toList.take (d.length*5)=(rD d).toList.flatMap lU:=by
 have eg:∀args w,(callFunc 441 args).run Tryz.prog w= .ok (.enter 441 args) w:=Tryz.call441
 have hgs:g<w.heap.size:=(iX.1 hg).1
 have eT:d.toArray.size=d.length:=rfl
 have hcell:∀j,j<d.length*5->cur[j]? =some (flatK lU 5 d.toArray)[j]! :=by
  intro j hj;have h1:(cur.toList.take (d.length*5))[j]? =(d.flatMap lU)[j]? :=by rw[ht]
  rw[getElem?_take_of_lt hj,qf]at h1;rw[h1];exact KE d.toArray (by rw[eT];exact hj)
 have hH:HoldsK lU 5 w g 0 d.toArray:=by
  intro j hj;rw[size_flatK,eT]at hj;rw[eG];refine⟨?_,?_⟩
  ·unfold World.cell?;simp only[hg];exact hcell j hj
  ·unfold World.frozen?;simp only[hg];simp
 have XZ:CmpLays Tryz.prog 441 #[] lU 5 cfC g 0 d.toArray.size w:=fun m os dk _ x y=>UL x y _
 have Bd:=AnyQ.slices_SortFunc_eq laysSort 5 Tryz.isAgg361 Tryz.sizeOf361 lU Cb abV cfC an1 441 #[] g 0 cap d.toArray w eg XZ hH hgs (by rw[eT];exact bi)
 change Calls Tryz.prog 440 _ _ _ at Bd
 refine Bd.mono ?_
 rintro e w' ⟨rfl,n,os,rfl⟩
 have YA:(rD d).size=d.length:=zU d
 have hF:(flatK lU 5 (rD d)).size=d.length*5:=by rw[size_flatK,YA]
 have lc:∀k,k<w.heap.size->(sortWorldK lU 5 w g 0 n (rD d) os).heap[k]? =(if k=g then some (.cells (putCells id 0 (flatK lU 5 (rD d)) cur) 361 (0,0))else w.heap[k]?):=by
  intro k hk;show((w.heap.modify g (onCells (putCells id 0 (flatK lU 5 (rD d)))))++os)[k]? =_;rw[Array.getElem?_append_left (by simpa using hk),Array.getElem?_modify];by_cases e:k=g
  ·subst e;rw[aA rfl,aA rfl,hg];rfl
  ·rw[aE (fun h=>e h.symm),aE e]
 refine⟨rfl,⟨rfl,rfl,rfl,?_,fun k hk hx=> ?_⟩,putCells id 0 (flatK lU 5 (rD d)) cur,?_,?_,?_⟩
 ·show w.heap.size<=((w.heap.modify g _)++os).size;simp
 ·have:=lc k hk;rw[aE hx]at this;exact this
 ·have:=lc g hgs;rw[aA rfl]at this;exact this
 ·unfold putCells;rw[Array.size_mapIdx,hs]
 ·apply f9;intro k;by_cases hk:k<d.length*5
  ·rw[getElem?_take_of_lt hk,qf];unfold putCells;rw[Array.getElem?_mapIdx,hcell k hk];simp only[Option.map_some];rw[aA ⟨xA _,by rw[hF];omega⟩,KE _ (by rw[YA];exact hk)];rfl
  ·rw[getElem?_take_eq_none (by omega)];symm;rw[List.getElem?_eq_none_iff];have:((rD d).toList.flatMap lU).length=(rD d).toList.length*5:=by
    rw[length_flatMap];have:∀l:List Cl,(l.map fun x=>(lU x).length).sum=l.length*5:=by
     intro l;induction l with
     |nil=>rfl|cons x l ih=>rw[jQ,sum_cons,ih,Cb,AM];omega
    exact this _
   rw[this,cW,YA];omega
def tY:tr:=⟨442000440,440,[(.w 361 true),(.f 441 [])],(.t [])⟩
theorem aah:tY.holds Tryz.prog aag:=by
 intro S w hG ok vs ns xs xw us uw ys l rs dH mZ DT hnd Cq re hF;obtain⟨v0,vf,rfl,rfl,rfl,rfl⟩:∃v0 vf,vs=[v0,vf]/\l=[]/\ns=[]/\vf= .func (.func 441) #[] (([]:bH).map fun n=>Value.pointer (some ⟨n,0,none⟩)).toArray:=by
  have dH:qj Tryz.prog w ok [(.w 361 true),(.f 441 [])] vs l ns:=dH;cases vs with
  |nil=>exact dH.elim|cons v0 vs=>
   obtain⟨l1,l2,n1,n2,rfl,rfl,⟨rfl,rfl⟩,h2⟩:=dH;cases vs with
   |nil=>exact h2.elim|cons vf vs=>
    obtain⟨l3,l4,n3,n4,rfl,rfl,⟨rfl,hn3,hv⟩,h3⟩:=h2;cases vs with
    |cons v vs=>exact h3.elim|nil=>
     obtain⟨rfl,rfl⟩:=h3;have hn3:n3=[]:=px hn3;subst hn3;exact⟨v0,vf,rfl,rfl,rfl,hv⟩
 have DT:Dd Tryz.prog w ok [(.w 361 true),(.f 441 [])] [v0,.func (.func 441) #[] (([]:bH).map fun n=>Value.pointer (some ⟨n,0,none⟩)).toArray] xw uw:=DT;obtain⟨X1,U1,X2,U2,rfl,rfl,⟨x0,rfl,rfl,bj⟩,X3,U3,X4,U4,e3,e4,⟨rfl,rfl⟩,rfl,rfl⟩:=DT;simp only[uP]at e3 e4;subst e3 e4;have Q3:bf tY.args=[]:=rfl;have mZ:GW Tryz.prog w ok (bf tY.args) [] xs us ys:=mZ;rw[Q3]at mZ;obtain⟨rfl,rfl,rfl⟩:=mZ;simp only[rU,uP]at hF re hnd;obtain⟨agg,ks,D,ad,n,cap,hT,bT,rfl,hD,hDn,yA,oD,dz,gj⟩:=bj;rw[anM]at hT;cases hT
 unfold aag at hF;split at hF;rotate_left
 ·cases hF
 rename_i Gv he;cases he
 split at hF;rotate_left
 ·cases hF
 rename_i bi;cases hF
 have QO:dP D=dP Gv:=by simp only[Sc.er,Sc.l.injEq]at hD;exact hD.symm
 have X9:Gv.map qV=D.map qV:=SG QO.symm;have hxn:Gv.length=n:=by have:=congrArg length QO;simp only[dP,Ab]at this;omega
 have amw:∀(w':World)(ok':dg),(cap=0\/w'.ownsRow 0 361 5 (.slice ad n cap) n ((rD (D.map qV)).toList.flatMap lU))->ja Tryz.prog w' ok' 361 (.slice ad n cap) (.l ((rD (Gv.map qV)).toList.map JH)):=by
  intro w' ok' Cr;rw[X9];refine⟨true,_,(rD (D.map qV)).toList.map JH,ad,n,cap,anM,bT,rfl,gh _,?_,yA,oD,?_,fun x hx=>XF x⟩
  ·rw[Ab,cW,zU,Ab];exact hDn
  ·rcases Cr with h|h
   ·exact .inl h
   ·refine .inr ?_;rw[Ol,map_map];have:(qV∘JH)=id:=by funext c;rfl
    rw[this,map_id];exact h
 have out:∀w',f8 w.heap.size (fun p=>aO (.slice ad n cap)=some p) w w'->(cap=0\/w'.ownsRow 0 361 5 (.slice ad n cap) n ((rD (D.map qV)).toList.flatMap lU))->f8 w.heap.size (·∈bC [] ([]++[Value.slice ad n cap])) w w'/\∃x1 xb x2 r Gw u1 ub u2,[Sc.l ((rD (Gv.map qV)).toList.map JH)]=x1++xb++x2++(r++Gw)/\(bC [] (u1++ub++u2)).Nodup/\(∀p∈bC [] (u1++ub++u2),p∈bC [] ([]++[Value.slice ad n cap])\/w.heap.size<=p)/\me Tryz.prog w w' (Ww w.heap.size ok (bC [] ([]++[Value.slice ad n cap])) (bC [] (u1++ub++u2))) (bf tY.args) [] x1 u1 Gw/\nN Tryz.prog w' (Ww w.heap.size ok (bC [] ([]++[Value.slice ad n cap])) (bC [] (u1++ub++u2))) tY.args [Value.slice ad n cap,.func (.func 441) #[] (([]:bH).map fun n=>Value.pointer (some ⟨n,0,none⟩)).toArray] xb ub/\
  vD Tryz.prog w' (Ww w.heap.size ok (bC [] ([]++[Value.slice ad n cap])) (bC [] (u1++ub++u2))) tY.res (.tuple #[]) x2 u2 r/\WG tY.res w [] (.tuple #[]):=by
  intro w' hb hr
  refine⟨hb.mono (aX _) (fun p _ hp=>by simp[bC,hp]),[],[.l ((rD (Gv.map qV)).toList.map JH)],[],[],[],[],[.slice ad n cap],[],by simp,by simpa using hnd,fun p hp=> .inl (by simpa using hp),?_,?_,⟨rfl,rfl,[],rfl,rfl⟩,trivial⟩
  ·rw[Q3];exact⟨rfl,rfl,rfl⟩
  ·exact⟨[.l ((rD (Gv.map qV)).toList.map JH)],[.slice ad n cap],[],[],rfl,rfl,⟨_,rfl,rfl,amw w' _ hr⟩,[],[],[],[],rfl,rfl,⟨rfl,rfl⟩,rfl,rfl⟩
 refine .inl ⟨Tryz.call440 _ _,?_⟩;by_cases HI:n=0
 ·subst HI;have hD0:D=[]:=px hDn;subst hD0;have Bd:=AnyF.slices_SortFunc_none laysSort ad cap (.func (.func 441) #[] #[]) w;change Calls Tryz.prog 440 _ _ _ at Bd;refine Bd.mono ?_;rintro e w' ⟨rfl,rfl⟩;refine⟨_,rfl,out w' (f8.refl _ _ _) ?_⟩;have hp0:(rD (([]:ab).map qV)).toList.flatMap lU=[]:=by have:(rD (([]:ab).map qV)).toList=[]:=px (by rw[cW,zU];rfl);rw[this];rfl
  rw[hp0];rcases dz with h|h
  ·exact .inl h
  ·exact .inr h
 ·rcases dz with h|dz
  ·omega
  rcases dz.2 with⟨_,e⟩|⟨g,iZ,cur,e,_,hg,_,_,nP,Wp⟩
  ·omega
  cases e
  have HJ:aO (.slice (some ⟨g,0,none⟩) n cap)=some g:=by
   cases cap with|zero=>omega|succ c=>rfl
  have hdn:(D.map qV).length=n:=by rw[Ab];exact hDn
  have hs:=ada g cap cur (D.map qV) w hg (by omega) (by omega) nP (by rw[hdn,<-Ol];exact Wp);rw[hdn]at hs;refine hs.mono ?_;rintro e w' ⟨rfl,hb,dy,q1,q2,q3⟩;refine⟨_,rfl,out w' (hb.mono (aX _) fun p _ hp=>by rw[hp];exact HJ) (.inr ⟨?_,.inr ⟨g,cap,dy,rfl,xA _,q1,yA,oD,q2,q3⟩⟩)⟩;rw[<-q3,iW,cW,q2];have:n*5<=cap*5:=fu _ yA;omega
noncomputable def gF:uN Tryz.prog:=⟨tY,aag,aah⟩
end

def asn:List bH:=[[1,120,40,139],[1,120,189,198,205,14,14,14,14,14,68,116,413],[122,0,2,0],[1,131,142],[81],[93,100],[0,0,0,0,0,0,0,0,8],[0,1,0,105],[1,0,0,178],[0,0,0,93,228,0,8,192,201,208,72,213,288,218,8,8,8,0],[1,114,114,110],[120],[1,120,189,198,205,14,14,14,14,14,68,116,413,135],[0,2,366,366,0],[1,0,275,0,1,0,0,0,0,8,8,0,0,0,0,8,8],[0,0,8,378,8,0,0],[0,0,382,0],[3,0,2],[0,0,0,0,0,0],[0,1,1,0,1,0,105,0,1,0,105,105,0,0,0,0,8,8,2,110,110],[1,131,142,0,1,0,0,178],[0,0,0,0,0,1,0,105,0,1,0,105,105,0,0,0,0,8,8,2],[0,0,0,8,0,0,0],[1,0,0,0,0,8,8,0,0,0,0,8,8],[1,8,0,0,0],[0,0,0,0,8,8],[0,0,0,0,2],[0,0,0,0,0],[0,1,1],[2,2,2,2,2,2,2,2,2],[2],[120,114,1,120,189,198,205,14,14,14,14,14,68,116,413],[0,8,8,8,8,8],[0,0]]
def am8:List (Nat×bH):=[(225,[5,0,0,0,0,0,0,0,0,0,0,0,0,0,2,2,3,282,0,2,0,0,0,0,0,0,0,0,0,0,0,3,2,2,2,0,2,2,2,8,0,0]),(225,[5,0,0,0,0,0,44,0,0,0,0,0,0,0,2,2,3,282,0,2,0,0,0,0,0,628,0,0,0,0,0,3,2,2,2,0,2,2,2,8,0,0]),(225,[5,362,569,596,617,44,44,44,44,44,206,350,1241,407,2,3,3,282,687,3,13,565,592,613,205,628,853,643,13,13,13,3,3,3,3,27,3,3,3,9,268,289]),(245,[5,362,122,419,2,362,344,5,362,569,596,617,44,44,44,44,44,206,350,1241]),(256,[5,362,122,419,362,344,5,362,569,596,617,44,44,44,44,44,206,350,1241,3]),(225,[5,362,569,596,617,44,44,44,44,44,206,350,1241,407,2,2,3,282,687,3,13,565,592,613,205,628,853,643,13,13,13,3,3,3,3,27,3,3,3,9,268,289]),(225,[5,0,0,0,0,0,0,0,0,0,0,0,0,407,2,2,3,282,687,2,13,565,592,613,205,628,853,643,13,0,13,3,2,2,3,27,3,2,3,9,268,289]),(225,[5,0,0,0,0,0,0,0,0,0,0,0,0,0,2,2,2,0,0,2,0,0,0,0,0,0,0,0,0,0,0,2,2,2,2,0,2,2,2,8,0,289]),(225,[5,0,0,0,0,0,0,0,0,0,0,0,0,0,2,2,3,282,687,2,0,0,0,0,0,0,0,0,0,0,0,3,2,2,2,0,2,2,2,8,0,289]),(225,[5,0,0,0,0,0,0,0,0,0,0,0,0,0,2,2,3,282,687,2,0,565,0,0,0,0,0,0,0,0,13,3,2,2,2,0,2,2,2,9,0,289]),(225,[5,0,0,0,0,0,0,0,0,0,0,0,0,0,2,2,3,282,687,2,0,0,0,0,0,0,0,0,0,0,0,3,2,2,2,0,2,2,2,8,0,0]),(225,[5,0,0,0,0,0,0,0,0,0,0,0,0,0,2,2,2,0,0,2,26,578,605,0,218,0,0,0,0,0,0,2,2,2,2,26,2,2,2,8,0,0]),(225,[5,0,0,0,0,0,0,0,0,0,0,0,0,0,2,2,2,0,0,2,0,578,605,0,218,0,0,0,0,0,0,2,2,2,2,0,2,2,2,8,0,0]),(225,[5,0,0,0,0,0,0,0,0,0,0,0,0,0,2,2,2,282,687,2,0,0,0,0,0,0,0,0,0,0,0,2,2,2,2,0,2,2,2,8,0,0]),(225,[5,0,0,0,0,0,0,0,0,0,0,0,0,407,2,2,2,0,687,2,0,0,0,0,0,0,0,0,0,0,0,2,2,2,2,0,2,2,2,8,0,0]),(225,[5,0,0,0,0,0,0,0,0,0,0,0,0,0,2,2,2,0,0,2,13,578,605,0,218,628,0,0,0,0,0,2,2,2,2,13,2,2,2,8,0,0]),(225,[5,0,0,0,0,0,0,0,0,0,0,0,0,0,2,2,2,0,0,2,26,578,605,0,218,0,853,643,13,0,0,3,2,2,2,26,2,2,2,8,0,289]),(111,[5,26,2,2,2])]
def aN:Nat->CK
 |0=> .int .i64|1=> .str|2=> .bool|3=> .int .u64|4=> .int .u8|n+5=> .sl n
def pN:Nat->PS
 |0=> .fq|1=> .sp|n+2=>match n%3 with
  |0=> .rd (aN (n/3))|1=> .ck (aN (n/3))|_=> .own (n/3)
def lN(n:Nat):Nat×m7:=((am8.getD n (0,[])).1,(am8.getD n (0,[])).2.map pN)
def csN(n:Nat):CS:=match n/1000 with
 |0=> .a (.ck (aN n))|1=> .g ((asn.getD (n-1000) []).map fun n=> .ck (aN n))|2=> .p (lN (n-2000)).1 (lN (n-2000)).2|3=> .w (n-3000) true|4=> .w (n-4000) false|5=> .f (n-5000) []|_=> .f 138 [lN (n-6000)]
def cq(key:Nat)(a:bH)(r:RS):tr:=⟨key,key%1000000,a.map csN,r⟩
def rc(n:Nat):RS:= .c (csN n)
def rt(l:bH):RS:= .t (l.map csN)
def hr(ks:bH)(low:Nat)(v:List (Nat×Nat))(c:List (Nat×Nat×Nat))(r:bH)(g:List (Nat×CS))(gc:List (Nat×Nat×CK))(f cl:bH)(un:Nat):List mw:=ks.map fun k=>⟨k*1000000000+low,v,[],c,r,g,gc,f,cl,un⟩
def hc(ks:bH)(low:Nat)(v:List (Nat×Nat))(c:List (Nat×Nat×Nat)):List mw:=hr ks low v c [] [] [] [] [] 0
def hq(ks:bH)(low:Nat)(v:List (Nat×Nat)):List mw:=hc ks low v []
def dat:List (Nat×tr×List mw):=[(0,cq 3 [1000,1001,1002] (rc 2),[]),(0,cq 4 [1000] (rc 2),hq [15002] 400010 [(3,0),(94,0)]++hq [3001] 400005 [(3,0),(27,0)]),(0,cq 5 [1002] (rc 2),[]),(0,cq 6 [] (rc 2),[]),(0,cq 7 [1000,122,0,2] (rt [1003,1004,0]),[]),(0,cq 8 [1003,1004,0] (rt [1005,1004,0]),hr [3004] 800008 [(10,88),(11,52)] [] [] [] [(1,0,(.sl 76))] [] [] 0),(0,cq 9 [1005,1005] (rc 2),hq [4002] 900010 [(45,0)]++hq [4002] 900004 [(26,0)]),(0,cq 10 [1005,0] (rc 1005),hc [3003] 1000009 [(31,0)] [(2,(1,95))]++hc [2003] 1000003 [(13,0)] [(2,(0,88))]),(0,cq 11 [110,0] (rc 0),hq [6000] 1100007 [(7,0)]++hq [1000] 1100002 [(1,0),(5,0)]),(0,cq 12 [] (rc 1000),[]),(0,cq 13 [1000,122] (rt [1000,0]),hq [5004] 4900002 [(8,0)]++hq [5003] 2500002 [(8,0)]++hr [5002] 1300006 [(23,0)] [] [4] [] [] [] [] 0),(0,cq 14 [1000] (rt [1003,0]),hc [7003] 1400022 [(81,0)] [(2,(2,137))]++hr [20005] 1400011 [(44,0)] [(4,(13,130))] [19] [] [] [] [] 0++hc [6003] 1400006 [(29,0)] [(2,(1,126))]++hr [19005] 1400011 [(44,0)] [(4,(13,130))] [18] [] [] [] [] 0),(0,cq 15 [1003,0,2] (rt [1004,0]),hc [2003] 1500006 [(22,0)] [(2,(0,76))]),(0,cq 16 [1003,1004] (rc 0),hq [3002] 1600013 [(39,0)]++hq [3002] 1600007 [(26,0)]),(0,cq 17 [1004,0] (rc 2),[]),(0,cq 18 [1003,1004] (rt [1004,1006,100,2]),[]),(0,cq 19 [93,57] (rc 1005),hc [4002] 1900013 [(39,0)] [(1,(0,88)),(1,(1,95))]++hq [2001] 1900003 [(5,152),(14,0)]),(0,cq 20 [1006,1006] (rc 2),[]),(0,cq 21 [1007,0] (rc 0),hq [1001] 2100003 [(1,0),(5,0)]),(0,cq 22 [1000] (rc 0),hq [15002] 2200008 [(26,0)]++hq [3001] 2200005 [(18,0)]),(0,cq 28 [0,0] (rc 2),[]),(1,cq 29 [1000] (rt [1000,0]),hr [17003] 2900010 [(38,0)] [] [16] [] [] [] [] 0++hr [4002] 2900006 [(23,0)] [] [3] [] [] [] [3] 0),(0,cq 31 [1000,0,0] (rt [1008,0]),[]),(0,cq 32 [1000,1] (rc 0),hq [3002] 5600002 [(8,0)]),(0,cq 33 [1003] (rc 0),hq [15003] 3300028 [(79,0)]++hq [2002] 3300025 [(71,0)]++hc [2002] 3300010 [(34,0)] [(1,(0,0))]),(0,cq 34 [1003,0,0,2] (rt [1009,0]),hr [50007] 3400052 [(229,0)] [(6,(16,0)),(6,(25,208)),(6,(31,0))] [] [] [(6,17,(.sl 88))] [] [] 0++hr [49007] 3400047 [(215,0)] [(6,(16,0)),(6,(31,0))] [] [] [(6,17,(.sl 88))] [] [] 0++hc [24004] 3400041 [(196,0)] [(3,(13,213))]++hc [23004] 3400033 [(173,0)] [(3,(11,208))]++hc [22004] 3400027 [(151,0)] [(3,(9,203))]++hc [21004] 3400021 [(129,0)] [(3,(8,196))]++hc [20004] 3400015 [(109,0)] [(3,(7,187))]++hc [19004] 3400010 [(94,0)] [(3,(6,3))]),(0,cq 35 [1003,1009] (rc 0),hq [28003] 3500025 [(103,0)]++hq [28003] 3500019 [(90,0)]),(0,cq 36 [1004] (rt [0,2]),hr [1002] 3600004 [(4,0),(5,0),(14,0)] [(1,(0,0)),(1,(1,0)),(1,(2,0)),(1,(3,0)),(1,(4,0)),(1,(5,0)),(1,(6,0)),(1,(7,0))] [] [] [(1,8,(.sl 3))] [] [] 0),(0,cq 37 [1009] (rt [1006,2]),[]),(0,cq 38 [1003,1009] (rt [1009,1006,93,100,2]),[]),(0,cq 40 [1004,93] (rt [1004,0]),hr [3002] 4000003 [(16,0)] [] [2] [] [] [] [] 0),(0,cq 43 [8] (rc 0),hq [1000] 4300003 [(8,0)]),(0,cq 44 [0,0] (rc 0),[]),(0,cq 45 [1006,1006] (rc 0),[]),(0,cq 46 [8,8] (rc 2),hq [2000] 4600004 [(13,0)]),(0,cq 47 [1000] (rc 0),hc [3004] 8700004 [(16,0)] [(2,(0,0))]++hc [3006] 8700004 [(16,0)] [(4,(0,0))]++hc [3002] 14700004 [(16,0)] [(1,(0,0))]),(0,cq 48 [1000,0,114,110] (rc 0),[]),(0,cq 50 [0] (rc 2),[]),(0,cq 52 [1000,1001,1010] (rc 120),hq [21007,21008,21005] 18600002 [(8,0)]++hr [21005,21006] 9400005 [(5,0),(6,0)] [] [20] [] [] [] [] 0++hq [21004] 2500002 [(8,0)]),(0,cq 53 [1011,110] (rt [110,0]),hq [2001] 5300003 [(6,105),(13,0)]),(0,cq 54 [65] (.o 109),hq [1000,3000] 5400011 [(6,109),(27,0)]++hq [1000] 5400003 [(3,0),(11,0)]),(0,cq 55 [1000,0,114,110] (.ot 173 ([0].map csN)),[]),(0,cq 58 [1] (rc 0),hq [0] 5800004 [(24,0)]),(0,cq 59 [1012] (rc 2),hq [13001] 10400004 [(17,0)]),(0,cq 60 [1003] (rc 0),hc [2002] 6000005 [(15,0)] [(1,(0,0))]),(0,cq 61 [1003,0,1008] (rc 0),hq [3003] 6100014 [(66,0)]),(0,cq 62 [0] (rt [1013,0]),[]),(0,cq 63 [1014,0] (rc 0),hq [5001] 6300007 [(5,0),(36,0)]),(0,cq 64 [0,0] (rt [1015,0]),[]),(0,cq 65 [0,0] (rt [1016,0]),[]),(0,cq 66 [0,1] (rc 1017),hq [1001] 6600003 [(5,0),(15,0)]),(0,cq 67 [1,1] (rc 1),[]),(0,cq 68 [1017] (rc 1017),[]),(0,cq 69 [0,0] (rt [1018,0]),[]),(0,cq 71 [2000,0,0,0,0,8] (rt []),hq [30002] 7100004 [(13,0),(56,0)]),(0,cq 72 [2000,0,1014] (rt []),[]),(0,cq 73 [2001,0,1014,2] (rt []),[]),(0,cq 74 [0] (rc 2),[]),(0,cq 75 [1001,1009] (rc 2),[]),(0,cq 76 [1009] (rc 0),hq [13001] 7600005 [(15,0)]),(0,cq 77 [1001,1009] (rc 0),hq [25002] 7700040 [(130,0)]++hq [25002] 7700033 [(117,0)]++hq [25002] 7700024 [(83,0)]++hq [25002] 7700015 [(49,0)]++hq [25002] 7700008 [(36,0)]++hq [25002] 7700002 [(25,0)]),(0,cq 78 [1012,228] (rc 0),hq [14001] 7800004 [(13,0)]),(0,cq 79 [228,0] (rc 0),hq [1000] 7900003 [(5,0),(10,0)]),(0,cq 80 [1006,1006] (rc 2),[]),(0,cq 81 [93] (rt [1006,93,2]),[]),(0,cq 82 [2002,1006] (rt []),[]),(0,cq 83 [1009,1006] (rt [1009,0]),hq [14003] 8300008 [(6,0),(32,0)]),(0,cq 85 [0] (rc 2),[]),(0,cq 90 [1001] (rc 0),hq [12005,15007,12007,15009,12009,15011,17007,20009,17009,20011,17011,20013,12011,15013,17013,20015] 17500004 [(16,0)]++hc [12005,12007,12009,17007,17009,17011,12011,17013] 17100004 [(16,0)] [(1,(0,0))]++hc [12005,12007,12009,17007,17009,17011,12011,17013] 15000004 [(16,0)] [(1,(0,0))]++hc [12005,12007,17007,17009,12009,17011] 16300004 [(16,0)] [(1,(0,0))]++hc [12005,17007,12007,17009] 16000004 [(16,0)] [(1,(0,0))]++hc [12005,12007] 15400004 [(16,0)] [(1,(0,0))]++hc [12005] 14700004 [(16,0)] [(1,(0,0))]++hr [12005] 15100002 [] [] [] [] [] [] [] 32),(0,cq 91 [1000] (rc 0),hc [3003] 18000004 [(16,0)] [(1,(0,0))]),(0,cq 92 [110] (rc 0),[]),(0,cq 93 [2003,110] (rc 0),hq [18001] 9300002 [(12,0)]),(0,cq 98 [1001,1] (rc 1),[]),(0,cq 99 [1011,1019] (rt [1019,0]),hq [10003] 9900010 [(6,0),(7,100),(37,0)]),(0,cq 101 [2004,110] (.o 173),hc [18001] 10100003 [(5,173),(10,0)] [(0,(19,0))]),(0,cq 102 [4] (rc 2),[]),(0,cq 103 [1] (rc 2),[]),(0,cq 106 [1020,1021] (rc 0),hq [10003,11003] 10600021 [(103,0)]),(0,cq 107 [1014] (rc 0),hq [5001] 10700012 [(38,0)]),(0,cq 108 [0,0,0] (rc 2),[]),(0,cq 109 [1014] (rc 0),[]),(0,cq 110 [0,0,0] (rc 2),[]),(0,cq 111 [3] (rc 3),[]),(0,cq 112 [1017] (rc 0),[]),(0,cq 113 [0] (rc 2),[]),(0,cq 114 [0] (rc 2),[]),(0,cq 123 [0] (rc 0),[]),(0,cq 124 [93,1006] (rt [93,0]),hq [2002] 20000003 [(9,0),(10,0)]),(0,cq 125 [1014,0] (rt [0,0,2]),hq [5002] 12500006 [(52,0)]),(0,cq 126 [14,1] (rc 0),[]),(0,cq 127 [1014,1017,0,2] (rt [0,1017,0]),[]),(0,cq 128 [93] (rc 0),hq [1000] 12800004 [(11,0)]),(0,cq 129 [1009,1006] (rc 2),[]),(0,cq 130 [1013] (rc 0),hc [4004] 21300003 [(11,0)] [(3,(0,0))]++hc [4003] 21300003 [(11,0)] [(2,(0,0))]++hc [4002] 21300003 [(11,0)] [(1,(0,0))]++hq [4001,4002] 21000002 [(5,0)]++hc [4005] 21300003 [(11,0)] [(4,(0,0))]++hq [4001] 29400002 [(8,0)]),(0,cq 131 [1015] (rc 0),hc [7004] 13100018 [(71,0)] [(3,(0,0))]++hq [7004,7005] 13100012 [(61,0)]++hc [7005] 13100018 [(71,0)] [(4,(0,0))]++hq [7003] 29600002 [(8,0)]++hq [7003] 29500002 [(8,0)]),(0,cq 132 [1016] (rc 0),hq [2002] 13200008 [(5,0),(33,0)]),(0,cq 133 [8] (rc 0),hq [1000] 13300004 [(10,0)]),(0,cq 134 [1009] (rc 0),hq [13001] 13400018 [(45,0)]++hq [13001] 13400009 [(27,0)]++hq [13001] 13400002 [(14,0)]),(0,cq 135 [1012,1022] (rc 0),[]),(0,cq 136 [2005,0,8] (rt []),[]),(0,cq 139 [228,0] (rc 0),hq [1001] 23100002 [(8,0)]),(3,cq 140 [2006] (rt []),hr [52003,42003,50003,40003] 41300037 [(278,0)] [(0,(16,0)),(0,(31,0))] [] [] [(0,17,(.sl 88)),(0,18,(.sl 223))] [] [] 0++hr [56005,46005,54005,44005] 41700010 [(69,0)] [(0,(16,0)),(0,(31,0)),(0,(41,95))] [] [] [(0,17,(.sl 88)),(0,18,(.sl 223))] [] [] 0++hr [56005,46005,54005,44005] 41600010 [(64,0)] [(0,(16,0)),(0,(31,0)),(0,(41,95))] [] [] [(0,17,(.sl 88)),(0,18,(.sl 223))] [] [] 0++hq [62007,52007,60007,50007] 29400002 [(8,0)]++hr [56007,46007,54007,44007] 41400014 [(89,0)] [(0,(41,95))] [] [] [(0,17,(.sl 88)),(0,18,(.sl 223))] [] [] 0++hq [49006,39006,47006,37006] 41400004 [(5,3),(41,0)]++hr [31001] 14000004 [(3,0)] [(0,(20,3)),(0,(25,208)),(0,(34,0)),(0,(35,3)),(0,(16,0)),(0,(31,0)),(0,(40,88)),(0,(41,95)),(0,(26,283)),(0,(27,213)),(0,(28,3)),(0,(21,187)),(0,(30,3)),(0,(39,0))] [2,4] [] [(0,17,(.sl 88)),(0,18,(.sl 223))] [] [] 0),(0,cq 141 [1013,0] (rt [1013,366,0]),[]),(0,cq 142 [2007,0,0,0,0] (rt []),[]),(0,cq 143 [2008,0,366] (rt []),hr [30001] 14300001 [(10,0)] [(0,(16,0)),(0,(31,0)),(0,(41,95))] [] [] [(0,17,(.sl 88)),(0,18,(.sl 223))] [] [] 0),(0,cq 144 [1013,2] (rt [1013,366,0]),[]),(0,cq 156 [0,0,0] (rc 2),[]),(0,cq 157 [1014] (rc 0),hq [5001] 15700010 [(25,0)]),(0,cq 158 [1001,1023] (rc 0),[]),(0,cq 173 [1010] (rc 0),hc [5002] 17300005 [(29,0)] [(1,(0,0))]),(0,cq 177 [1001,1024] (rc 0),hq [14002] 17700008 [(30,0)]),(0,cq 179 [1001] (rc 0),hq [13005] 24600004 [(16,0)]++hc [12003] 24400004 [(16,0)] [(1,(0,0))]),(0,cq 182 [110] (rc 0),hq [1000] 18200003 [(3,0),(10,0)]),(0,cq 183 [110] (rc 0),hq [1000] 18300003 [(3,0),(8,0)]),(0,cq 184 [110] (rc 0),hq [1000] 18400002 [(12,0)]),(0,cq 185 [2003,1019] (rc 0),[]),(0,cq 187 [1001,1] (rt [1,0]),hq [12002,12003,17003,17004,12004,17005] 26400002 [(8,0)]++hq [12002,17003,12003,17004] 26200002 [(8,0)]++hq [12002,12003] 26000002 [(8,0)]++hq [12002] 2500002 [(8,0)]),(0,cq 188 [1011,1007] (rt [1007,0]),hr [2003] 18800004 [(16,0)] [(1,(0,0)),(1,(1,0)),(1,(2,0))] [] [] [(1,3,(.sl 100))] [] [] 0),(0,cq 189 [178,0] (rc 178),hr [2000] 18900003 [(11,0)] [] [1] [] [] [] [] 0),(0,cq 190 [2004,1019] (rc 178),[]),(0,cq 191 [0] (rc 2),[]),(0,cq 192 [1021] (rc 2),[]),(0,cq 193 [1020,0,0,0] (rc 2),[]),(0,cq 194 [1003,0,0] (rt [0,2]),hq [2003] 28000002 [(8,0)]),(0,cq 195 [1021] (rc 105),[]),(0,cq 196 [1007] (rc 0),[]),(0,cq 197 [1020,1007] (rc 2),hq [4002] 32700002 [(8,0)]),(0,cq 198 [1025] (rc 0),[]),(0,cq 199 [1006] (rc 0),hq [1001] 19900015 [(52,0)]),(0,cq 203 [14,1] (rc 0),hq [1000] 20300002 [(8,0)]),(0,cq 204 [1014,0] (rc 0),[]),(0,cq 205 [1025,1017] (rt [0,1017,0]),hc [2004] 20500014 [(11,0),(45,0)] [(1,(0,0)),(1,(1,0)),(1,(2,0))]),(0,cq 206 [190] (.o 361),hq [1000,3000] 20600011 [(6,361),(27,0)]++hq [1000] 20600003 [(3,0),(11,0)]),(0,cq 209 [1026] (rc 2),[]),(0,cq 211 [1026,1026] (rc 0),[]),(0,cq 212 [1026,1026] (rc 0),[]),(0,cq 214 [1026] (rc 0),[]),(0,cq 215 [1026] (rc 0),[]),(0,cq 216 [1013] (rc 0),hq [2001] 21600005 [(3,0),(13,0)]),(0,cq 217 [1015] (rc 8),hq [3001] 21700003 [(3,3),(9,0)]),(0,cq 222 [0] (rc 2),[]),(0,cq 223 [1016,0] (rc 0),[]),(0,cq 224 [8,0] (rc 2),[]),(0,cq 225 [1027] (rc 0),[]),(0,cq 226 [1018] (rc 0),[]),(0,cq 227 [0,0] (rc 2),[]),(0,cq 228 [8] (rc 2),hq [1000] 29500002 [(8,0)]),(0,cq 229 [1012,0,8,0,0] (rt [1022,0]),[]),(0,cq 230 [228,1022] (rc 228),hq [3001] 23100002 [(8,0)]),(0,cq 233 [2009] (rt []),hr [29001] 23300002 [(18,0)] [(0,(16,0)),(0,(31,0)),(0,(41,95))] [0] [] [(0,17,(.sl 88)),(0,18,(.sl 223))] [] [] 0),(0,cq 235 [2009] (rt []),[]),(0,cq 236 [1013] (rt [1013,366]),hr [2002] 23600002 [(4,361)] [] [] [] [(0,2,(.sl 361)),(0,3,(.sl 361))] [] [] 0),(0,cq 237 [2010,0] (rt []),[]),(0,cq 239 [0] (rc 2),[]),(0,cq 240 [0,0] (rc 2),[]),(0,cq 241 [1025,1025] (rc 2),[]),(0,cq 242 [14,1] (rc 2),[]),(0,cq 243 [1001,1] (rc 0),hq [12002] 31000002 [(8,0)]),(0,cq 248 [1001,1028] (rc 0),hq [12002] 26200002 [(8,0)]),(0,cq 249 [0] (rt [1029,2]),[]),(0,cq 250 [1019,1029] (rc 2),[]),(0,cq 251 [1019,1029] (rc 0),hq [9002] 25100019 [(74,0)]++hq [9002] 25100009 [(53,0)]++hq [8002] 25100002 [(26,0)]),(0,cq 252 [2003,1019] (rc 0),hq [24002] 25200004 [(29,0)]),(0,cq 253 [2003,1,2,112] (rc 0),[]),(0,cq 254 [2003,1,1] (rc 2),[]),(0,cq 255 [2003,1007,112] (rc 0),hq [19002] 25500005 [(25,0)]),(0,cq 256 [2003,1019,1,105] (rc 0),hq [25002] 25600004 [(20,0)]),(0,cq 257 [2003,1019] (rc 0),[]),(0,cq 258 [2003,1010,1019] (rc 0),hq [27003] 25800004 [(20,0)]),(0,cq 266 [1007,1,1007] (rc 1007),hq [2003] 26600005 [(7,100),(23,0)]),(0,cq 267 [0,0] (rc 1007),[]),(0,cq 268 [1007] (rc 0),[]),(0,cq 269 [1007] (rc 1007),[]),(0,cq 271 [2004,1] (rc 0),[]),(0,cq 272 [2004,1019] (rc 178),[]),(0,cq 273 [2004,1] (rc 0),hq [17001] 27300002 [(5,0)]),(0,cq 274 [2004,1] (rc 0),hq [17002] 2500002 [(8,0)]),(0,cq 275 [2004,1019] (rc 1021),[]),(0,cq 276 [2004,1007] (rc 1007),[]),(0,cq 277 [2004,105] (rc 105),hc [18001] 27700003 [(5,100),(10,0)] [(0,(19,0))]),(0,cq 278 [1007] (rc 2),[]),(0,cq 279 [1020,0,0] (rc 0),[]),(0,cq 282 [1030,1007] (rc 0),[]),(0,cq 285 [1025] (rc 2),[]),(0,cq 286 [0,0,8] (rc 2),hq [1002] 29500002 [(8,0)]),(0,cq 287 [0,0] (rc 2),[]),(0,cq 290 [1014] (rc 0),[]),(0,cq 291 [1017] (rt [3,1017]),[]),(0,cq 292 [1025,3] (rt [0,2]),[]),(0,cq 297 [8,0] (rc 0),hq [1000] 29700002 [(8,0)]),(0,cq 298 [0] (rc 2),[]),(0,cq 303 [1013,0] (rc 0),[]),(0,cq 304 [1013,0] (rt [1013,366]),hr [4004,4005] 33800005 [(5,0),(6,0)] [] [3] [] [] [] [] 0++hq [4003,4004,3003] 29400002 [(8,0)]++hr [3004] 33800005 [(5,0),(6,0)] [] [2] [] [] [] [] 0),(0,cq 305 [228,0] (rc 228),hr [3002] 33900005 [(5,0),(6,0)] [] [1] [] [] [] [] 0++hq [2001] 23100002 [(8,0)]),(0,cq 306 [366,0] (rc 0),hq [1001] 29400002 [(8,0)]),(0,cq 315 [1007,1007] (rc 2),hq [2002] 31500004 [(38,0)]),(0,cq 316 [114,1] (rt [0,2]),hq [1000] 31600002 [(6,0)]),(0,cq 317 [2003,1,112] (rc 0),hq [18001] 31700003 [(23,0)]),(0,cq 318 [1031,1007] (rt [0,0]),[]),(0,cq 319 [1000,1,1] (rt [0,2]),hq [3003] 34500002 [(8,0)]),(0,cq 320 [1007] (rc 1007),hq [2002] 32000006 [(3,100),(4,3),(23,0)]),(0,cq 321 [1001,1] (rc 0),[]),(0,cq 323 [2004,1] (rc 1007),[]),(0,cq 324 [1007] (rc 0),hq [1001] 32400003 [(3,0),(9,0)]),(0,cq 325 [1007] (rc 0),hq [1001] 32500003 [(3,0),(9,0)]),(0,cq 326 [1030,1007] (rc 0),hq [1002] 32600005 [(18,0)]),(0,cq 330 [1017] (rc 2),[]),(0,cq 331 [1017,0] (rc 3),[]),(0,cq 332 [3,0] (rc 0),[]),(0,cq 333 [1025,3] (rc 0),hq [4001] 33300010 [(7,0),(34,0)]++hq [4001] 37500009 [(7,0),(8,0)]++hq [4001] 37500007 [(7,0),(8,0),(6,0)]++hr [4001] 38300004 [(9,0)] [] [3] [] [] [] [] 0++hr [4001] 38300001 [(8,0)] [] [3] [] [] [] [] 0++hr [4001] 37500002 [(7,0),(8,0)] [] [3] [] [] [] [] 0++hq [3001] 33300003 [(5,3),(17,0)]),(0,cq 334 [1025,3] (rc 0),hq [2001] 33400003 [(6,0),(7,0)]),(0,cq 344 [1031,1007] (rt [0,0]),hq [15002] 34400003 [(6,107),(17,0)]),(0,cq 347 [1007] (rt [0,2]),[]),(0,cq 348 [0,0] (rc 0),[]),(0,cq 349 [0,0,0] (rc 0),[]),(0,cq 350 [1030,1007] (rc 0),[]),(0,cq 352 [3,3] (rt [3,3]),[]),(0,cq 355 [1025] (rc 0),hq [2001] 35500003 [(3,0),(9,0)]),(0,cq 356 [3,3,3] (rt [3,3]),hq [0] 35600024 [(18,0),(16,0)]++hq [0] 35600017 [(15,0),(16,0)]),(0,cq 360 [1031,1] (rt [0,2]),hq [14001] 36000011 [(39,0)]++hq [14001] 36000005 [(25,0)]),(0,cq 361 [0,1] (rc 2),[]),(0,cq 362 [0,0] (rc 0),[]),(0,cq 363 [0,0,0] (rc 0),[]),(0,cq 364 [0] (rc 0),[]),(0,cq 365 [2] (rc 0),[]),(0,cq 366 [0,0] (rc 0),[]),(0,cq 367 [0,0] (rc 0),[]),(0,cq 368 [0,0] (rc 0),[]),(0,cq 369 [0,0] (rc 0),[]),(0,cq 370 [0,0,0] (rc 2),[]),(0,cq 371 [1030,0] (rc 2),[]),(0,cq 372 [0] (rc 0),[]),(0,cq 373 [1030,0] (rc 2),[]),(0,cq 374 [1030,0] (rt [0,0,2]),[]),(0,cq 376 [3] (rc 0),[]),(0,cq 379 [0] (rc 2),[]),(0,cq 380 [0] (rc 0),[]),(0,cq 381 [0] (rc 0),[]),(0,cq 382 [0] (rc 2),[]),(0,cq 385 [3] (rc 0),[]),(4,cq 405 [2011,1007] (rc 0),[]),(0,cq 407 [1032,1007] (rc 0),[]),(0,cq 408 [2012] (.al ([3,0,0,13,13,13].map pN) [0,35,20,0,0,0]),hc [32003] 40800014 [(77,0)] [(2,(5,3))]++hc [31003] 40800009 [(58,0)] [(2,(4,3))]++hc [29003] 40800003 [(32,0)] [(2,(3,3)),(2,(5,3))]),(0,cq 409 [1032,1007] (rc 0),[]),(0,cq 410 [1013] (rc 0),[]),(0,cq 411 [1032,1007] (rc 0),[]),(0,cq 412 [8,0] (rc 0),[]),(0,cq 415 [1013,0,0] (rt [1013,366,0]),[]),(0,cq 418 [1016,0,0] (rt [1016,0,0]),[]),(0,cq 419 [1016,0] (rc 1016),hq [1002] 41900004 [(5,0)]),(2,cq 420 [8,0] (rt [8,0]),[]),(5,cq 421 [8,0] (rt [8,8]),[]),(0,cq 422 [228,0] (rc 8),hq [1000] 42200003 [(5,3),(10,0)]),(0,cq 423 [1013,1026,8] (rt [1013,366,366,0]),hq [4003] 42300018 [(91,0)]++hr [8005] 33800005 [(5,0),(6,0)] [] [7] [] [] [] [] 0++hq [8004,6004] 29400002 [(8,0)]++hr [5003] 42300018 [(91,0)] [] [] [] [(0,2,(.sl 361)),(0,3,(.sl 361))] [] [] 0++hr [6005] 33800005 [(5,0),(6,0)] [] [5] [] [] [] [] 0),(0,cq 424 [2013,0] (rt []),[]),(0,cq 427 [1015,0,0] (rt [1015,2,378,0]),[]),(0,cq 428 [2014,1033] (rt []),[]),(0,cq 429 [1015,0] (rt [1015,0,2,378,0]),[]),(0,cq 430 [1016,0] (rc 0),[]),(0,cq 431 [8] (rc 8),[]),(0,cq 432 [1013,1026,8] (rc 366),hq [5002] 43200011 [(10,0),(50,0)]++hq [3002] 43200003 [(7,361),(16,0)]),(0,cq 434 [93,0] (rt [93,1006,2]),hq [1002] 44200002 [(8,0)]),(0,cq 435 [1015,0,0] (rc 0),[]),(0,cq 438 [1015] (rt [0,2]),[]),(0,cq 439 [72] (.o 3),hq [1000,3000] 43900011 [(6,3),(27,0)]++hq [1000] 43900003 [(3,0),(11,0)]),(0,cq 444 [56] (.o 88),hq [1000,3000] 44400011 [(6,88),(27,0)]++hq [1000] 44400003 [(3,0),(11,0)]),(0,cq 446 [8] (rc 0),hq [1000] 44600005 [(3,0),(4,0)]),(0,cq 467 [1021,2015] (rt []),[]),(0,cq 470 [1032,105] (.o 3),hq [6001] 47000003 [(5,3),(10,0)]),(0,cq 471 [1021,2016] (rt []),[]),(0,cq 472 [1027,0] (rt [1027,0]),[]),(0,cq 473 [1018,0,0] (rt [1018,0]),[]),(0,cq 474 [1027,1027] (rc 1027),[]),(0,cq 475 [1018,0,0] (rc 0),[]),(0,cq 476 [1018,0] (rc 0),[]),(0,cq 43000041 [3152,5042] (rt []),[]),(0,cq 43000084 [3152,0,5042] (rt []),hr [2000] 8400009 [(7,0),(8,0)] [] [0] [] [] [] [] 0++hr [2000] 8400007 [(7,0),(8,0),(6,0)] [] [0] [] [] [] [] 0++hr [1000] 8400002 [(7,0),(8,0)] [] [0] [] [] [] [] 0),(0,cq 43000145 [3152,0,0,5042] (rt []),hr [1000] 14500004 [(9,0)] [] [0] [] [] [] [] 0++hr [1000] 14500001 [(8,0)] [] [0] [] [] [] [] 0),(0,cq 43000146 [3152,0,0,0,5042] (rt []),hq [1000] 14600033 [(20,0),(21,0)]++hr [1000] 14600021 [(17,0)] [] [0] [] [] [] [] 0++hq [1000] 14600015 [(14,0),(15,0)]++hr [1000] 14600009 [(13,0)] [] [0] [] [] [] [] 0++hq [1000] 14600003 [(10,0),(11,0)]),(0,cq 43000238 [3152,0,0,0,5042] (rt []),hr [1000] 23800002 [(10,0),(11,0)] [] [0] [] [] [] [] 0),(0,cq 43000309 [3152,0,0,0,5042] (rt []),hr [1000] 30900001 [(10,0)] [] [0] [] [] [] [] 0),(0,cq 139000137 [135,6017] (rc 0),hq [2001] 13700002 [(8,0)]),(0,cq 212000308 [366,1026,5211] (rc 366),hq [1002] 34200003 [(9,0),(10,0)]),(0,cq 213000308 [366,1026,5212] (rc 366),hq [1002] 34200003 [(9,0),(10,0)])]
noncomputable def nl:List (uN Tryz.prog):=[lY,fU,gZ,fE,fW,fD,g8,iE,gn,gm,g9,gY,lm,lW,gX,mU,lZ,lV,ll,lj,lX,gF]
noncomputable def GK:ug:=dat.map (·.2.1)++nl.map (·.bd)
noncomputable def csF:Nat->ug
 |2=>GK.filter fun c=> !Nat.beq c.key 431|_=>GK
def agv:∀n,∀c∈csF n,c∈GK
 |2,_,h=>(mem_filter.1 h).1|0,_,h=>h|1,_,h=>h|_+3,_,h=>h
def plF:Nat->ip
 |1=>Ph|_=>MQ
def ahX:∀n,oU Tryz.prog (plF n)
 |1=>anA|0=>anz|_+2=>anz
def auY:Nat->bH
 |3=>[408]|4=>[408]|5=>[431]|_=>[]
def inF:Nat->bH
 |n+3=>F9.filter fun f=> ! iC (auY (n+3)) f|_=>F9
def ahs:∀n,∀f,iC (inF n) f=true->∀args w,(callFunc f args).run Tryz.prog w= .ok (.enter f args) w
 |n+3,f,h=>Tu f (jm.2 (mem_filter.1 (jm.1 h)).1)|0,f,h=>Tu f h|1,f,h=>Tu f h|2,f,h=>Tu f h
def alb:dat.all (fun d=>cOk Tryz.prog d.2.1.f)=true:=by kernel_rfl
noncomputable def mkM(d:Nat×tr×List mw)(h:cOk Tryz.prog d.2.1.f=true):Mb Tryz.prog GK:=⟨d.2.1,csF d.1,agv d.1,d.2.2,plF d.1,ahX d.1,inF d.1,ahs d.1,QL h,_,rfl⟩
noncomputable def Ay:List (Mb Tryz.prog GK):=dat.attach.map fun d=>mkM d.1 (lO.1 alb d.1 d.2)
def FQ:GK=Ay.map (·.bd)++nl.map (·.bd):=by kernel_rfl
def LG:(GK.map tr.key).Nodup:=by decide+kernel
noncomputable abbrev Gf:Nat->Fn:=gI Ay (A8 nl)
def Wz{m:Mb Tryz.prog GK}{key:Nat}(hf:Ay.find? (fun x=>Nat.beq x.bd.key key)=some m)(l:ab):Gf key l=if l.length=m.bd.width then m.t.aF Gf l []else none:=by have hk:m.bd.key=key:=fh (by simpa using find?_some hf);subst hk;exact congrFun (agH Ay (A8 nl) hf) l
noncomputable def fd(key:Nat):Option (Nat×T bZ):=(Ay.find? fun x=>Nat.beq x.bd.key key).map fun m=>(m.bd.width,m.t)
def XC{key w:Nat}{t:T bZ}(h:fd key=some (w,t)):∃m,Ay.find? (fun x=>Nat.beq x.bd.key key)=some m/\m.bd.width=w/\m.t=t:=by
 obtain⟨m,h1,h2⟩:=nW.1 h;cases h2
 exact⟨m,h1,rfl,rfl⟩
abbrev FT(key w:Nat)(t:T bZ):Prop:=∀l:ab,Gf key l=if l.length=w then t.aF Gf l []else none
def aJ{key w:Nat}{t:T bZ}(h:fd key=some (w,t)):FT key w t:=fun l=>by obtain⟨m,h1,rfl,rfl⟩:=XC h;exact Wz h1 l
def QI{key w:Nat}{t:T bZ}(h:fd key=some (w,t))(n:Nat)(l:ab):gN Ay (A8 nl) (n+1) key l=if l.length=w then t.aF (gN Ay (A8 nl) n) l []else none:=by obtain⟨m,h1,rfl,rfl⟩:=XC h;exact Mf Ay (A8 nl) h1 n l
def alm{key:Nat}(h:(fd key).isSome=true)(l:ab):gN Ay (A8 nl) 0 key l=none:=by rw[Mg,aA (by unfold fd at h;rwa [Option.isSome_map]at h)]
noncomputable def ckE(tb:Tb)(S:List Sp)(sp:Sp)(hs:List LH):Bool:=match fd sp.key with
 |some q=>Nat.beq q.1 sp.args.length&&ck tb S hs sp q.2 sp.args (ui tb sp.pre sp.args []) []|none=>false
noncomputable def mR(tb:Tb):List Sp->List (Sp×List LH)->Bool
 |_,[]=>true|S,e::r=>ckE tb S e.1 e.2&&mR tb (e.1::S) r
theorem zH{tb:Tb}:∀(n:Nat){S:List Sp}{t:List (Sp×List LH)},mR tb S (t.take n)=true->mR tb ((t.take n).foldl (fun S e=>e.1::S) S) (t.drop n)=true->mR tb S t=true
 |0,_,_,_,h=>h|_+1,_,[],h,_=>h|n+1,S,e::t,h,h2=>by simp only[mR,take_succ_cons,aL]at h⊢;exact⟨h.1,zH n h.2 h2⟩
section
variable{tb:Tb}{I:Nat->Sc->Prop}{J:Nat->ab->Prop}(hT:Fa tb I J)
include hT
theorem W0{S:List Sp}{sp:Sp}{hs:List LH}(h:ckE tb S sp hs=true)(hS:∀s∈S,dQ tb I J Gf s):dQ tb I J Gf sp:=by
 unfold ckE at h;split at h
 ·rename_i q hm;rw[aL]at h;refine ak2 hT hS (t:=q.2) (HS:=hs) (fun l hl=> ?_) h.2;rw[aJ (w:=q.1) (t:=q.2) hm,aA (by rw[hl];exact(fh h.1).symm)]
 ·cases h
theorem W4:∀{S:List Sp}{es:List (Sp×List LH)},mR tb S es=true->(∀s∈S,dQ tb I J Gf s)->∀e∈es,dQ tb I J Gf e.1
 |S,[],_,_,e,he=>by cases he
 |S,a::r,h,hS,e,he=>by
  simp only[mR,aL]at h;have ha:dQ tb I J Gf a.1:=W0 hT h.1 hS;rcases bX.1 he with rfl|he
  ·exact ha
  ·exact W4 h.2 (fun s hs=>by
    rcases bX.1 hs with rfl|hs
    ·exact ha
    ·exact hS s hs) e he
end
def BI(tb:Tb)(I:Nat->Sc->Prop)(J:Nat->ab->Prop)(S:List Sp):Prop:=∀N,∀s∈S,dQ tb I (Jm tb.xP J N) Gf s
section
variable{tb:Tb}{I:Nat->Sc->Prop}{J:Nat->ab->Prop}(hT:∀N,Fa tb I (Jm tb.xP J N))
include hT
theorem BI.step{S:List Sp}{tab:List (Sp×List LH)}(h:BI tb I J S)(hk:mR tb S tab=true):BI tb I J (tab.map (·.1)++S):=by
 intro N s hs;rcases ic.1 hs with hs|hs
 ·obtain⟨e,he,rfl⟩:=pB.1 hs;exact W4 (hT N) hk (h N) e he
 ·exact h N s hs
noncomputable def LS(tb:Tb)(S:List Sp)(Nm:List (Nat×Sp×List LH)):Bool:=
 Nm.all (fun e=>ckE tb (Nm.map (fun e=>e.2.1.rcd 200 e.1)++S) (e.2.1.rcd 300 e.1) e.2.2&&(e.2.1.pre++e.2.1.post).all Fc.low&&blt e.1 100&&tb.xP.any fun c=>Nat.beq c.1 e.1)
theorem BI.Nm{S:List Sp}{Nm:List (Nat×Sp×List LH)}(hE:∀k,∀q∈tb.ma k,q.1<200)(hnd:∀c∈tb.xP,∀d∈tb.xP,c.1=d.1->c=d)(hb:∀c∈tb.xP,c.1<100)(h:BI tb I J S)(hk:LS tb S Nm=true):BI tb I J (Nm.map (·.2.1)++S):=by
 have hk:=lO.1 hk;have key:=anH (tb:=tb) (I:=I) (J:=J) hE (Γ:=Gf) (Nm.map fun e=>(e.1,e.2.1))
  (fun e he=>by obtain⟨x,hx,rfl⟩:=pB.1 he;have:=hk x hx;simp only[aL]at this;exact this.1.1.2)
  (fun e he=>by obtain⟨x,hx,rfl⟩:=pB.1 he;have:=hk x hx;simp only[aL,fS]at this;obtain⟨⟨_,h1⟩,c,hc,h2⟩:=this;exact⟨by simpa[blt_eq]using h1,c,hc,fh h2⟩) hnd hb
  (fun N hN e he=>by
    obtain⟨x,hx,rfl⟩:=pB.1 he;have:=hk x hx;simp only[aL]at this;refine W0 (hT N) this.1.1.1 fun s hs=> ?_;rcases ic.1 hs with hs|hs
    ·obtain⟨y,hy,rfl⟩:=pB.1 hs;exact hN (y.1,y.2.1) (pB.2 ⟨y,hy,rfl⟩)
    ·exact h N s hs)
 intro N s hs;rcases ic.1 hs with hs|hs
 ·obtain⟨x,hx,rfl⟩:=pB.1 hs;exact key N (x.1,x.2.1) (pB.2 ⟨x,hx,rfl⟩)
 ·exact h N s hs
end
def zo(j:Nat):List bH->List bH
 |[]=>[]|(i::r)::l=>if Nat.beq i j then r::zo j l else zo j l
 |[]::l=>zo j l
def DI:List bH->Nat
 |(i::_)::_=>i|_=>0
def mX{j:Nat}{p:bH}:∀{l:List bH},p∈zo j l->j::p∈l
 |[],h=>by cases h
 |(i::r)::l,h=>by
  unfold zo at h;split at h
  ·rename_i e;rcases bX.1 h with rfl|h
   ·rw[fh e];exact fc ..
   ·exact bB _ (mX h)
  ·exact bB _ (mX h)
 |[]::l,h=>bB _ (mX (show p∈zo j l from h))
section
variable(tb:Tb)(S:List Sp)(HS:List LH)(sp:Sp)
def Sy:List bH->T bZ->List Ty->List Fc->List LH->Bool
 |sk,.ite c a b,G,F,K=>sk.any isEmpty||(((pr tb G F NI).lp c false||(let F':=ui tb [.t c true] G F;sb F'||(match zo 0 sk with|[]=>ck tb S HS sp a G F' K|s=>Sy s a G F' K)))
  &&((pr tb G F NI).lp c true||(let F':=ui tb [.t c false] G F;sb F'||(match zo 1 sk with|[]=>ck tb S HS sp b G F' K|s=>Sy s b G F' K))))
 |sk,.aa c k,G,F,K=>sk.any isEmpty||((pr tb G F NL).lp c true&&Sy (zo 0 sk) k G (ui tb [.t c true] G F) K)|sk,.call f xs n k,G,F,K=>sk.any isEmpty||(match S[DI sk]? with
  |some s=>Nat.beq s.key f&&(Nat.beq s.res.length n&&xs.all (·.under G.length)&&F.all (·.under G.length)&&iy (pr tb G F NL).fit xs s.args
   &&s.pre.all (fun q=>prove tb NL G F (q.sub fun i=>xs.getD i (.i 0)))
   &&(let G':=G++s.res;let F':=ui tb (s.post.map (Fc.sub (Kq xs G.length))) G' F;sb F'||Sy (zo (DI sk) sk) k G' F' K))
  |none=>false)
 |sk,.loop jH body,G,F,K=>sk.any isEmpty||(match HS[DI sk]? with
  |some h=>Nat.beq h.b G.length&&(Nat.beq h.Dc.length jH.length&&jH.all (·.under G.length)&&F.all (·.under G.length)&&iy (pr tb G F NL).fit jH h.Dc
   &&h.ms.under (G.length+h.Dc.length)&&h.gr.all (fun q=>blt q.1 h.Dc.length)&&h.inv.all (fun q=>prove tb NL G F (q.sub (xm G.length jH)))
   &&(match h.ms.most (pr tb G F NL) (xm G.length jH)with
    |some R=>ble R.toNat big&&(let G':=G++h.Dc;let F':=ui tb (h.inv++h.gr.map (SR G.length jH R.toNat)) G' F;sb F'||Sy (zo (DI sk) sk) body G' F' (K++[h]))|none=>false))
  |none=>false)
 |sk,t,G,F,K=>sk.any isEmpty||ck tb S HS sp t G F K
def ckA:bH->T bZ->List Ty->List Fc->List LH->Bool
 |[],t,G,F,K=>ck tb S HS sp t G F K|i::r,.ite c a b,G,F,K=>if Nat.beq i 0 then ckA r a G (ui tb [.t c true] G F) K else ckA r b G (ui tb [.t c false] G F) K
 |_::r,.aa c k,G,F,K=>ckA r k G (ui tb [.t c true] G F) K|j::r,.call f xs n k,G,F,K=>(match S[j]? with
  |some s=>ckA r k (G++s.res) (ui tb (s.post.map (Fc.sub (Kq xs G.length))) (G++s.res) F) K|none=>false)
 |j::r,.loop jH body,G,F,K=>(match HS[j]? with
  |some h=>(match h.ms.most (pr tb G F NL) (xm G.length jH)with
   |some R=>ckA r body (G++h.Dc) (ui tb (h.inv++h.gr.map (SR G.length jH R.toNat)) (G++h.Dc) F) (K++[h])|none=>false)
  |none=>false)
 |_::_,_,_,_,_=>false
def any_empty{sk:List bH}(h:sk.any isEmpty=true):[]∈sk:=by obtain⟨x,hx,e⟩:=fS.1 h;rw[uO]at e;rw[<-e];exact hx
def Dq:∀(t:T bZ){sk:List bH}{G:List Ty}{F:List Fc}{K:List LH},Sy tb S HS sp sk t G F K=true->(∀p∈sk,ckA tb S HS sp p t G F K=true)->ck tb S HS sp t G F K=true
 | .ite c a b,sk,G,F,K,h,hA=>by
   unfold Sy at h;rw[bY]at h;rcases h with h|h
   ·exact hA [] (any_empty h)
   rw[aL]at h;unfold ck;rw[aL];refine⟨?_,?_⟩
   ·rw[bY];rcases bY ..▸h.1 with h1|h1
    ·exact .inl h1
    ·refine .inr ?_;simp only[bY]at h1⊢;rcases h1 with h1|h1
     ·exact .inl h1
     ·refine .inr ?_;split at h1
      ·exact h1
      ·rename_i s hs;exact Dq a h1 fun p hp=>by have:=hA (0::p) (mX hp);exact this
   ·rw[bY];rcases bY ..▸h.2 with h1|h1
    ·exact .inl h1
    ·refine .inr ?_;simp only[bY]at h1⊢;rcases h1 with h1|h1
     ·exact .inl h1
     ·refine .inr ?_;split at h1
      ·exact h1
      ·rename_i s hs;exact Dq b h1 fun p hp=>by have:=hA (1::p) (mX hp);exact this
 | .aa c k,sk,G,F,K,h,hA=>by
   unfold Sy at h;rw[bY]at h;rcases h with h|h
   ·exact hA [] (any_empty h)
   rw[aL]at h;unfold ck;rw[aL];exact⟨h.1,Dq k h.2 fun p hp=>hA (0::p) (mX hp)⟩
 | .call f xs n k,sk,G,F,K,h,hA=>by
   unfold Sy at h;rw[bY]at h;rcases h with h|h
   ·exact hA [] (any_empty h)
   split at h
   ·rename_i s hs;unfold ck;rw[fS];refine⟨s,d9 hs,?_⟩;simp only[aL,bY]at h⊢;refine⟨h.1,h.2.1,?_⟩;rcases h.2.2 with h1|h1
    ·exact .inl h1
    ·refine .inr (Dq k h1 fun p hp=> ?_);have:=hA (DI sk::p) (mX hp);simp only[ckA,hs]at this;exact this
   ·cases h
 | .loop jH body,sk,G,F,K,h,hA=>by
   unfold Sy at h;rw[bY]at h;rcases h with h|h
   ·exact hA [] (any_empty h)
   split at h
   ·rename_i s hs;unfold ck;rw[fS];refine⟨s,d9 hs,?_⟩;simp only[aL]at h⊢;refine⟨h.1,h.2.1,?_⟩;have h2:=h.2.2;split at h2
    ·rename_i R hR;simp only[hR];simp only[aL,bY]at h2⊢;refine⟨h2.1,?_⟩;rcases h2.2 with h1|h1
     ·exact .inl h1
     ·refine .inr (Dq body h1 fun p hp=> ?_);have:=hA (DI sk::p) (mX hp);simp only[ckA,hs,hR]at this;exact this
    ·cases h2
   ·cases h
 | .ah es,sk,G,F,K,h,hA=>by
   simp only[Sy,bY]at h;rcases h with h|h
   ·exact hA [] (any_empty h)
   ·exact h
 | .fail s,sk,G,F,K,h,hA=>by
   simp only[Sy,bY]at h;rcases h with h|h
   ·exact hA [] (any_empty h)
   ·exact h
 | .next l vs,sk,G,F,K,h,hA=>by
   simp only[Sy,bY]at h;rcases h with h|h
   ·exact hA [] (any_empty h)
   ·exact h
end
def abJ(tb:Tb)(S:List Sp)(sp:Sp)(hs:List LH)(o:Option (Nat×T bZ))(sk:List bH):Bool:=match o with
 |some q=>Nat.beq q.1 sp.args.length&&Sy tb S hs sp sk q.2 sp.args (ui tb sp.pre sp.args []) []|none=>false
def Fi(tb:Tb)(S:List Sp)(sp:Sp)(hs:List LH)(o:Option (Nat×T bZ))(p:bH):Bool:=match o with
 |some q=>ckA tb S hs sp p q.2 sp.args (ui tb sp.pre sp.args []) []|none=>false
def Kt{tb:Tb}{S:List Sp}{sp:Sp}{hs:List LH}{o:Option (Nat×T bZ)}(ho:fd sp.key=o){sk:List bH}(h:abJ tb S sp hs o sk=true)(hA:sk.all (Fi tb S sp hs o)=true):mR tb S [(sp,hs)]=true:=by
 subst ho;unfold abJ at h;split at h
 ·rename_i q hm;simp only[mR,ckE,Bool.and_true,hm];rw[aL]at h⊢;refine⟨h.1,Dq tb S hs sp q.2 h.2 fun p hp=> ?_⟩;have:=lO.1 hA p hp;unfold Fi at this;rw[hm]at this;exact this
 ·cases h
def An{α:Type}{f:α->Bool}{a:α}{l:List α}(h:f a=true)(h2:l.all f=true):(a::l).all f=true:=by rw[wZ,h,h2];rfl
def an3:List (Nat×Sp×List LH):=[(1,(sq 21 (ed++[0]) [] [0] []),[lq 5 1 [0,3] 3 []])]
def S1:List Sp:=an3.map (·.2.1)++S0
def an4:List (Nat×Sp×List LH):=[(0,(sq 11 [44,0] [] [0] []),[lq 2 1 [0,3] 0 [],lq 4 0 [3] (.o .app (.o .cons (.o .cons (bw 3 (bE 0 3)) (.o .cons (bw 4 (bE 0 3)) (.o .cons (bw 5 (bE 0 3)) (.o .cons (bw 6 (bE 0 3)) .nil)))) (.o .cons (.o .cons (bw 7 (bE 0 3)) (.o .cons (bw 8 (bE 0 3)) (.o .cons (bw 9 (bE 0 3)) (.o .cons (bw 10 (bE 0 3)) .nil)))) .nil)) (bw 11 (bE 0 3))) []])]
def S2:List Sp:=an4.map (·.2.1)++S1
def an5:List (Sp×List LH):=[(nB,[lq 4 1 [0,3] 2 [],lq 6 1 [0,3] (bw 10 (bE 2 5)) []]),(jN,[]),((sq 102 [0] [] [2] []),[]),((sq 103 [1] [] [2] []),[]),((sq 58 [1] [] [0] []),[lr 3 [3] [(tq (az 3 (.u .iN 0)))] (Ee 3 (.u .iN 0)) []]),((sq 156 [0,0,0] [] [2] [(iq 3 (tq (az 1 0))),(iq 3 (tq (az 0 2)))]),[]),((sq 157 ([1,0,76,0,1]++aY++[5,5]++aY++[5,5]) [] [0] [(iq (cn 17 (.i 0)) (jq (cn (ao 2) (.i 0)) (tq (az (.i 1) 3))))]),[lq 18 0 [3] 2 []]),(zg,[]),((sq 286 [0,0,4] [] [2] []),[lq 3 0 [3] 2 []])]
def S3:List Sp:=an5.map (·.1)++S2
def S4:List Sp:=[mh]++S3
def an6:List (Sp×List LH):=[((sq 46 [5,4] [] [2] []),[lq 2 0 [3] 0 []]),((sq 241 (aY++[5,5]++aY++[4,4]) [] [2] []),[]),((sq 203 [6,1] [] [0] [(tq (aB 2 (ao 0)))]),[lq 2 0 [3] 0 []]),((sq 242 [6,1] [] [2] []),[]),((sq 158 ([1,12,27,35,28,7,6,7,7,7,46,16,17,1]++aY++[4,4]++aY++[4,4]) [] [0] []),[])]
def S5:List Sp:=an6.map (·.1)++S4
def S6:List Sp:=[ff]++S5
def an7:List (Nat×Sp×List LH):=[(5,(sq 182 [44] [] [0] []),[lq 1 1 [0,3] 0 []])]
def S7:List Sp:=an7.map (·.2.1)++S6
def an8:List (Nat×Sp×List LH):=[(6,(sq 183 [44] [] [0] []),[lq 1 1 [0,3] 0 []])]
def S8:List Sp:=an8.map (·.2.1)++S7
def an9:List (Sp×List LH):=[((sq 249 [0] [] [2,2,2,2,2,2,2,2,2,2] []),[])]
def S9:List Sp:=an9.map (·.1)++S8
def aoa:List (Nat×Sp×List LH):=[(12,(sq 315 (ed++ed) [] [2] []),[lq 8 0 [3] 3 []])]
def S10:List Sp:=aoa.map (·.2.1)++S9
def ae3:List (Sp×List LH):=[((sq 250 ([0,1,1]++ed++ed++[33]++aY++[5,5,2,23,23,2,2,2,2,2,2,2,2,2]) [] [2] []),[])]
def S11:List Sp:=ae3.map (·.1)++S10
def ae4:List (Nat×Sp×List LH):=[(14,(sq 324 ed [] [0] []),[lq 4 1 [0,3] 3 []])]
def S12:List Sp:=ae4.map (·.2.1)++S11
def ae5:List (Nat×Sp×List LH):=[(15,(sq 325 ed [] [0] []),[lq 4 1 [0,3] 3 []])]
def S13:List Sp:=ae5.map (·.2.1)++S12
def ae6:List (Sp×List LH):=[((sq 50 [0] [] [2] []),[]),((sq 372 [0] [] [0] []),[]),((sq 371 [2,0] [] [2] []),[]),((sq 382 [0] [] [2] []),[]),((sq 373 [2,0] [] [2] []),[]),((sq 374 [2,0] [] [0,0,2] []),[]),((sq 350 [2,0,1,0,33] [] [0] []),[])]
def S14:List Sp:=ae6.map (·.1)++S13
def ae7:List (Nat×Sp×List LH):=[(16,(sq 326 ([2]++ed) [] [0] []),[lq 6 0 [3] 4 []])]
def S15:List Sp:=ae7.map (·.2.1)++S14
def ae8:List (Sp×List LH):=[((sq 282 ([2]++ed) [] [0] []),[]),((sq 268 ed [] [0] []),[]),((sq 251 ([0,1,1]++ed++ed++[33]++aY++[4,4,2,23,23,2,2,2,2,2,2,2,2,2]) [] [0] []),[lq 30 0 [3] (.o .cons (.o .cons 21 (.o .cons 1 .nil)) (.o .cons (.o .cons 22 (.o .cons 2 .nil)) .nil)) [],lq 31 0 [3] (.o .cons (.o .cons 23 (.o .cons 3 (.o .cons 4 (.o .cons 5 (.o .cons 6 .nil))))) (.o .cons (.o .cons 24 (.o .cons 7 (.o .cons 8 (.o .cons 9 (.o .cons 10 .nil))))) .nil)) [],lq 32 0 [3] 11 []])]
def S16:List Sp:=ae8.map (·.1)++S15
def ae9:List (Nat×Sp×List LH):=[(7,(sq 184 [44] [] [0] []),[lq 1 0 [3] 0 []])]
def S17:List Sp:=ae9.map (·.2.1)++S16
def afa:List (Sp×List LH):=[((sq 92 [44] [] [0] []),[]),((sq 239 [0] [] [2] []),[]),((sq 173 [1,98,85,44] [] [0] []),[lq 5 0 [3,43] 4 [(1,1)]]),((sq 240 [0,0] [] [2] []),[]),(iG,[lq 14 0 [3] 10 []]),((sq 177 [1,12,27,35,28,7,7,7,7,7,14,16,17,1,5,0,0,0] [] [0] []),[lq 19 0 [3] 14 []]),((sq 248 [1,12,27,18,28,7,7,7,7,6,14,16,17,0,1,1] [] [0] []),[lq 16 0 [3] 3 []]),((sq 179 [1,12,27,18,28,7,7,7,7,6,14,16,17] [] [0] []),[lq 13 0 [3,43] 12 [(1,1)],lq 16 0 [3] (bw 1 (bE 12 13)) []]),(AG,[lq 13 0 [3,43] 1 [(1,1)],lq 15 0 [3,43] 2 [(1,1)],lq 17 0 [3,43] 3 [(1,1)],lq 19 0 [3,43] 4 [(1,1)],lq 21 0 [3,43] 5 [(1,1)],lq 23 0 [3,43] 6 [(1,1)],lq 25 0 [3,43] 7 [(1,1)],lq 27 0 [3,43] 8 [(1,1)],lq 29 0 [3,43] 9 [(1,1)],lq 31 0 [3,43] 10 [(1,1)],lq 33 0 [3] 11 []]),((sq 32 [1,12,26,34,1] [] [0] [(tq (aB 5 (ao 2)))]),[lq 5 0 [3] 2 []])]
def S18:List Sp:=afa.map (·.1)++S17
def afb:List (Sp×List LH):=[((sq 91 [1,12,26,34] [] [0] []),[lq 4 0 [3,93] 3 [(1,1)]]),((sq 47 I9 [] [0] []),[lq 5 0 [3,43] 1 [(1,1)],lq 7 0 [3,43] 2 [(1,1)]]),((sq 187 (Da++[16,17,1]) [] [1,0] []),[lq 14 0 [3] 1 [],lq 15 0 [3] 2 [],lq 16 0 [3] 3 [],lq 17 0 [3] 4 []]),((sq 98 (Da++[16,17,1]) [] [1] []),[]),((sq 316 [21,1] [] [0,2] []),[lr 2 [0] [(tq (aB 2 (ao 0)))] (.down 2) []]),((sq 360 ([10,21,1,10]++PO++[1]) [] [0,2] []),[lq 18 0 [3] 3 [],lq 19 0 [3] 0 []]),((sq 361 [0,1] [] [2] []),[]),((sq 379 [0] [] [2] []),[]),((sq 362 [0,0] [] [0] []),[]),((sq 363 [0,0,0] [] [0] []),[])]
def S19:List Sp:=afb.map (·.1)++S18
def afc:List (Nat×Sp×List LH):=[(17,(sq 344 ([10,21]++Da++[40,41]++ed) [] [0,0] []),[lq 19 1 [5,3] 18 [(0,1)]])]
def S20:List Sp:=afc.map (·.2.1)++S19
def afd:List (Sp×List LH):=[((sq 318 ([10,21]++Da++[40,41]++ed) [] [0,0] []),[]),((sq 255 (I9++[0,10,21]++Da++[40,41]++ed++[88]) [] [0] []),[lq 27 0 [3] 24 []]),((sq 252 (I9++[0,10,21]++Da++[40,41,0,1,1]++ed++[0,1,0,33,33]++aY++[5,5,2,23,23]) [] [0] []),[lq 43 0 [3] 8 []]),((sq 317 (I9++[0,12,21,1,12]++PO++[1,88]) [] [0] []),[lq 24 0 [3] 21 []]),((sq 253 (I9++[0,12,21,1,12]++PO++[1,2,88]) [] [0] []),[]),((sq 254 (I9++[0,12,79]++Da++[16,17,1,1]) [] [2] []),[]),((sq 256 (I9++[0,10,21]++Da++[40,41,0,1,1,0,1,0,33,0,1,0,33,33]++aY++[5,5,2,23,23,1,8]) [] [0] []),[lq 44 0 [3] 42 []]),((sq 258 (I9++[0,10,21]++Da++[40,41,1,79,79,23,0,1,1]++ed++[0,1,0,33,8]++aY++[5,5,2,23,23]) [] [0] []),[lq 45 0 [3] 35 []]),(mb,[lq 6 0 [3] 3 []]),((sq 257 ([1,12,26,45,0,10,21]++Da++[40,41,0,1,1]++ed++[0,1,0,33,8]++aY++[5,5,2,23,23]) [] [0] []),[])]
def S21:List Sp:=afd.map (·.1)++S20
def afe:List (Sp×List LH):=[((sq 185 ([1,12,26,45,0,10,21]++Da++[40,41,0,1,1]++ed++ed++[8]++aY++[5,5,2,23,23]) [] [0] []),[])]
def S22:List Sp:=afe.map (·.1)++S21
def aff:List (Nat×Sp×List LH):=[(4,(sq 93 (afU++[0,10,21]++Da++[40,41,44]) [] [0] []),[lq 21 0 [3] 20 []])]
def S23:List Sp:=aff.map (·.2.1)++S22
def afg:List (Sp×List LH):=[(xx,[]),(mj,[lq 5 0 [3] 2 [],lq 6 0 [3] (bw 10 (bE 2 5)) []]),((sq 28 [0,0] [] [2] []),[]),(pe,[lr 7 [3,10] [(tq (az 7 (ao 4))),(tq (cn (ao 8) (ao 6)))] (Ee 7 (ao 4)) [(1,0)],lq 9 0 [3] 8 [],lr 10 [3] [(tq (az 10 (.o (.sub .i64) 7 (.i 0))))] (Ee 10 (.o (.sub .i64) 7 (.i 0))) []]),((sq 52 ([1,10,36,34]++Da++[16,17,1,85,85,23]) [] [10] []),[lq 23 0 [3] 22 [],lq 24 0 [3] 21 [],lr 25 [3,3,10] [(tq (az 26 (ao 27))),(tq (cn (ao 27) (ao 22))),(tq (aB 25 26))] (Ee 26 (ao 27)) [(2,0)],lq 28 0 [3] 21 [],lr 26 [3,3,10] [(tq (az 27 (ao 28))),(tq (cn (ao 28) (ao 22))),(tq (aB 26 27))] (Ee 27 (ao 28)) [(2,0)],lq 29 0 [3] 21 []])]
def S24:List Sp:=afg.map (·.1)++S23
def afh:List (Nat×Sp×List LH):=[(9,(sq 266 (ed++[1]++ed) [] ed []),[lq 9 1 [33,3] 3 [(0,1)]])]
def S25:List Sp:=afh.map (·.2.1)++S24
def afi:List (Sp×List LH):=[((sq 267 [0,0] [] ed []),[]),((sq 347 [0,1,0,33] [] [0,2] []),[]),((sq 380 [0] [] [0] []),[]),((sq 364 [0] [] [0] []),[]),((sq 365 [2] [] [0] []),[]),((sq 348 [0,0] [] [0] []),[]),((sq 366 [0,0] [] [0] []),[]),((sq 352 [0,0] [] [0,0] []),[]),((sq 381 [0] [] [0] []),[]),((sq 367 [0,0] [] [0] []),[])]
def S26:List Sp:=afi.map (·.1)++S25
def afj:List (Sp×List LH):=[((sq 368 [0,0] [] [0] []),[]),((sq 369 [0,0] [] [0] []),[]),((sq 370 [0,0,0] [] [2] []),[]),((sq 349 [0,0,0] [] [0] []),[])]
def S27:List Sp:=afj.map (·.1)++S26
def afk:List (Nat×Sp×List LH):=[(13,(sq 320 ed [] ed []),[lr 4 [8,5,3] [(tq (cn (ao 4) 6)),(tq (az 6 (ao 3)))] (Ee 6 (ao 3)) [(0,1),(1,1)]])]
def S28:List Sp:=afk.map (·.2.1)++S27
def afl:List (Sp×List LH):=[((sq 269 ed [] ed []),[]),((sq 188 ([10]++ed) [] (ed++[0]) []),[lq 5 0 ([3]++ed) 0 []])]
def S29:List Sp:=afl.map (·.1)++S28
def afm:List (Nat×Sp×List LH):=[(2,(sq 53 [10,44] [] [44,0] []),[lq 2 1 [23,3] 1 [(0,1)]]),(3,(sq 99 ([10,0,1,1]++ed++ed++[8]++aY++[4,4,2,44,44]) [] ([0,1,1]++ed++ed++[8]++aY++[4,4,2,44,44,0]) []),[lq 32 2 [0,33,3] 12 [(1,1)]])]
def S30:List Sp:=afm.map (·.2.1)++S29
def afn:List (Sp×List LH):=[(nz,[lr 6 [3,26] [(tq (az 6 (ao 5))),(tq (cn (ao 7) (ao 5)))] (Ee 6 (ao 5)) [(1,0)],lr 9 [3,14] [(tq (az 9 (ao (bw 10 (bE 7 6))))),(tq (cn (ao 10) (ao 8)))] (Ee 9 (ao (bw 10 (bE 7 6)))) [(1,0)]]),(fO,[lr 3 [3,64] [(tq (az 3 (ao 2))),(tq (cn (ao 4) (ao 2)))] (Ee 3 (ao 2)) [(1,0)]]),((sq 321 (Da++[16,17,1]) [] [0] []),[]),(dX,[]),((sq 273 (I9++[12,21,1,12]++PO++[0,1]) [] [0,0] []),[lr 21 [0] [(tq (aB 21 (ao 5)))] (.down 21) []]),((sq 274 (I9++[12,79,1,10]++PO++[0,1]) [] [0,0] []),[lq 21 0 [3] 7 []]),((sq 323 (I9++[12,21,1,10]++PO++[0,1]) [] (ed++[0]) []),[])]
def S31:List Sp:=afn.map (·.1)++S30
def afo:List (Nat×Sp×List LH):=[(10,dr,[]),(11,dW,[lq 21 1 [33,3,0] 20 [(0,1)]])]
def S32:List Sp:=afo.map (·.2.1)++S31
def afp:List (Sp×List LH):=[(fX,[]),((sq 59 ([1,12]++PO++[75]) [] [2] []),[lq 14 0 [3] 13 []]),((sq 60 [1,52,86] [] [0] []),[lq 3 0 [3,93] 2 [(1,1)]]),((sq 191 [0] [] [2] [(iq 1 (tq (az (.i 1) 0))),(iq 1 (tq (az 0 (.i 19))))]),[]),((sq 278 ed [] [2] []),[]),((sq 192 (aY++ed++ed++[33]++aY++[5,5,2]) [(tq (az (.i 1) 0)),(tq (az 0 (.i 19)))] [2] []),[]),((sq 279 [1,52,86,0,1,0,0,87,0,0] [(tq (az (.i 0) 3)),(tq (aB 3 (ao 1))),(tq (az (.i 0) 9)),(tq (aB 9 (ao 1)))] [0] [(iq (cn 8 (.i 9)) (tq (cn 10 (ao 1)))),(iq (cn 8 (.i 10)) (tq (cn 10 (ao (bw 13 (bE 1 9)))))),(iq (cn 8 (.i 1)) (tq (cn 10 6))),(iq (cn 8 (.i 2)) (tq (cn 10 (ao (bw 1 (bE 1 3)))))),(iq (cn 8 (.i 3)) (tq (cn 10 (ao (bw 6 (bE 1 3)))))),(iq (cn 8 (.i 5)) (tq (cn 10 (ao (bw 2 (bE 1 3)))))),(iq (cn 8 (.i 6)) (tq (cn 10 (ao (bw 3 (bE 1 3)))))),(iq (cn 8 (.i 7)) (tq (cn 10 (ao (bw 4 (bE 1 3)))))),(iq (cn 8 (.i 8)) (tq (cn 10 (ao (bw 5 (bE 1 3)))))),(iq (cn 8 (.i 11)) (tq (cn 10 (ao (bw 7 (bE 1 3)))))),(iq (cn 8 (.i 12)) (tq (cn 10 (ao (bw 8 (bE 1 3)))))),(iq (cn 8 (.i 13)) (tq (cn 10 (ao (bw 9 (bE 1 3))))))]),[]),((sq 193 [1,52,86,0,1,0,0,87,0,0,0] [(tq (az (.i 0) 3)),(tq (aB 3 (ao 1))),(tq (az (.i 0) 10)),(tq (aB 10 (ao 1)))] [2] [(iq 11 (tq (az (.i 0) 9))),(iq 11 (iq (cn 8 (.i 9)) (tq (aB 9 (ao 1))))),(iq 11 (iq (cn 8 (.i 10)) (tq (aB 9 (ao (bw 13 (bE 1 10))))))),(iq 11 (iq (cn 8 (.i 1)) (tq (aB 9 6)))),(iq 11 (iq (cn 8 (.i 2)) (tq (aB 9 (ao (bw 1 (bE 1 3))))))),(iq 11 (iq (cn 8 (.i 3)) (tq (aB 9 (ao (bw 6 (bE 1 3))))))),(iq 11 (iq (cn 8 (.i 5)) (tq (aB 9 (ao (bw 2 (bE 1 3))))))),(iq 11 (iq (cn 8 (.i 6)) (tq (aB 9 (ao (bw 3 (bE 1 3))))))),(iq 11 (iq (cn 8 (.i 7)) (tq (aB 9 (ao (bw 4 (bE 1 3))))))),(iq 11 (iq (cn 8 (.i 8)) (tq (aB 9 (ao (bw 5 (bE 1 3))))))),(iq 11 (iq (cn 8 (.i 11)) (tq (aB 9 (ao (bw 7 (bE 1 3))))))),(iq 11 (iq (cn 8 (.i 12)) (tq (aB 9 (ao (bw 8 (bE 1 3))))))),(iq 11 (iq (cn 8 (.i 13)) (tq (aB 9 (ao (bw 9 (bE 1 3)))))))]),[]),((sq 194 [1,52,49,0,0] [] [0,2] []),[lq 5 0 [3] 2 []]),((sq 195 (aY++ed++ed++[8]++aY++[5,5,2]) [] [33] [(tq (az (ao 20) (.i 2097152)))]),[])]
def S33:List Sp:=afp.map (·.1)++S32
def afq:List (Sp×List LH):=[((sq 196 ed [] [0] []),[])]
def S34:List Sp:=afq.map (·.1)++S33
def afr:List (Nat×Sp×List LH):=[(8,(sq 197 ([1,80,49,0,1,0,0,64]++ed) [(tq (az (.i 0) 3)),(tq (aB 3 (ao 1)))] [2] []),[lq 13 0 [3] 11 [],lq 14 0 [3] 11 [],lq 12 0 [3] 11 []])]
def HV:List Sp:=afr.map (·.2.1)++S34
def afs:List (Sp×List LH):=[(aK,cG)]
def S36:List Sp:=afs.map (·.1)++HV
def aft:List (Sp×List LH):=[((sq 61 [1,80,49,0,1,0,0,87] [] [0] []),[lq 9 0 [3] 7 []]),(pg,[lq 4 0 [3,43] 1 [(1,1)],lq 7 0 [3] 1 [],lq 8 0 [3] (bw 13 (bE 1 7)) []]),((sq 62 [0] [] (Db++[0]) []),[]),((sq 108 [0,0,0] [] [2] [(iq 3 (tq (az 1 0))),(iq 3 (tq (az 0 2)))]),[]),((sq 107 ([1,0,76,0,1]++aY++[5,5]++aY++[5,5]) [] [0] [(iq (cn 17 (.i 0)) (jq (cn (ao 2) (.i 0)) (tq (az (.i 1) 3))))]),[lq 19 0 [3] 2 []]),((sq 109 ([1,0,71,0,1]++aY++[5,5]++aY++[5,5]) [(tq (aB (.i 0) (ao 2)))] [0] []),[]),((sq 63 ([1,0,71,0,1]++aY++[5,5]++aY++[5,5,0]) [] [0] []),[lq 21 1 [0,3] 2 []]),((sq 64 [0,0] [] (I8++[0]) [(iq (cn 9 (.i 0)) (tq (az 0 (.i 1000))))]),[]),((sq 110 [0,0,0] [] [2] [(iq 3 (tq (az 1 0))),(iq 3 (tq (az 0 2)))]),[]),((sq 65 [0,0] [] [0,0,81,0,0] []),[])]
def S37:List Sp:=aft.map (·.1)++S36
def afu:List (Sp×List LH):=[((sq 111 [0] [] [0] []),[]),((sq 66 [0,90] [] [0,0,2] []),[lq 3 1 [0,3] (.u .bytes 1) []]),((sq 67 [1,1] [] [90] []),[]),((sq 112 [0,0,2] [] [0] []),[]),((sq 68 [0,0,2] [] [0,0,2] []),[]),((sq 113 [0] [] [2] []),[]),((sq 114 [0] [] [2] []),[]),((sq 69 [0,0] [] (aY++[0,0,0]) []),[]),((sq 123 [0] [] [0] []),[]),((sq 43 [4] [] [0] []),[lq 1 0 [3] 0 []])]
def S38:List Sp:=afu.map (·.1)++S37
def afv:List (Sp×List LH):=[((sq 85 [0] [] [2] []),[]),(sN,[]),((sq 45 (aY++aY++[5]++aY++aY++[5]) [] [0] []),[]),((sq 80 (aY++aY++[5]++aY++aY++[5]) [] [2] []),[]),((sq 287 [0,0] [] [2] [(iq 2 (tq (az (.i 0) 0))),(iq 2 (tq (az 0 1)))]),[]),(qH,[lq 16 0 [3] 8 []]),((sq 128 [47] [] [0] [(iq (cn 1 (.i 0)) (tq (az (ao 0) (.i 5000))))]),[lq 1 0 [3] 0 []]),((sq 124 ([47]++aY++aY++[4]) [] [11,0] []),[lr 12 [3,3] [(tq (az 12 13)),(tq (az 13 (ao 0))),(tq (az (.i 0) 12))] (.bin 12 13) []]),((sq 71 ([1,0,0,0,11]++aY++aY++[2]++aY++[4]) [] [0,11,0] []),[lq 20 1 [0,3] 4 []]),((sq 125 ([1,0,71,0,1]++aY++[5,5]++aY++[5,5,0]) [] [0,0,2] []),[lq 20 0 [3] 2 []])]
def S39:List Sp:=afv.map (·.1)++S38
def afw:List (Sp×List LH):=[((sq 72 ([1,0,0,0,11]++aY++aY++[2,0,1,0,71,0,1]++aY++[4,4]++aY++[4,4]) [] [0,11,0] []),[]),((sq 126 [6,1] [] [0] [(tq (aB 2 (ao 0)))]),[]),((sq 290 ([1,0,76,0,1]++aY++[4,4]++aY++[4,4]) [] [0] []),[]),((sq 204 ([1,0,76,0,1]++aY++[4,4]++aY++[4,4,0]) [] [0] []),[]),((sq 330 [0,0,2] [] [2] []),[]),((sq 331 [0,0,2,0] [] [0] []),[]),((sq 291 [0,0,2] [] vJ []),[]),(AE,[]),(zh,[lq 6 1 [0,3] 5 []])]
def S40:List Sp:=afw.map (·.1)++S39
def S41:List Sp:=[iD]++S40
def S42:List Sp:=[fN]++S41
def afx:List (Sp×List LH):=[((sq 292 (aY++[4,4,0]) [] [0,2] []),[]),((sq 205 (aY++[4,4,0,0,2]) [] (vJ++[0]) []),[lr 11 [0,3,0,0,2] [] (Ee 12 3) [],lr 11 [0,3,0,0,2] [(tq (az 12 (.i 1)))] (Ee 12 (.i 1)) []]),((sq 127 ([1,0,76,0,1]++aY++[4,4]++aY++[4,4,0,0,2,0,2]) [] (vJ++[0]) []),[]),((sq 73 ([29,1,6,0,0,0,11]++aY++aY++[2,0,1,0,71,0,1]++aY++[4,4]++aY++[4,4,2]) [] [29,0,11,0] []),[]),((sq 73 ([51,1,6,0,0,0,11]++aY++aY++[2,0,1,0,71,0,1]++aY++[4,4]++aY++[4,4,2]) [] [51,0,11,0] []),[])]
def S43:List Sp:=afx.map (·.1)++S42
def afy:List (Sp×List LH):=[((sq 34 [1,52,49,0,0,2] [] (aim++[0,0]) []),[lq 7 0 [3,111] (bw 1 (bE 1 3)) [(1,1)],lq 9 0 [3,65] (bw 2 (bE 1 3)) [(1,1)],lq 11 0 [3,66] (bw 3 (bE 1 3)) [(1,1)],lq 13 0 [3,67] (bw 4 (bE 1 3)) [(1,1)],lq 15 0 [3,68] (bw 6 (bE 1 3)) [(1,1)],lq 17 0 [3,70] (bw 8 (bE 1 3)) [(1,1)],lq 30 0 [3,0,0,11] (bw 11 (bE 1 3)) [],lq 34 0 [3,0,51,0,11] (bw 2 (bE 1 3)) []])]
def S44:List Sp:=afy.map (·.1)++S43
def afz:List (Sp×List LH):=[(wO,[lq 6 0 [3,112] 1 [(1,1)]]),((sq 74 [0] [] [2] []),[]),(bK,[]),((sq 129 (apa++aY++aY++[0,5]) [] [2] []),[]),((sq 76 (apa++[0]) [] [0] []),[lq 19 0 [3] 3 []])]
def S45:List Sp:=afz.map (·.1)++S44
def S46:List Sp:=[jo]++S45
def afA:List (Sp×List LH):=[((sq 209 (aY++[2]) [] [2] []),[]),((sq 211 (aY++[2]++aY++[2]) [] [0] []),[]),((sq 212 (aY++[2]++aY++[2]) [] [0] []),[]),((sq 214 (aY++[2]) [] [0] []),[]),((sq 215 (aY++[2]) [] [0] []),[]),((sq 216 [0,2,9,53,0] [] [0] []),[lq 5 1 [0,3] 2 []])]
def S47:List Sp:=afA.map (·.1)++S46
def afB:List (Sp×List LH):=[((sq 130 Db [] [0] [(iq (cn 5 (.i 0)) (tq (az (ao 2) (.i 300)))),(iq (cn 5 (.i 0)) (tq (az (ao 3) (.i 300))))]),[lq 6 0 [3] 5 [],lr 7 [3] [(tq (az (.i 1) 7))] (Ee 7 (ao 2)) [],lr 8 [3] [(tq (az (.i 1) 8))] (Ee 8 (ao 3)) [],lq 9 0 [3,84] 5 [(1,1)],lq 11 0 [3,84] 2 [(1,1)],lq 13 0 [3,84] 3 [(1,1)]])]
def S48:List Sp:=afB.map (·.1)++S47
def afC:List (Sp×List LH):=[((sq 217 I8 [] [78] [(tq (az (ao 3) (ao 7))),(tq (az (ao 4) (ao 7)))]),[lr 7 [5,3] [(tq (cn (ao 7) 8)),(tq (az 8 (ao 3)))] (Ee 8 (ao 3)) [(0,1)]]),((sq 222 [0] [] [2] []),[])]
def S49:List Sp:=afC.map (·.1)++S48
def afD:List (Sp×List LH):=[((sq 131 I8 [] [0] [(iq (cn 7 (.i 0)) (tq (az (ao 2) 0))),(iq (cn 7 (.i 0)) (tq (az 0 (.i 1000)))),(iq (cn 7 (.i 0)) (tq (az (ao 3) (.i 300)))),(iq (cn 7 (.i 0)) (tq (az (ao 4) (.i 300))))]),[lq 16 0 [3] 2 [],lq 17 0 [3] 3 [],lq 20 0 [3] 15 [],lq 21 0 [3,84] 15 [(1,1)]])]
def S50:List Sp:=afD.map (·.1)++S49
def afE:List (Sp×List LH):=[((sq 223 [0,0,82,0,0] [] [0] []),[]),((sq 132 [0,0,82,0] [] [0] [(iq (cn 4 (.i 0)) (tq (az (ao 2) (.i 300))))]),[lq 10 1 [0,3] 2 []]),((sq 297 [78,0] [] [0] [(tq (aB 2 (ao 0)))]),[lq 2 0 [3] 0 []])]
def S51:List Sp:=afE.map (·.1)++S50
def S52:List Sp:=[dt]++S51
def afF:List (Sp×List LH):=[((sq 224 [78,0] [] [2] []),[]),((sq 133 [5] [] [0] [(iq (cn 1 (.i 0)) (tq (az (ao 0) (.i 300))))]),[lq 1 0 [3] 0 []]),((sq 298 [0] [] [2] []),[]),((sq 225 (aY++[0]) [] [0] []),[]),((sq 226 (aY++[0,0]) [] [0] []),[]),((sq 134 [0,0,0,47,62,0,5,65,66,67,69,68,56,57,4,5,5,0] [] [0] []),[lq 18 0 [3] 12 [],lq 19 0 [3] 13 [],lq 20 0 [3] 14 []]),((sq 77 ([1,12]++PO++[0,0,0,47,62,0,4,59,60,61,55,51,56,57,4,5,5,0]) [(tq (cn (ao 21) (ao 3))),(tq (cn (ao 22) (ao 4)))] [0] []),[lq 31 0 [3] 19 [],lq 32 0 [3] 20 [],lq 33 0 [3] 21 [],lq 34 0 [3] 22 [],lq 35 0 [3] 23 [],lq 36 0 [3] 24 []]),((sq 227 [0,0] [] [2] [(iq 2 (tq (az (.i 0) 0))),(iq 2 (tq (az 0 1)))]),[]),((sq 228 [4] [] [2] []),[lq 1 0 [3] 0 []]),(iH,[])]
def S53:List Sp:=afF.map (·.1)++S52
def afG:List (Sp×List LH):=[(vH,[lq 15 0 [3] 14 []]),((sq 79 [54,0] [] [0] []),[lq 2 1 [0,3] 0 []]),(AH,[lq 29 0 [3] 7 [],lq 30 0 [3] 18 []]),(nC,[lq 5 0 [3] 3 [],lq 6 0 [3] 3 []]),(zf,[]),(eN,[]),((sq 36 [50] [] [0,2] [(iq 2 (tq (az (.i 0) 1))),(iq 2 (tq (aB 1 (ao 0))))]),[lr 1 ([0,2,3]++aY++aY++[4]) [(iq 2 (tq (az (.i 0) 1))),(iq 2 (tq (aB 1 (ao 0)))),(tq (az 3 (ao 0)))] (Ee 3 (ao 0)) []]),((sq 17 [50,0] [] [2] []),[]),((sq 142 ([15,1,25]++aY++aY++[0,0,2]++aY) [(tq (az (ao 0) (.i 2000000000000)))] [15] [(.grow 18 0 1)]),[]),(qI,[lq 2 0 [3] 0 []])]
def S54:List Sp:=afG.map (·.1)++S53
def S55:List Sp:=[gD]++S54
def kx:List (Sp×List LH):=[(nA,yI),((sq 230 [13,0,77,0,4,0,0,0] [(.rel 0 [2,4])] [83] [(.grow 8 0 1)]),yI),((sq 237 ([1]++V9++aY++aY++[2,0]) [] [0,11,13,0] [(.grow 18 5 0)]),[]),((sq 143 ([15,1]++V9++aY++aY++[2,0,9]) [(tq (az (ao 0) (.i 1000000000000))),(tq (az (ao 17) (.i 2000)))] [15,0,11,13,0] [(.grow 18 0 2000),(.grow 21 6 0)]),[lq 18 0 [3,0,0,15,11,13] 17 [(3,1),(5,0)]]),((sq 306 [9,0] [] [0] [(tq (aB 2 (ao 0)))]),[lq 2 0 [3] 0 []]),((sq 303 (Db++[0]) [] [0] []),[]),((sq 212000308 ([9]++aY++[2]) [] [53] [(.grow 6 0 1),(tq (az (.i 1) (ao 6)))]),[lr 6 [3,3] [(tq (az 6 7)),(tq (az 7 (ao 0))),(tq (az (.i 0) 6))] (.bin 6 7) []]),((sq 236 [0,2,53,53,0] [(tq (az (ao 2) (.i 1000))),(tq (az (ao 3) (.i 2000)))] (Db++[9]) [(tq (az (ao 10) (.i 2000)))]),[lr 5 [9,53,53] [] (.shrink 7) [(0,1),(1,1),(2,0)]]),((sq 304 (Db++[0]) [] (Db++[9]) [(tq (az (ao 11) (.i 2000)))]),[lq 8 0 [3] 7 [],lr 9 [3,3,9] [(tq (az 10 (ao 11))),(tq (cn (ao 11) (ao 7))),(tq (aB 9 10))] (Ee 10 (ao 11)) [(2,0)],lq 13 0 [3] 12 [],lr 14 [3,3,9] [(tq (az 15 (ao 16))),(tq (cn (ao 16) (ao 12))),(tq (aB 14 15))] (Ee 15 (ao 16)) [(2,0)],lq 10 0 [3] 9 [],lr 11 [3,3,9] [(tq (az 12 (ao 13))),(tq (cn (ao 13) (ao 9))),(tq (aB 11 12))] (Ee 12 (ao 13)) [(2,0)]]),((sq 305 [13,0] [] [13] [(.grow 2 0 0)]),[lq 3 0 [3] 2 [],lr 4 [3,3,13] [(tq (az 5 (ao 6))),(tq (cn (ao 6) (ao 2))),(tq (aB 4 5))] (Ee 5 (ao 6)) [(2,0)]]),((sq 233 ([19,32,15,1]++V9++[0,0,0,77]++aY++[2]) [(tq (az (ao 2) (.i 100000000000)))] [19,32,15,0,11,13,0,2] [(.grow 20 2 64033),(.grow 23 8 0),(tq 25)]),[lr 18 [3,0,0,15,19,11,13] [(tq (az 18 (ao 0))),(tq (cn (ao 22) (ao 0)))] (Ee 18 (ao 0)) [(3,2001),(4,0),(6,0)]])]
def S56:List Sp:=kx.map (·.1)++S55
def afH:List (Sp×List LH):=[((sq 235 ([19,32,15,1]++V9++[0,0,0,77]++aY++[2]) [(tq (az (ao 2) (.i 100000000000)))] [19,32,15,0,11,13,0,2] [(.grow 20 2 64033),(.grow 23 8 0),(tq 25)]),[]),((sq 412 [5,0] [] [0] []),[]),((sq 411 [0,5,5,5,5,5,0,1,0,33] [] [0] []),[])]
def S57:List Sp:=afH.map (·.1)++S56
def afI:List (Nat×Sp×List LH):=[(18,(sq 409 ([0,5,5,5,5,5]++ed) [] [0] []),[])]
def S58:List Sp:=afI.map (·.2.1)++S57
def afJ:List (Sp×List LH):=[((sq 407 ([0,5,5,5,5,5]++ed) [] [0] []),[]),((sq 410 Db [] [0] []),[]),((sq 408 ([1,25,0,0,0,19,30,31]++aY++vJ) [] [4,4,5,0] []),[lq 16 0 [3,4,5] 5 [(1,1),(2,1)],lq 19 0 [3,5] 6 [(1,1)],lq 21 0 [3,5] 7 [(1,1)]]),((sq 405 ([1,25,0,0,0,24,19,30,31]++aY++[42]++vJ++ed) [] [0] []),[]),((sq 415 (Db++[0,0]) [] (Db++[9,0]) [(tq (az (ao 12) (.i 2000)))]),[]),((sq 430 [0,0,82,0,0] [] [0] []),[]),((sq 418 [0,0,82,0,0,0] [] [0,0,81,0,0,0] []),[]),((sq 419 [0,0,81,0,0] [] [0,0,81,0] []),[lq 6 0 [3] 2 []]),((sq 420 [5,0] [] [4,0] []),[]),((sq 431 [4] [] [4] [(.grow 1 0 0)]),[])]
def S59:List Sp:=afJ.map (·.1)++S58
def afK:List (Sp×List LH):=[((sq 421 [4,0] [] [4,4] [(tq (az (ao 2) (.i 300)))]),[]),((sq 422 [54,0] [] [4] []),[lq 2 1 [4,3] 0 [(0,1)]]),((sq 432 ([0,2,53,9]++aY++[0,2,4]) [(tq (az (ao 2) (.i 1000)))] [9] [(tq (az (ao 11) (.i 1000)))]),[lq 11 1 [9,3] 2 [(0,1)],lq 15 1 [0,3] 13 []]),((sq 213000308 ([9]++aY++[2]) [] [53] [(.grow 6 0 1),(tq (az (.i 1) (ao 6)))]),[lr 6 [3,3] [(tq (az 6 7)),(tq (az 7 (ao 0))),(tq (az (.i 0) 6))] (.bin 6 7) []])]
def S60:List Sp:=afK.map (·.1)++S59
def afL:List (Sp×List LH):=[((sq 423 ([0,2,9,9]++aY++[0,2,4]) [] (Db++[9,9,0]) [(tq (az (ao 16) (.i 2000))),(tq (az (ao 17) (.i 1000)))]),[lq 17 0 [3,9,53] 16 [(1,0),(2,1)],lq 21 0 [3] 20 [],lr 22 [3,3,9] [(tq (az 23 (ao 24))),(tq (cn (ao 24) (ao 20))),(tq (aB 22 23))] (Ee 23 (ao 24)) [(2,0)],lr 16 [3] [(tq (az 16 (.i 0)))] (Ee 16 (.i 0)) [],lr 15 [3] [(tq (az 15 (.i 0)))] (Ee 15 (.i 0)) []])]
def S61:List Sp:=afL.map (·.1)++S60
def S62:List Sp:=[jp,jr]++S61
def afM:List (Sp×List LH):=[((sq 434 [11,0] [] ([11]++aY++aY++[4,2]) []),[lq 2 0 [3] 0 []]),((sq 424 ([1]++V9++aY++aY++[2,0]) [] [11,13] [(.grow 17 5 0)]),[]),((sq 435 ([0,0,4,48,4]++aY) [] [0] [(iq (cn 9 (.i 0)) (tq (az (ao 2) (.i 1000)))),(iq (cn 9 (.i 0)) (tq (az (ao 3) (.i 300)))),(iq (cn 9 (.i 0)) (tq (az (ao 4) (.i 300))))]),[]),((sq 427 ([0,0,4,48,4]++aY) [] (I8++[2,48,0]) [(tq (az (ao 17) (.i 1)))]),[])]
def S63:List Sp:=afM.map (·.1)++S62
def S64:List Sp:=[cX]++S63
def afN:List (Sp×List LH):=[((sq 446 [4] [(tq (aB (.i 0) (ao 0)))] [0] [(.rel 100 [1,0])]),[lr 1 [0,3] [(.rel 100 [1,0]),(tq (az 2 (ao 0))),(tq (az (.i 1) 2))] (Ee 2 (ao 0)) []]),((sq 438 I8 [] [0,2] [(iq 8 (tq (az (.i 0) 7))),(iq 8 (tq (aB 7 (ao 2))))]),[])]
def S65:List Sp:=afN.map (·.1)++S64
def S66:List Sp:=[lg,lh]++S65
def afO:List (Sp×List LH):=[((sq 429 (I8++[0]) [] (I8++[0,2,48,0]) [(tq (az (ao 17) (.i 1)))]),[]),((sq 467 (aaw++aY++vJ++[0,92,0,0]++ed++ed++[8]++aY++[4,4,2]) [(tq (cn 19 (.i 1)))] [24,29,42] []),[]),((sq 467 (aaw++aY++vJ++[0,106,0,0]++ed++ed++[8]++aY++[4,4,2]) [(tq (cn 19 (.i 2)))] [24,29,42] []),[]),((sq 467 (aaw++aY++vJ++[0,92,107,0]++ed++ed++[8]++aY++[4,4,2]) [(tq (cn 19 (.i 3)))] [24,29,42] []),[]),((sq 470 [0,5,5,5,5,5,8] [] [4] []),[lq 7 1 [5,3] 6 [(0,1)]]),((sq 474 (aY++aY++[0,0]) [] (aY++[0]) []),[]),((sq 472 (aY++[0,0]) [] (aY++[0,0]) []),[]),((sq 475 (aY++aY) [] [0] []),[]),((sq 476 (aY++[0,0,0]) [] [0] []),[]),((sq 473 (aY++aY) [] (aY++[0,0,0]) []),[]),((sq 471 (aav++aY++[42]++vJ++[0,108,0,0]++ed++ed++[8]++aY++[4,4,2]) [(tq (cn 22 (.i 16))),(tq (az (ao 3) (.i 100000000000)))] [37,38,39,15,0] [(.grow 45 3 1)]),[]),((sq 471 (aav++aY++[42]++vJ++[0,109,0,0]++ed++ed++[8]++aY++[4,4,2]) [(tq (cn 22 (.i 17))),(tq (az (ao 3) (.i 100000000000)))] [37,38,39,15,0] [(.grow 45 3 1)]),[]),((sq 471 (aav++aY++[42]++vJ++[0,110,0,0]++ed++ed++[8]++aY++[4,4,2]) [(tq (cn 22 (.i 18))),(tq (az (ao 3) (.i 100000000000)))] [37,38,39,15,0] [(.grow 45 3 1)]),[])]
def S67:List Sp:=afO.map (·.1)++S66
def afP:List (Sp×List LH):=[(bz,dZ)]
def S68:List Sp:=afP.map (·.1)++S67
def S69:List Sp:=[ba]++S68
def afQ:List (Sp×List LH):=[(sO,[])]
def S70:List Sp:=afQ.map (·.1)++S69
def S71:List Sp:=[kQ]++S70
def afR:List (Sp×List LH):=[((sq 136 (ao9++[32,58,15,1,10,91,18,20,6,6,6,6,6,14,40,41,72]++V9++aY++[0,5]++vJ++[0,4]) [(tq (az (ao 12) (.i 3))),(tq (az (ao 11) (.i 0))),(tq (az (ao 31) (.i 300))),(.rel 6 [26])] (ao9++[32,58,15,0,11,13]++aY++[0,5]++vJ) [(tq (az (ao 59) (.i 320))),(tq (az (ao 56) (.i 400000000))),(tq (az (ao 55) (.i 1000)))]),[]),((sq 141 (Db++[0]) [] (Db++[9,0]) [(tq (az (ao 11) (.i 2000)))]),[]),((sq 144 (Db++[2]) [] (Db++[9,0]) [(tq (az (ao 11) (.i 2000)))]),[]),((sq 139000137 [1,5,0,0,0,75] [] [0] [(tq (aB 6 (ao 5)))]),[lq 6 0 [3] 5 []])]
def S72:List Sp:=afR.map (·.1)++S71
def afS:List (Sp×List LH):=[(cP,[])]
def S73:List Sp:=afS.map (·.1)++S72
def S74:List Sp:=[dU]++S73
def afT:List (Sp×List LH):=[((sq 83 (aim++aY++aY++[0,4]) [] (aim++[0,0]) []),[lq 28 1 [0,3] 3 []]),((sq 40 [50,11] [] [50,0] []),[lr 3 [3,50] [(tq (az 3 (ao 1))),(tq (cn (ao 4) (ao 2)))] (Ee 3 (ao 1)) [(1,0)]]),(jA,[]),((sq 12 [] [] afU []),[]),((sq 20 (aY++aY++[5]++aY++aY++[4]) [] [2] []),[]),((sq 9 [47,89,11,73] [] [2] []),[lq 4 0 [3] 0 [],lq 5 0 [3] 1 []]),((sq 10 [11,73,0] [] [11,73] []),[lq 3 0 [3,47] 0 [(1,1)],lq 5 0 [3,89] 1 [(1,1)]])]
def S75:List Sp:=afT.map (·.1)++S74
end Go.Proofs.YtnfambhakdnncaaGreatDoor
