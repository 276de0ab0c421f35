/-
  A part of the proof of TopIsolated: Kh4.
-/
import Derived.KernelRfl
import Derived.Test.YtnfambhakdnncaaGreatDoorZ08
namespace Go.Proofs.YtnfambhakdnncaaGreatDoor
set_option linter.all false
set_option maxRecDepth 1000000
set_option maxHeartbeats 80000000
open List Nat Int Go.RowKit
def eE:TL:=
 (.call 32 [(.v 0),(.v 1),(.v 2),(.v 3),(.v 22)] 1
 (.call 319 [(.v 0),(.v 1),(.v 2),(.v 3),(.v 6),(.v 22)] 2
 (.aa (.o .le (.i 0) (.v 41)) (.aa (.o .lt (.v 41) (.u .len (.v 2))) (.call 243 [(.u (.cell 0) (.o .idx (.v 2) (.v 41))),(.u (.cell 1) (.o .idx (.v 2) (.v 41))),(.u (.cell 2) (.o .idx (.v 2) (.v 41))),(.u (.cell 3) (.o .idx (.v 2) (.v 41))),(.u (.cell 4) (.o .idx (.v 2) (.v 41))),(.u (.cell 5) (.o .idx (.v 2) (.v 41))),(.u (.cell 6) (.o .idx (.v 2) (.v 41))),(.u (.cell 7) (.o .idx (.v 2) (.v 41))),(.u (.cell 8) (.o .idx (.v 2) (.v 41))),(.u (.cell 9) (.o .idx (.v 2) (.v 41))),(.u (.cell 10) (.o .idx (.v 2) (.v 41))),(.u (.cell 11) (.o .idx (.v 2) (.v 41))),(.u (.cell 12) (.o .idx (.v 2) (.v 41))),(.v 21)] 1
 (.call 276 [(.v 0),(.v 1),(.v 2),(.v 3),(.v 4),(.v 5),(.v 6),(.v 7),(.v 8),(.v 9),(.v 10),(.v 11),(.v 12),(.v 13),(.v 14),(.v 15),(.v 16),(.v 17),(.v 18),(.v 19),(.v 23),(.v 24),(.v 25),(.v 26)] 5
 (.call 277 [(.v 0),(.v 1),(.v 2),(.v 3),(.v 4),(.v 5),(.v 6),(.v 7),(.v 8),(.v 9),(.v 10),(.v 11),(.v 12),(.v 13),(.v 14),(.v 15),(.v 16),(.v 17),(.v 18),(.v 49),(.v 31)] 2
 (.ah [(.i 14),(.v 41),(.v 44),(.v 42),(.v 45),(.v 46),(.v 47),(.v 48),(.i 0),(.s []),(.i 0),.nil,(.v 50),(.i 0),(.i 0),(.i 0),(.i 0),.nil,.nil,(.b false),(.v 51)]))))))))
def pH:FT 275 41 eE:=aJ (by kernel_rfl)
def sU:TL:=
 let a:TL:= .ah [(qc (az (.i 0) 3))]
 .loop [(.i 0)] (.ite (aB 3 (ao 2)) (.aa (az (.i 0) 3) (.aa (aB 3 (ao 2)) (.ite (aB (bE 2 3) 0) a (.ite (aB 1 (bE 2 3)) a (.next 0 [(eX 3)]))))) (.ah [(.b true)]))
def JD:FT 286 3 sU:=aJ (by kernel_rfl)
def ji:TL:=
 .loop [(.i 0)] (.ite (aB 2 (ao 0)) (.aa (az (.i 0) 2) (.aa (aB 2 (ao 0)) (.ite (cn 1 (bE 0 2)) (.ah [2]) (.next 0 [(eX 2)])))) (.ah [(.i (-1))]))
def xH:FT 297 2 ji:=aJ (by kernel_rfl)
def sR:TL:=
 let a:Ex:= .i 0
 let b:Ex:=ao 4
 let c:Ex:=ao 7
 let d:Ex:=aB 14 (ao 15)
 let e:Ex:= .o (.sub .i64) 14 (.i 1)
 let f:Ex:=bE 15 14
 let g:Ex:=bE 15 e
 let h:TL:= .next 2 [(eX 12),15]
 let j:TL:= .loop [12,13] (.ite (aB 9 14) (.aa (az a 14) (.aa d (.aa (az a e) (.aa (aB e (ao 15)) (.aa (az a f) (.aa (aB f b) (.aa (az a g) (.aa (aB g b) (.call 44 [(bE 4 f),(bE 4 g)] 1 (.ite (aB 16 a) (.aa (az a e) (.aa (aB e (ao 15)) (.aa (az a 14) (.aa d (.aa (az a 14) (.aa d (.aa (az a e) (.aa (aB e (ao (.t .mu 15 14 g))) (.next 3 [e,(.t .mu (.t .mu 15 14 g) e f)]))))))))) h)))))))))) h)
 let k:Ex:=bE 13 20
 .aa (az a b) (.aa (az b (.i 16777216)) (.loop [(.o .Bp a a),a] (.ite (aB 8 b) (.aa (az (ao (.o .gx 7 8)) (.i 17592186044416)) (.next 0 [(.o .gx 7 8),(eX 8)])) (.loop [a,(.i 20),7] (.ite (az 10 c) (.loop [(eX 9),11] (.ite (aB 12 10) j (.next 1 [10,(.o (.add .i64) 10 (.i 20)),13]))) (.loop [(eX 9),11] (.ite (aB 12 c) j (.loop [9,10,(.i 20)] (.ite (aB 16 c) (.loop [a,(.o (.mul .i64) (.i 2) 16)] (.ite (az 18 c) (.fail "op") (.ite (aB (.o (.add .i64) 17 16) c) (.fail "op") (.next 3 [17,18,(.o (.mul .i64) 16 (.i 2))])))) (.call 355 [0,1,2,3,4,5] 1 (.call 332 [6,17] 1 (.loop [18,a] (.ite (aB 20 (ao 13)) (.aa (az a 20) (.aa (aB 20 (ao 13)) (.aa (az a k) (.aa (aB k (ao 5)) (.ite (aB 19 (bE 5 k)) (.aa (az a k) (.aa (aB k b) (.ah [(bE 4 k)]))) (.aa (az a k) (.aa (aB k (ao 5)) (.next 4 [(.o (.sub .i64) 19 (bE 5 k)),(eX 20)])))))))) (.ah [a]))))))))))))))
def JB:FT 333 7 sR:=aJ (by kernel_rfl)
def sS:TL:=
 let a:Ex:= .i 18446744073709551615
 .loop [a,(.i 1)] (.ite (aB 8 2) (.call 352 [7,(.u (.conv .u64) (.o (.sub .i64) 1 (.i 1)))] 2 (.call 356 [9,10,(.u (.conv .u64) 1)] 2 (.ite (az 11 (.o (.WU .u64) a 6)) (.ah [8]) (.next 0 [11,(eX 8)])))) (.ah [2]))
def JC:FT 334 7 sS:=aJ (by kernel_rfl)
def uD:TL:=
 let a:Ex:= .i 32
 let b:Ex:= .o (.shr .u64) 0 a
 let c:Ex:= .o (.shr .u64) 1 a
 let d:Ex:= .i 4294967295
 let e:Ex:= .o (.NR .u64) 1 d
 let f:Ex:= .o (.NR .u64) 0 d
 let g:Ex:= .o (.add .u64) (.o (.mul .u64) b e) (.o (.shr .u64) (.o (.mul .u64) f e) a)
 .ah [(.o (.add .u64) (.o (.add .u64) (.o (.mul .u64) b c) (.o (.shr .u64) g a)) (.o (.shr .u64) (.o (.add .u64) (.o (.NR .u64) g d) (.o (.mul .u64) f c)) a)),(.o (.mul .u64) 0 1)]
def LZ:FT 352 2 uD:=aJ (by kernel_rfl)
def uB:TL:=
 let a:Ex:= .i 0
 let b:Ex:= .u (.conv .u64) 3
 let c:Ex:=az a b
 let d:Ex:= .o (.sub .u64) (.i 64) b
 let e:Ex:= .o (.shl .u64) 2 b
 let f:Ex:= .o (.shr .u64) e (.i 32)
 let g:Ex:= .o (.bor .u64) (.o (.shl .u64) 0 b) (.o (.shr .u64) 1 d)
 let h:Ex:= .o (.quo .u64) g f
 let j:Ex:= .i 4294967296
 let k:Ex:= .o (.add .u64) 5 f
 let l:Ex:= .o (.shl .u64) 1 b
 let m:Ex:= .o (.shr .u64) l (.i 32)
 let n:Ex:= .o (.add .u64) (.o (.mul .u64) g j) m
 let p:Ex:= .o (.sub .u64) 4 (.i 1)
 let q:Ex:= .o (.sub .u64) n (.o (.mul .u64) p e)
 let r:Ex:= .o (.quo .u64) q f
 let u:Ex:= .o (.add .u64) 7 f
 let w:Ex:= .o (.mul .u64) p j
 let x:Ex:= .o (.sub .u64) 6 (.i 1)
 let y:Ex:= .o (.NR .u64) l (.i 4294967295)
 let z:Ex:= .o (.add .u64) (.o (.mul .u64) q j) y
 let A:Ex:= .o (.mul .u64) x e
 let B:TL:= .ite (az j u) (.aa c (.ah [(.o (.add .u64) w x),(.o (.shr .u64) (.o (.sub .u64) z A) b)])) (.next 1 [x,u])
 let C:Ex:= .o (.NR .u64) e (.i 4294967295)
 let D:Ex:=aB (.o (.add .u64) (.o (.mul .u64) j 7) y) (.o (.mul .u64) 6 C)
 let E:Ex:= .o (.mul .u64) 6 e
 let F:TL:= .ite (az j k) (.aa (ib f a) (.loop [r,(.o (.sub .u64) q (.o (.mul .u64) r f))] (.ite (az j 6) B (.ite D B (.aa c (.ah [(.o (.add .u64) w 6),(.o (.shr .u64) (.o (.sub .u64) z E) b)])))))) (.next 0 [p,k])
 let G:Ex:= .o (.sub .u64) n (.o (.mul .u64) 4 e)
 let H:Ex:= .o (.quo .u64) G f
 let I:Ex:= .o (.mul .u64) 4 j
 let J:Ex:= .o (.add .u64) (.o (.mul .u64) G j) y
 let K:TL:= .ite (az j u) (.aa c (.ah [(.o (.add .u64) I x),(.o (.shr .u64) (.o (.sub .u64) J A) b)])) (.next 1 [x,u])
 .ite (cn 2 a) (.fail "op") (.ite (az 2 0) (.fail "op") (.ite (cn 0 a) (.aa (ib 2 a) (.aa (ib 2 a) (.ah [(.o (.quo .u64) 1 2),(.o (.rem .u64) 1 2)]))) (.call 376 [2] 1 (.aa c (.aa c (.aa (az a d) (.aa c (.aa (ib f a) (.loop [h,(.o (.sub .u64) g (.o (.mul .u64) h f))] (.ite (az j 4) F (.ite (aB (.o (.add .u64) (.o (.mul .u64) j 5) m) (.o (.mul .u64) 4 C)) F (.aa (ib f a) (.loop [H,(.o (.sub .u64) G (.o (.mul .u64) H f))] (.ite (az j 6) K (.ite D K (.aa c (.ah [(.o (.add .u64) I 6),(.o (.shr .u64) (.o (.sub .u64) J E) b)])))))))))))))))))
def LX:FT 356 3 uB:=aJ (by kernel_rfl)
def jf:TL:=
 .call 385 [0] 1 (.ah [(.o (.sub .i64) (.i 64) 1)])
def xE:FT 376 1 jf:=aJ (by kernel_rfl)
def uC:TL:=
 let a:Ex:= .o (.shr .u64) 0 (.i 32)
 let b:Ex:= .i 256
 let c:Ex:= .o (.shr .u64) a (.i 16)
 let d:Ex:= .i 0
 let e:Ex:= .u (.conv .u8) (.o (.shr .u64) c (.i 8))
 let f:Ex:= .s [0,1,2,2,3,3,3,3,4,4,4,4,4,4,4,4,5,5,5,5,5,5,5,5,5,5,5,5,5,5,5,5,6,6,6,6,6,6,6,6,6,6,6,6,6,6,6,6,6,6,6,6,6,6,6,6,6,6,6,6,6,6,6,6,7,7,7,7,7,7,7,7,7,7,7,7,7,7,7,7,7,7,7,7,7,7,7,7,7,7,7,7,7,7,7,7,7,7,7,7,7,7,7,7,7,7,7,7,7,7,7,7,7,7,7,7,7,7,7,7,7,7,7,7,7,7,7,7,8,8,8,8,8,8,8,8,8,8,8,8,8,8,8,8,8,8,8,8,8,8,8,8,8,8,8,8,8,8,8,8,8,8,8,8,8,8,8,8,8,8,8,8,8,8,8,8,8,8,8,8,8,8,8,8,8,8,8,8,8,8,8,8,8,8,8,8,8,8,8,8,8,8,8,8,8,8,8,8,8,8,8,8,8,8,8,8,8,8,8,8,8,8,8,8,8,8,8,8,8,8,8,8,8,8,8,8,8,8,8,8,8,8,8,8,8,8,8,8,8,8,8,8,8,8,8,8]
 let g:Ex:= .u .iN f
 let h:Ex:= .u (.conv .u8) c
 let j:Ex:= .u (.conv .u8) (.o (.shr .u64) a (.i 8))
 let k:Ex:= .u (.conv .u8) a
 let l:Ex:= .o (.shr .u64) 0 (.i 16)
 let m:Ex:= .u (.conv .u8) (.o (.shr .u64) l (.i 8))
 let n:Ex:= .u (.conv .u8) l
 let p:Ex:= .u (.conv .u8) (.o (.shr .u64) 0 (.i 8))
 let q:Ex:= .u (.conv .u8) 0
 .ite (az (.i 4294967296) 0) (.ite (az (.i 65536) a) (.ite (az b c) (.aa (az d e) (.aa (aB e g) (.ah [(.o (.add .i64) (.i 56) (.u (.conv .i64) (.o .qG f e)))]))) (.aa (az d h) (.aa (aB h g) (.ah [(.o (.add .i64) (.i 48) (.u (.conv .i64) (.o .qG f h)))])))) (.ite (az b a) (.aa (az d j) (.aa (aB j g) (.ah [(.o (.add .i64) (.i 40) (.u (.conv .i64) (.o .qG f j)))]))) (.aa (az d k) (.aa (aB k g) (.ah [(.o (.add .i64) (.i 32) (.u (.conv .i64) (.o .qG f k)))]))))) (.ite (az (.i 65536) 0) (.ite (az b l) (.aa (az d m) (.aa (aB m g) (.ah [(.o (.add .i64) (.i 24) (.u (.conv .i64) (.o .qG f m)))]))) (.aa (az d n) (.aa (aB n g) (.ah [(.o (.add .i64) (.i 16) (.u (.conv .i64) (.o .qG f n)))])))) (.ite (az b 0) (.aa (az d p) (.aa (aB p g) (.ah [(.o (.add .i64) (.i 8) (.u (.conv .i64) (.o .qG f p)))]))) (.aa (az d q) (.aa (aB q g) (.ah [(.o (.add .i64) d (.u (.conv .i64) (.o .qG f q)))])))))
def LY:FT 385 1 uC:=aJ (by kernel_rfl)
def gR:TL:=
 let a:TL:= .ah [5]
 let b:Ex:=bE 5 17
 let c:Ex:=bw 1 b
 let d:Ex:=bw 2 b
 let e:Ex:=ao (bw 3 (bE 1 c))
 let f:Ex:= .o (.sub .i64) d (.i 1)
 let g:Ex:=bE (bw 3 (bE 1 c)) f
 .call 139 [5,15] 1 (.ite (aB 17 (.i 0)) a (.aa (az (.i 0) 17) (.aa (aB 17 (ao 5)) (.aa (az (.i 0) c) (.aa (aB c (ao 1)) (.ite (aB d (.i 1)) a (.ite (aB e d) a (.aa (az (.i 0) f) (.aa (aB f e) (.ite (ib (bw 0 g) (.i 10)) a (.call 115 [(bw 3 b)] 1 (.aa (az (.i 0) f) (.aa (aB f e) (.aa (az (.i 0) (bw 2 g)) (.aa (aB (bw 2 g) (ao 18)) (.call 230 ([5]++kc b [0,1,2]++[(.t .mu 18 (bw 2 g) 16)]++kc b [4,5,6]) 1 (.ah [19])))))))))))))))))
def Af:FT 428 17 gR:=aJ (by kernel_rfl)
def mY:TL:=
 let a:Ex:= .i 0
 let b:Ex:= .o (.add .i64) 1 (ao (bE 0 2))
 let c:Ex:= .o (.sub .i64) 1 a
 let d:Ex:= .i 17592186044416
 let e:Ex:= .o .app 3 (bE 0 4)
 let f:TL:= .loop [.nil,a] (.ite (aB 4 (ao 0)) (.aa (az a 4) (.aa (aB 4 (ao 0)) (.aa (az (ao e) d) (.next 1 [e,(eX 4)])))) (.ah [3]))
 .loop [a,a] (.ite (aB 2 (ao 0)) (.aa (az a 2) (.aa (aB 2 (ao 0)) (.ite (aB b a) (.fail "op") (.next 0 [b,(eX 2)])))) (.ite (aB 1 a) (.fail "op") (.ite (aB a c) (.aa (az a c) (.aa (az c d) f)) f)))
def ng:FT 439 1 mY:=aJ (by kernel_rfl)
def kE:TL:=
 let a:Ex:= .i 0
 let b:Ex:= .o (.add .i64) 1 (ao (bE 0 2))
 let c:Ex:= .o (.sub .i64) 1 a
 let d:Ex:= .o .app 3 (bE 0 4)
 let e:TL:= .loop [.nil,a] (.ite (aB 4 (ao 0)) (.aa (az a 4) (.aa (aB 4 (ao 0)) (.aa (az (ao d) (.i 1599289640401)) (.next 1 [d,(eX 4)])))) (.ah [3]))
 .loop [a,a] (.ite (aB 2 (ao 0)) (.aa (az a 2) (.aa (aB 2 (ao 0)) (.ite (aB b a) (.fail "op") (.next 0 [b,(eX 2)])))) (.ite (aB 1 a) (.fail "op") (.ite (aB a c) (.aa (az a c) (.aa (az c (.i 1599289640401)) e)) e)))
def kX:FT 444 1 kE:=aJ (by kernel_rfl)
def cU:TL:=
 .call 43000084 [0,(ao 0)] 1 (.ah [1])
def kO:FT 43000041 1 cU:=aJ (by kernel_rfl)
def cZ:TL:=
 let a:Ex:= .o (.mul .i64) (.i 2) 8
 let b:Ex:= .o (.add .i64) 10 8
 let c:Ex:= .o (.mul .i64) 8 (.i 2)
 .loop [(.i 0),(.i 20),0] (.ite (az 3 1) (.call 43000145 [4,2,3] 1 (.next 0 [3,(.o (.add .i64) 3 (.i 20)),5])) (.call 43000145 [4,2,1] 1 (.loop [2,3,(.i 20),5] (.ite (aB 8 1) (.loop [(.i 0),a,9] (.ite (az 11 1) (.call 43000146 [12,10,b,11] 1 (.next 2 [11,(.o (.add .i64) 11 a),13])) (.ite (aB b 1) (.call 43000146 [12,10,b,1] 1 (.next 1 [10,11,c,13])) (.next 1 [10,11,c,12])))) (.ah [9])))))
def lD:FT 43000084 2 cZ:=aJ (by kernel_rfl)
def aM:TL:=
 let a:Ex:=az (.i 0) 5
 let b:Ex:=aB 5 (ao 6)
 let c:Ex:= .o (.sub .i64) 5 (.i 1)
 let d:Ex:=az (.i 0) c
 let e:Ex:=bE 6 5
 let f:Ex:=bE 6 c
 let g:Ex:= .t .mu 6 5 (dY (kc f [0,1,2,3,4,5,6,7,8,9]) .nil)
 let h:TL:= .next 0 [(eX 3),6]
 .loop [(eX 1),0] (.ite (aB 3 2) (.loop [3,4] (.ite (aB 1 5) (.aa a (.aa b (.aa d (.aa (aB c (ao 6)) (.call 44 [(bw 0 e),(bw 0 f)] 1 (.call 44 [(bw 4 e),(bw 4 f)] 1 (.call 43 [(dY [7,8] .nil)] 1 (.ite (aB 9 (.i 0)) (.aa d (.aa (aB c (ao 6)) (.aa a (.aa b (.aa a (.aa b (.aa d (.aa (aB c (ao g)) (.next 1 [c,(.t .mu g c (dY (kc e [0,1,2,3,4,5,6,7,8,9]) .nil))]))))))))) h)))))))) h)) (.ah [4]))
def iL:FT 43000145 3 aM:=aJ (by kernel_rfl)
def bx:TL:=
 let a:Ex:= .i 1
 let b:Ex:= .i 0
 let c:Ex:= .u (.conv .i64) (.o (.shr .u64) (.u (.conv .u64) (.o (.add .i64) 4 5)) a)
 let d:Ex:=aB c (ao 0)
 let e:Ex:=bw 0 (bE 0 c)
 let f:Ex:=bw 4 (bE 0 c)
 let g:TL:= .next 0 [(eX c),5]
 let h:Ex:=eX 6
 let j:Ex:=az b 6
 let k:Ex:=aB 6 (ao 7)
 let l:Ex:=bE 7 h
 let m:Ex:= .t .mu 7 6 (dY (kc l [0,1,2,3,4,5,6,7,8,9]) .nil)
 let n:Ex:=bE 7 6
 let p:Ex:=dY (kc n [0,1,2,3,4,5,6,7,8,9]) .nil
 let q:TL:= .ah [7]
 let r:TL:= .call 43 [(dY [6,7] .nil)] 1 (.ite (qc (aB 8 b)) g (.next 0 [4,c]))
 let u:Ex:= .o (.sub .i64) 6 a
 let w:Ex:=bE 7 u
 let x:Ex:= .t .mu 7 6 (dY (kc w [0,1,2,3,4,5,6,7,8,9]) .nil)
 let y:Ex:= .u (.conv .i64) (.o (.shr .u64) (.u (.conv .u64) (.o (.add .i64) 1 3)) a)
 let z:Ex:= .o (.add .i64) y 2
 let A:Ex:= .o (.sub .i64) (.o (.sub .i64) z a) c
 let B:Ex:= .o (.sub .i64) z 4
 let C:TL:= .ah [6]
 let D:TL:= .ite (aB y B) (.ite (aB B 3) (.call 43000146 [6,y,B,3] 1 q) C) C
 let E:TL:= .ite (aB y B) (.ite (aB B 3) (.call 43000146 [0,y,B,3] 1 C) (.ah [0])) (.ah [0])
 let F:TL:= .ite (aB 1 4) (.ite (aB 4 y) (.call 43000146 [0,1,4,y] 1 D) E) E
 let G:TL:= .ite (aB 4 5) (.aa (az b A) (.aa (aB A (ao 0)) (.aa (az b c) (.aa d (.call 44 [(bw 0 (bE 0 A)),e] 1 (.call 44 [(bw 4 (bE 0 A)),f] 1 r)))))) (.ite (aB 4 2) (.ite (aB 2 B) (.call 43000238 [0,4,2,B] 1 (.ite (aB 1 4) (.ite (aB 4 y) (.call 43000146 [6,1,4,y] 1 (.ite (aB y B) (.ite (aB B 3) (.call 43000146 [7,y,B,3] 1 (.ah [8])) q) q)) D) D)) F) F)
 .ite (cn (.o (.sub .i64) 2 1) a) (.loop [2,3] (.ite (aB 4 5) (.aa (az b c) (.aa d (.aa (az b 1) (.aa (aB 1 (ao 0)) (.call 44 [e,(bw 0 (bE 0 1))] 1 (.call 44 [f,(bw 4 (bE 0 1))] 1 (.call 43 [(dY [6,7] .nil)] 1 (.ite (aB 8 b) g (.next 0 [4,c]))))))))) (.loop [1,0] (.ite (aB 6 (.o (.sub .i64) 4 a)) (.aa (az b h) (.aa (aB h (ao 7)) (.aa j (.aa k (.aa j (.aa k (.aa (az b h) (.aa (aB h (ao m)) (.next 1 [h,(.t .mu m h p)]))))))))) q)))) (.ite (cn (.o (.sub .i64) 3 2) a) (.loop [1,2] (.ite (aB 4 5) (.aa (az b 2) (.aa (aB 2 (ao 0)) (.aa (az b c) (.aa d (.call 44 [(bw 0 (bE 0 2)),e] 1 (.call 44 [(bw 4 (bE 0 2)),f] 1 r)))))) (.loop [2,0] (.ite (aB 4 6) (.aa (az b u) (.aa (aB u (ao 7)) (.aa j (.aa k (.aa j (.aa k (.aa (az b u) (.aa (aB u (ao x)) (.next 1 [u,(.t .mu x u p)]))))))))) q)))) (.ite (aB y 2) (.loop [(.o (.sub .i64) z 3),y] G) (.loop [1,2] G)))
def kh:FT 43000146 4 bx:=aJ (by kernel_rfl)
end Go.Proofs.YtnfambhakdnncaaGreatDoor
