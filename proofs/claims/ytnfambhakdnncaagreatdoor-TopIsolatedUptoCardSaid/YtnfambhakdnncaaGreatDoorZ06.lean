/-
  A part of the proof of TopIsolated: Kh1.
-/
import Derived.KernelRfl
import Derived.Test.YtnfambhakdnncaaGreatDoorZ04
namespace Go.Proofs.YtnfambhakdnncaaGreatDoor
set_option linter.all false
set_option maxRecDepth 1000000
set_option maxHeartbeats 80000000
open List Nat Int Go.RowKit
def fF:TL:=
 let a:Ex:= .o .gx 2 (dY [4,5,6,7,8,9,10,11,12,13,14,15,16] .nil)
 let b:TL:= .call 6 [] 1 (.ah [34])
 let c:TL:= .call 6 [] 1 (.ah [42])
 .aa (az (ao 2) (.i 462952264326)) (.aa (az (ao a) (.i 462952264326)) (.call 4 [0,1,2,3] 1 (.ite (qc 21) (.call 6 [] 1 (.ah [22])) (.call 4 [0,1,a,3] 1 (.ite (qc 22) (.call 6 [] 1 (.ah [23])) (.call 5 [17,18,19,20] 1 (.ite (qc 23) (.call 6 [] 1 (.ah [24])) (.call 7 [0,1,2,3,17,18,19] 5 (.call 7 [0,1,a,3,17,18,19] 5 (.ite (ib 28 (.i 0)) b (.ite (ib 33 (.i 0)) b (.call 8 [24,25,26,27,20] 4 (.call 8 [29,30,31,32,20] 4 (.ite (ib 37 (.i 0)) c (.ite (ib 41 (.i 0)) c (.call 10 [38,39,(ao 2)] 2 (.call 9 [34,35,42,43] 1 (.ite 44 (.call 6 [] 1 (.ah [45])) (.ah [(.b false)])))))))))))))))))))
def se:FT 3 21 fF:=aJ (by kernel_rfl)
def fG:TL:=
 let a:TL:= .ah [(.b false)]
 let b:Ex:=bE 2 5
 let c:Ex:=aB 7 (ao (bw 10 b))
 .ite (aB (.i 4) (ao 2)) a (.ite (aB (.i 12) (ao 3)) a (.ite (aB (.i 12) (ao 1)) a (.loop [(.i 80),(.i 0)] (.ite (aB 5 (ao 2)) (.aa (az (.i 0) 5) (.aa (aB 5 (ao 2)) (.ite (aB (.i 6) (ao (bw 10 b))) a (.ite (aB (.i 8) (ao (bw 11 b))) a (.ite (aB (.i 12) (ao (bw 1 b))) a (.ite (aB (.i 6) (ao (bw 2 b))) a (.ite (aB (.i 6) (ao (bw 3 b))) a (.ite (aB (.i 6) (ao (bw 12 b))) a (.ite (aB (.i 30) (.o (.add .i64) (.o (.add .i64) (.o (.add .i64) (.o (.add .i64) (.o (.add .i64) (ao (bw 4 b)) (ao (bw 5 b))) (ao (bw 6 b))) (ao (bw 7 b))) (ao (bw 8 b))) (ao (bw 9 b)))) a (.loop [4,(.i 0)] (.ite c (.aa (az (.i 0) 7) (.aa c (.call 11 [(bw 3 (bE (bw 10 b) 7)),6] 1 (.ite (aB 8 (.i 0)) a (.next 1 [8,(eX 7)]))))) (.next 0 [6,(eX 5)])))))))))))) (.ah [(.b true)])))))
def xF:FT 4 4 fG:=aJ (by kernel_rfl)
def kV:TL:=
 .call 13 [0,1,2,3,4] 5 (.ite (ib 11 (.i 0)) (.ah [(.s []),.nil,.nil,.nil,11]) (.call 14 [7,8,9,10] 4 (.ite (ib 15 (.i 0)) (.ah [(.s []),.nil,.nil,.nil,15]) (.call 15 [12,13,14,5,6] 2 (.ite (ib 17 (.i 0)) (.ah [(.s []),.nil,.nil,.nil,17]) (.ah [12,13,14,16,(.i 0)]))))))
def EC:FT 7 7 kV:=aJ (by kernel_rfl)
def BB:TL:=
 let a:TL:= .ah [.nil,.nil,.nil,(.i 2)]
 let b:Ex:= .o .gx 6 (dY [11,12,13,14,15,16,17,18,19] .nil)
 .call 16 [0,1,2,3] 1 (.ite (ib 5 (.i 0)) (.ah [.nil,.nil,.nil,5]) (.ite (aB 4 (.i 0)) a (.ite (aB (.i 1000000000) 4) a (.loop [.nil,.nil,3] (.call 17 [8,4] 1 (.ite 9 (.ite (az (.i 5000) (ao 6)) (.ah [.nil,.nil,.nil,(.i 18)]) (.call 18 [0,1,2,8] 12 (.ite (qc 21) (.ah [.nil,.nil,.nil,(.i 13)]) (.aa (az (ao b) (.i 1599289640401)) (.aa (az (ao (.o .gx 7 20)) (.i 5864062014805)) (.next 0 [b,(.o .gx 7 20),10])))))) (.call 19 [6,7] 2 (.ah [10,11,8,(.i 0)]))))))))
def UT:FT 8 5 BB:=aJ (by kernel_rfl)
def kC:TL:=
 let a:TL:= .ah [(.b false)]
 let b:Ex:=bE 0 4
 let c:Ex:=bE 2 4
 let d:Ex:=bE 1 5
 let e:Ex:=bE 3 5
 .ite (ib (ao 0) (ao 2)) a (.ite (ib (ao 1) (ao 3)) a (.loop [(.i 0)] (.ite (aB 4 (ao 0)) (.aa (az (.i 0) 4) (.aa (aB 4 (ao 0)) (.aa (az (.i 0) 4) (.aa (aB 4 (ao 2)) (.call 20 (kc b [0,1,2,3,4,5,6,7,8]++kc c [0,1,2,3,4,5,6,7,8]) 1 (.ite (qc 5) a (.next 0 [(eX 4)]))))))) (.loop [(.i 0)] (.ite (aB 5 (ao 1)) (.aa (az (.i 0) 5) (.aa (aB 5 (ao 1)) (.aa (az (.i 0) 5) (.aa (aB 5 (ao 3)) (.ite (qc (.o .and (cn (bw 0 d) (bw 0 e)) (.o .and (cn (bw 1 d) (bw 1 e)) (.o .and (cn (bw 2 d) (bw 2 e)) (.o .and (cn (bw 3 d) (bw 3 e)) (.o .and (cn (bw 4 d) (bw 4 e)) (.o .and (cn (bw 5 d) (bw 5 e)) (.b true)))))))) a (.next 1 [(eX 5)])))))) (.ah [(.b true)]))))))
def Ae:FT 9 4 kC:=aJ (by kernel_rfl)
def mM:TL:=
 let a:Ex:=bE 0 3
 let b:Ex:= .o .gx 4 (dY (kc a [0,1,2,3,4,5,6,7,8]) .nil)
 let c:Ex:=bE 1 5
 let d:Ex:= .o .gx 6 (dY (kc c [0,1,2,3,4,5]) .nil)
 .loop [(.i 0),.nil] (.ite (aB 3 (ao 0)) (.aa (az (.i 0) 3) (.aa (aB 3 (ao 0)) (.ite (aB (bw 4 a) 2) (.aa (az (ao b) (.i 1599289640401)) (.next 0 [(eX 3),b])) (.next 0 [(eX 3),4])))) (.loop [(.i 0),.nil] (.ite (aB 5 (ao 1)) (.aa (az (.i 0) 5) (.aa (aB 5 (ao 1)) (.ite (aB (bw 1 c) 2) (.aa (az (ao d) (.i 2932031007402)) (.next 1 [(eX 5),d])) (.next 1 [(eX 5),6])))) (.ah [4,6]))))
def B9:FT 10 3 mM:=aJ (by kernel_rfl)
def gQ:TL:=
 let a:Ex:= .i 0
 let b:Ex:=aB 3 (ao 0)
 let c:Ex:=az a 3
 let d:Ex:=bE 0 3
 let e:Ex:= .o .app (dY [(dY (kc d [3,4,5,6]) .nil),(dY (kc d [7,8,9,10]) .nil)] .nil) (bw 11 d)
 let f:Ex:= .o (.sub .i64) 2 (.i 1)
 let g:TL:= .ah [(.i (-1))]
 let h:Ex:=bE e 4
 let j:TL:= .next 0 [5,(eX 3)]
 let k:TL:= .ite (az a f) (.aa c (.aa b (.call 11 [(bw 19 d),f] 1 (.ite (az a 5) (.aa c (.aa b (.call 11 [(bw 20 d),5] 1 (.next 0 [6,(eX 3)])))) j)))) (.ite (az a f) (.aa c (.aa b (.call 11 [(bw 20 d),f] 1 j))) (.next 0 [f,(eX 3)]))
 .loop [1,a] (.ite b (.ite (az a 2) (.aa c (.aa b (.aa c (.aa b (.aa c (.aa b (.aa (az (ao e) (.i 2513169434916)) (.loop [a] (.ite (aB 4 (ao e)) (.ite (az a f) (.ite (aB (.i 10) 4) g (.aa (az a 4) (.aa (aB 4 (ao e)) (.call 21 (kc h [0,1,2,3]++[(.i 60)]) 1 (.ite (aB 5 a) g (.next 1 [(eX 4)])))))) k) k))))))))) (.ah [2])) (.ah [2]))
def pj:TL:=
 let a:Ex:= .i 0
 let b:Ex:=aB 9 (ao 8)
 let c:TL:= .ah [(.s []),.nil,.nil,.nil,(.i 5)]
 let d:Ex:=aB 10 (.o (.sub .i64) 7 a)
 let e:TL:= .aa (az a 9) (.aa b (.call 28 [(bw 1 (bE 8 9)),(bw 1 (bE 4 7))] 1 (.ite (qc 11) (.ah [(.s []),.nil,.nil,.nil,(.i 2)]) (.aa (az a 9) (.aa b (.next 0 [(eX 7),(.t .mu 8 9 (dY [(bw 0 (bE 8 9)),(bw 1 (bE 8 9)),(bw 1 (bE 4 7))] .nil))]))))))
 .call 22 [0,1,2,3] 1 (.ite (ib 5 a) (.ah [(.s []),.nil,.nil,.nil,5]) (.call 23 [1] 1 (.loop [a,6] (.ite (aB 7 (ao 4)) (.aa (az a 7) (.aa (aB 7 (ao 4)) (.loop [a] (.ite b (.aa (az a 9) (.aa b (.ite (.o .seq (bw 0 (bE 8 9)) (bw 0 (bE 4 7))) (.ite (aB 9 a) c (.aa (az a 7) (.aa (az 7 (ao 4)) (.loop [a] (.ite d (.aa (az a 10) (.aa d (.ite (.o .seq (bw 0 (bE 4 (.o (.add .i64) a 10))) (bw 0 (bE 4 7))) (.ite (az a 10) (.ah [(.s []),.nil,.nil,.nil,(.i 4)]) e) (.next 2 [(eX 10)])))) e))))) (.next 1 [(eX 9)])))) c)))) (.ah [0,8,2,3,a])))))
def LW:FT 13 5 pj:=aJ (by kernel_rfl)
def fP:TL:=
 let a:Ex:= .i 0
 let b:Ex:=bE 6 9
 let c:Ex:= .o .gx 13 (dY [15,16,17,18] .nil)
 let d:Ex:=bE 14 12
 let e:Ex:= .o .gx 10 (dY (kc b [0,1,2,3,4,5,6,7,8,9]++[14,(bw 11 b),(bw 12 b),13]) .nil)
 let f:Ex:= .o .gx 12 (dY [13,14,(bw 2 (bE 7 11))] .nil)
 .call 29 [0,1,2,3] 5 (.ite (ib 8 a) (.ah [(.s []),.nil,.nil,8]) (.loop [a,.nil] (.ite (aB 9 (ao 6)) (.aa (az a 9) (.aa (aB 9 (ao 6)) (.call 30 [(bw 10 b)] 1 (.loop [a,.nil,11] (.ite (aB 12 (ao (bw 10 b))) (.call 31 [4,5,6,7,9,12] 5 (.ite (ib 19 a) (.ah [(.s []),.nil,.nil,19]) (.aa (az a 12) (.aa (aB 12 (ao 14)) (.aa (az (ao c) (.i 2513169434916)) (.next 1 [(eX 12),c,(.t .mu 14 12 (dY (kc d [0,1,2]++[.nil]) .nil))])))))) (.aa (az (ao e) (.i 429077708400)) (.next 0 [(eX 9),e]))))))) (.loop [a,.nil] (.ite (aB 11 (ao 7)) (.aa (az a 11) (.aa (aB 11 (ao 7)) (.call 32 [4,5,6,7,(bw 0 (bE 7 11))] 1 (.call 32 [4,5,6,7,(bw 1 (bE 7 11))] 1 (.aa (az (ao f) (.i 5864062014805)) (.next 1 [(eX 11),f])))))) (.ah [4,10,12,a]))))))
def xf:FT 14 4 fP:=aJ (by kernel_rfl)
def rG:TL:=
 let a:Ex:= .o .gx 7 (dY [8,9,10,11,12,13,14,15,16,17,18,19,20,21,22,23,24,25] .nil)
 .call 33 [0,1,2] 1 (.ite (ib 5 (.i 0)) (.ah [.nil,5]) (.loop [(.i 0),.nil] (.ite (aB 6 (ao 1)) (.call 34 [0,1,2,6,3,4] 19 (.ite (ib 26 (.i 0)) (.ah [.nil,26]) (.aa (az (ao a) (.i 399822410100)) (.next 0 [(eX 6),a])))) (.ah [7,(.i 0)]))))
def Ob:FT 15 5 rG:=aJ (by kernel_rfl)
def nL:TL:=
 let a:Ex:=bE 3 6
 .call 33 [0,1,2] 1 (.ite (ib 4 (.i 0)) (.ah [4]) (.ite (ib (ao 3) (ao 1)) (.ah [(.i 8)]) (.loop [(.i 0)] (.ite (aB 5 (ao 3)) (.aa (az (.i 0) 5) (.aa (aB 5 (ao 3)) (.ite (ib (bw 0 (bE 3 5)) 5) (.ah [(.i 8)]) (.next 0 [(eX 5)])))) (.loop [(.i 0)] (.ite (aB 6 (ao 3)) (.aa (az (.i 0) 6) (.aa (aB 6 (ao 3)) (.call 35 ([0,1,2]++kc a [0,1,2,3,4,5,6,7,8,9,10,11,12,13,14,15,16,17]) 1 (.ite (ib 7 (.i 0)) (.ah [7]) (.next 1 [(eX 6)]))))) (.ah [(.i 0)])))))))
def JG:FT 16 4 nL:=aJ (by kernel_rfl)
def BC:TL:=
 let a:Ex:=bE 0 2
 .call 36 [0] 2 (.ite (qc 3) (.ah [(.b false)]) (.aa (az (.i 0) 2) (.aa (aB 2 (ao 0)) (.call 37 (kc a [0,1,2,3,4,5,6,7,8,9,10,11,12,13,14,15,16,17]) 10 (.ah [(az 4 1)])))))
def UU:FT 17 2 BC:=aJ (by kernel_rfl)
def pq:TL:=
 let a:Ex:= .i 0
 let b:TL:= .ah [3,a,a,a,a,a,a,a,a,.nil,.nil,(.b false)]
 let c:Ex:=bE 3 4
 .call 36 [3] 2 (.ite (qc 5) b (.call 16 [0,1,2,3] 1 (.ite (ib 6 a) b (.aa (az a 4) (.aa (aB 4 (ao 3)) (.call 38 ([0,1,2]++kc c [0,1,2,3,4,5,6,7,8,9,10,11,12,13,14,15,16,17]) 30 (.ite (qc 36) b (.call 39 [3] 1 (.aa (az a 4) (.aa (aB 4 (ao 37)) (.call 40 [(.t .mu 37 4 (dY [7,8,9,10,11,12,13,14,15,16,17,18,19,20,21,22,23,24] .nil)),34] 2 (.ite (ib 39 a) b (.ah [38,25,26,27,28,29,30,31,32,33,35,(.b true)])))))))))))))
def L6:FT 18 4 pq:=aJ (by kernel_rfl)
def wQ:TL:=
 let a:Ex:=bE 0 3
 let b:Ex:= .o .gx 2 (dY (kc a [0,1,2,3,4,5,6,7,8]++[(bE 1 3)]) .nil)
 let c:Ex:= .o .gx 2 (dY (kc a [0,1,2,3,4,5,6,7,8]++[.nil]) .nil)
 let d:Ex:=bE 4 5
 let e:Ex:= .o .gx 6 (dY (kc d [0,1,2,3,4,5,6,7,8]) .nil)
 let f:Ex:= .o .app 7 (bw 9 d)
 .loop [.nil,(.i 0)] (.ite (aB 3 (ao 0)) (.aa (az (.i 0) 3) (.aa (aB 3 (ao 0)) (.ite (aB 3 (ao 1)) (.aa (az (.i 0) 3) (.aa (aB 3 (ao 1)) (.aa (az (ao b) (.i 1256584717458)) (.next 0 [b,(eX 3)])))) (.aa (az (ao c) (.i 1256584717458)) (.next 0 [c,(eX 3)]))))) (.call 43000041 [2] 1 (.loop [(.i 0),.nil,.nil] (.ite (aB 5 (ao 4)) (.aa (az (.i 0) 5) (.aa (aB 5 (ao 4)) (.aa (az (ao e) (.i 1599289640401)) (.aa (az (ao f) (.i 2932031007402)) (.next 1 [(eX 5),e,f]))))) (.ah [6,7])))))
def N9:FT 19 2 wQ:=aJ (by kernel_rfl)
def sQ:TL:=
 let a:TL:= .ah [(.b false)]
 .call 45 [0,1,2,3,4,5,6,7,8,9,10,11,12,13,14,15,16,17] 1 (.ite (cn 18 (.i 0)) (.ite (cn 4 13) (.ite (cn 5 14) (.ite (cn 6 15) (.ite (cn 7 16) (.call 46 [8,17] 1 (.ah [19])) a) a) a) a) a)
def Jy:FT 20 18 sQ:=aJ (by kernel_rfl)
def nI:TL:=
 let a:Ex:= .i 0
 let b:Ex:=aB 6 (ao 7)
 let c:Ex:=bE 7 6
 let d:Ex:=bw 10 c
 let e:Ex:=bE d 9
 .call 22 [0,1,2,3] 1 (.ite (ib 4 a) (.ah [(.s []),.nil,.nil,.nil,4]) (.call 51 [2] 1 (.loop [a,5] (.ite (aB 6 (ao 5)) (.aa (az a 6) (.aa b (.call 30 [d] 1 (.aa (az a 6) (.aa b (.loop [a,8] (.ite (aB 9 (ao d)) (.aa (az a 9) (.aa (aB 9 (ao d)) (.call 52 ([0,1,2,3]++kc c [0,1,2,3,4,5,6,7,8,9,10,11,12]++kc e [0,1,2,3]) 1 (.call 53 [11,(bw 3 e)] 2 (.ite (ib 13 a) (.ah [(.s []),.nil,.nil,.nil,13]) (.aa (az a 6) (.aa b (.aa (az a 9) (.aa (aB 9 (ao 10)) (.next 1 [(eX 9),(.t .mu 10 9 (dY (kc (bE 10 9) [0,1,2]++[12]) .nil))])))))))))) (.next 0 [(eX 6),(.t .mu 7 6 (dY (kc c [0,1,2,3,4,5,6,7,8,9]++[10,(bw 11 c),(bw 12 c)]) .nil))])))))))) (.ah [0,.nil,7,3,a])))))
def Jz:FT 29 4 nI:=aJ (by kernel_rfl)
def eK:TL:=
 let a:Ex:= .i 0
 let b:Ex:= .s []
 let c:TL:= .ah [b,a,a,.nil,(.i 2)]
 let d:Ex:=ao (bw 10 (bE 2 4))
 let e:Ex:=bE (bw 10 (bE 2 4)) 5
 let f:Ex:= .o .gx 8 (dY [(.i 19),a,a,a,a,b,a,.nil,a,b,a,.nil,.nil,a,a,a,a,.nil,.nil,(.b false)] .nil)
 .call 22 [0,1,2,3] 1 (.ite (ib 6 a) (.ah [b,a,a,.nil,6]) (.ite (aB 4 a) c (.ite (az (ao 2) 4) c (.ite (aB 5 a) c (.aa (az a 4) (.aa (aB 4 (ao 2)) (.ite (az d 5) c (.aa (az a 4) (.aa (aB 4 (ao 2)) (.aa (az a 5) (.aa (aB 5 d) (.call 54 [(dY [(bw 1 e),(bw 2 e)] .nil)] 1 (.call 55 [0,1,2,3,4,7,(bw 3 e)] 2 (.ite (ib 9 a) (.ah [b,a,a,.nil,9]) (.aa (az (ao f) (.i 549755813888)) (.ite (aB (.i 1000) (ao f)) (.ah [b,a,a,.nil,(.i 6)]) (.ah [(bw 0 e),(ao (bw 1 e)),(ao 7),f,a])))))))))))))))))
def tG:FT 31 6 eK:=aJ (by kernel_rfl)
def uF:TL:=
 .loop [(.i 0)] (.ite (aB 5 (ao 2)) (.aa (az (.i 0) 5) (.aa (aB 5 (ao 2)) (.ite (.o .seq (bw 0 (bE 2 5)) 4) (.ah [5]) (.next 0 [(eX 5)])))) (.ah [(.i (-1))]))
def L3:FT 32 5 uF:=aJ (by kernel_rfl)
def po:TL:=
 let a:Ex:= .i 0
 let b:Ex:=bE 1 4
 let c:Ex:=bw 0 b
 let d:Ex:=aB 8 (ao (bw 13 (bE 1 7)))
 let e:Ex:=bE (bw 13 (bE 1 7)) 8
 .call 58 [0] 1 (.ite (ib 3 a) (.ah [3]) (.ite (cn (ao 1) a) (.ah [(.i 7)]) (.ite (aB (.i 16) (ao 1)) (.ah [(.i 6)]) (.loop [a,.nil] (.ite (aB 4 (ao 1)) (.aa (az a 4) (.aa (aB 4 (ao 1)) (.call 47 [0,.nil,(dY [(dY (kc b [0,1,2,3,4,5,6,7,8,9,10,11,12]) .nil)] .nil),.nil] 1 (.ite (ib 6 a) (.ah [6]) (.ite (.o (.mem 0) 5 c) (.ah [(.i 4)]) (.call 59 (kc b [0,1,2,3,4,5,6,7,8,9,10,11,12,13]) 1 (.ite (qc 7) (.ah [(.i 8)]) (.next 0 [(eX 4),(.o (.BS 0) 5 c)])))))))) (.call 60 [0,1,2] 1 (.ite (ib 6 a) (.ah [6]) (.loop [a] (.ite (aB 7 (ao 1)) (.aa (az a 7) (.aa (aB 7 (ao 1)) (.loop [a] (.ite d (.aa (az a 8) (.aa d (.call 61 ([0,1,2,7]++kc e [0,1,2,3]) 1 (.ite (ib 9 a) (.ah [9]) (.next 2 [(eX 8)]))))) (.next 1 [(eX 7)]))))) (.ah [a]))))))))))
def L1:FT 33 3 po:=aJ (by kernel_rfl)
def ue:TL:=
 let a:Ex:= .i 0
 let b:TL:= .ah [a,a,a,.nil,.nil,a,.nil,.nil,.nil,.nil,.nil,.nil,.nil,.nil,.nil,.nil,.nil,a,(.i 2)]
 let c:Ex:=bE 1 3
 let d:Ex:=ao (bw 5 c)
 let e:Ex:= .i 16777216
 let f:Ex:=ao (bw 7 c)
 let g:Ex:=ao (bw 9 c)
 let h:Ex:=ao (bw 10 c)
 let j:EL:=[a,.nil]
 let k:Ex:=aB 7 (ao (bw 1 c))
 let l:Ex:= .o .gx 8 (bw 2 (bE (bw 1 c) 7))
 let m:Ex:= .i 1
 let n:Ex:=aB 9 (ao (bw 2 c))
 let p:Ex:=bE (bw 2 c) 9
 let q:Ex:= .o .gx 10 (dY [12,13,14,15,16] .nil)
 let r:Ex:=aB 11 (ao (bw 3 c))
 let u:Ex:= .o .gx 12 (dY [13,14,15,16,17,18,19] .nil)
 let w:Ex:=aB 13 (ao (bw 4 c))
 let x:Ex:= .o .gx 14 (dY [15,16,17,18] .nil)
 let y:Ex:=aB 15 (ao (bw 6 c))
 let z:Ex:=bw 0 c
 let A:Ex:= .o .gx 16 (dY [21,22,23] .nil)
 let B:Ex:= .o .gx 16 (dY [18,19,20] .nil)
 let C:Ex:= .o .gx 18 (dY [19,20,21,22,23,24] .nil)
 let D:Ex:=aB 30 (ao (bw 11 c))
 let E:Ex:= .b false
 let F:Ex:=aB 34 (ao (bw 2 c))
 let G:Ex:=bE (bw 2 c) 34
 .call 33 [0,1,2] 1 (.ite (ib 6 a) (.ah [a,a,a,.nil,.nil,a,.nil,.nil,.nil,.nil,.nil,.nil,.nil,.nil,.nil,.nil,.nil,a,6]) (.ite (aB 3 a) b (.ite (az (ao 1) 3) b (.ite (aB 4 a) b (.ite (aB (.i 1000000000000) 4) b (.aa (az a 3) (.aa (aB 3 (ao 1)) (.aa (az a d) (.aa (az d e) (.aa (az a f) (.aa (az f e) (.aa (az a g) (.aa (az g g) (.aa (az g e) (.aa (az a h) (.aa (az h h) (.aa (az h e) (.aa (az a h) (.aa (az h h) (.aa (az h e) (.loop j (.ite k (.aa (az a 7) (.aa k (.aa (az (ao l) (.i 17592186044416)) (.next 0 [(eX 7),l])))) (.loop j (.ite n (.aa (az a 9) (.aa n (.call 63 (kc p [0,1,2,3,4,5,6,7,8,9,10,11,12,13,14,15,16]++[a]) 1 (.call 62 [11] 6 (.aa (az (ao q) (.i 1954687338268)) (.next 1 [(eX 9),q])))))) (.loop j (.ite r (.aa (az a 11) (.aa r (.call 64 [(bw 1 (bE (bw 3 c) 11)),(bw 2 (bE (bw 3 c) 11))] 8 (.aa (az (ao u) (.i 1353245080339)) (.next 2 [(eX 11),u]))))) (.loop j (.ite w (.aa (az a 13) (.aa w (.call 65 [(bw 1 (bE (bw 4 c) 13)),(bw 2 (bE (bw 4 c) 13))] 5 (.aa (az (ao x) (.i 2932031007402)) (.next 3 [(eX 13),x]))))) (.loop j (.ite y (.aa (az a 15) (.aa y (.call 67 [z,(bE (bw 6 c) 15)] 1 (.call 66 [4,17] 3 (.ite 5 (.call 68 [18,19,20] 3 (.aa (az (ao A) (.i 5864062014805)) (.next 4 [(eX 15),A]))) (.aa (az (ao B) (.i 5864062014805)) (.next 4 [(eX 15),B]))))))) (.loop j (.ite (aB 17 (ao (bw 8 c))) (.call 69 [a,a] 7 (.aa (az (ao C) (.i 2932031007402)) (.next 5 [(eX 17),C]))) (.call 115 [8] 1 (.call 115 [(.o .Bp a g)] 1 (.call 116 [10] 1 (.call 117 [12] 1 (.call 118 [14] 1 (.call 119 [(.o .Bp .nil d)] 1 (.call 120 [16] 1 (.call 121 [(.o .Bp (dY [a,a,a,a,a] .nil) f)] 1 (.call 122 [18] 1 (.call 115 [(.o .Bp a h)] 1 (.call 115 [(.o .Bp a h)] 1 (.aa (az a 3) (.aa (aB 3 (ao 1)) (.loop [a,a,a,.nil] (.ite D (.aa (az a 30) (.aa D (.call 71 [z,3,a,31,33,a,32,(.i (-1)),a,a,a,a,a,E,(.i 3),(bw 2 (bE (bw 11 c) 30)),30,a,.nil] 3 (.next 6 [(eX 30),34,36,35])))) (.loop [a,31,25,32,33] (.ite F (.aa (az a 34) (.aa F (.call 72 ([z,3,a,35,38,a,37,(.i (-1)),a,a,a,a,a,E,34]++kc G [0,1,2,3,4,5,6,7,8,9,10,11,12,13,14,15,16]) 3 (.call 73 ([36,z,(bw 6 c),3,a,39,40,a,41,(.i (-1)),a,a,a,a,a,E,34]++kc G [0,1,2,3,4,5,6,7,8,9,10,11,12,13,14,15,16]++[E]) 4 (.next 7 [(eX 34),43,42,45,44]))))) (.ah [3,a,35,38,.nil,a,19,21,22,23,24,36,26,27,20,28,29,37,a]))))))))))))))))))))))))))))))))))))))))))))))))))
def Qz:FT 34 6 ue:=aJ (by kernel_rfl)
end Go.Proofs.YtnfambhakdnncaaGreatDoor
