/-
  A part of the proof of TopIsolated: Kh2.
-/
import Derived.KernelRfl
import Derived.Test.YtnfambhakdnncaaGreatDoorZ06
namespace Go.Proofs.YtnfambhakdnncaaGreatDoor
set_option linter.all false
set_option maxRecDepth 1000000
set_option maxHeartbeats 80000000
open List Nat Int Go.RowKit
def pp:TL:=
 let a:Ex:= .i 0
 let b:TL:= .ah [(.i 2)]
 let c:Ex:=bE 1 3
 let d:EL:=kc c [0,1,2,3,4,5,6,7,8,9,10,11,12]++[3,4,5,6,7,8,9,10,11,12,13,14,15,16,17,18,19,20]
 let e:TL:= .ah [(.i 8)]
 let f:Ex:=aB 30 (ao 18)
 let g:Ex:=az a 30
 .call 33 [0,1,2] 1 (.ite (ib 21 a) (.ah [21]) (.ite (aB 3 a) b (.ite (az (ao 1) 3) b (.ite (aB 4 a) b (.ite (aB (.i 1000000000) 4) b (.call 74 [5] 1 (.ite (qc 22) b (.call 74 [8] 1 (.ite (qc 23) b (.call 74 [20] 1 (.ite (qc 24) b (.aa (az a 3) (.aa (aB 3 (ao 1)) (.call 75 d 1 (.ite (qc 25) e (.call 76 [3,4,5,6,7,8,9,10,11,12,13,14,15,16,17,18,19,20] 1 (.ite (ib 26 a) (.ah [26]) (.call 77 d 1 (.ite (ib 27 a) (.ah [27]) (.call 78 (kc c [0,1,2,3,4,5,6,7,8,9,10,11,12,13]++[7]) 1 (.ite (ib 28 a) (.ah [28]) (.loop [a] (.ite (aB 29 (ao 7)) (.aa (az a 29) (.aa (aB 29 (ao 7)) (.ite (az 8 (bw 0 (bE 7 29))) e (.next 0 [(eX 29)])))) (.loop [a] (.ite f (.aa g (.aa f (.call 74 [(bE 18 30)] 1 (.ite (qc 31) e (.aa g (.aa (aB 30 (ao 19)) (.call 74 [(bE 19 30)] 1 (.ite (qc 32) e (.aa g (.aa f (.aa g (.aa (aB 30 (ao 19)) (.call 79 [7,30] 1 (.ite (ib (.o (.sub .i64) (bE 18 30) (bE 19 30)) 33) e (.next 1 [(eX 30)]))))))))))))))) (.ah [a]))))))))))))))))))))))))))
def L4:FT 35 21 pp:=aJ (by kernel_rfl)
def uG:TL:=
 let a:Ex:= .i 0
 let b:Ex:=bE 0 3
 let c:TL:= .next 0 [3,(.b true),(eX 3),13,14,15,16,17,18,19,20,21]
 let d:TL:= .next 0 [1,2,(eX 3),4,5,6,7,8,9,10,11,12]
 .loop [a,(.b false),a,a,a,a,a,a,a,a,a,.nil] (.ite (aB 3 (ao 0)) (.aa (az a 3) (.aa (aB 3 (ao 0)) (.call 37 (kc b [0,1,2,3,4,5,6,7,8,9,10,11,12,13,14,15,16,17]) 10 (.ite 22 (.ite (qc 2) c (.call 80 [13,14,15,16,17,18,19,20,21,4,5,6,7,8,9,10,11,12] 1 (.ite 23 c d))) d)))) (.ah [1,2]))
def L5:FT 36 1 uG:=aJ (by kernel_rfl)
def kW:TL:=
 let a:Ex:= .i 0
 let b:TL:= .ah [3,4,5,6,7,8,9,10,11,12,13,14,15,16,17,18,19,20,a,a,a,a,a,a,a,a,.nil,.nil,.nil,(.b false)]
 let c:Ex:=bE 1 3
 .call 81 [6] 11 (.ite (qc 31) b (.call 35 [0,1,2,3,4,5,6,7,8,9,10,11,12,13,14,15,16,17,18,19,20] 1 (.ite (ib 32 a) b (.call 115 [9] 1 (.call 115 [17] 1 (.call 116 [10] 1 (.call 117 [11] 1 (.call 118 [12] 1 (.call 119 [13] 1 (.call 120 [14] 1 (.call 121 [15] 1 (.call 122 [16] 1 (.call 115 [18] 1 (.call 115 [19] 1 (.aa (az a 3) (.aa (aB 3 (ao 1)) (.call 82 ([33,35,36,37,38,39,40,41,34,42,43,.nil,.nil]++kc c [0,1,2,3,4,5,6,7,8,9,10,11,12,13]++[3,4,5,30,7,8,20,(.i (-1)),a,a,.nil,a,a,a,(.b false),21,22,23,24,25,26,27,28,29]) 27 (.ah [3,57,58,59,60,61,44,45,46,47,48,49,50,51,52,53,54,62,21,22,23,24,25,26,27,28,29,55,56,(.b true)]))))))))))))))))))
def Oa:FT 38 21 kW:=aJ (by kernel_rfl)
def da:TL:=
 let a:Ex:= .i 0
 let b:Ex:=bE 1 3
 let c:Ex:=bw 4 b
 let d:TL:= .ah [.nil,(.i 2)]
 let e:Ex:=bE 4 c
 .call 39 [0] 1 (.loop [a,2] (.ite (aB 3 (ao 1)) (.aa (az a 3) (.aa (aB 3 (ao 1)) (.ite (aB c a) d (.ite (az (ao 4) c) d (.aa (az a c) (.aa (aB c (ao 4)) (.call 83 (kc e [0,1,2,3,4,5,6,7,8,9,10,11,12,13,14,15,16,17]++kc b [0,1,2,3,4,5,6,7,8]) 19 (.ite (ib 23 a) (.ah [.nil,23]) (.aa (az a c) (.aa (aB c (ao 4)) (.next 0 [(eX 3),(.t .mu 4 c (dY [5,6,7,8,9,10,11,12,13,14,15,16,17,18,19,20,21,22] .nil))]))))))))))) (.ah [4,a])))
def xh:FT 40 2 da:=aJ (by kernel_rfl)
def pn:TL:=
 .loop [(.i 0)] (.ite (aB 1 (ao 0)) (.aa (az (.i 0) 1) (.aa (aB 1 (ao 0)) (.ite (ib (bE 0 1) (.i 0)) (.ah [(bE 0 1)]) (.next 0 [(eX 1)])))) (.ah [(.i 0)]))
def L0:FT 43 1 pn:=aJ (by kernel_rfl)
def mL:TL:=
 let a:TL:= .ah [(.i (-1))]
 .call 85 [0] 1 (.call 85 [1] 1 (.ite 2 (.ite 3 (.ah [(.i 0)]) a) (.ite 3 (.ah [(.i 1)]) (.ite (aB 0 1) a (.ite (aB 1 0) (.ah [(.i 1)]) (.ah [(.i 0)]))))))
def B8:FT 44 2 mL:=aJ (by kernel_rfl)
def jv:TL:=
 .call 44 [0,9] 1 (.call 44 [1,10] 1 (.call 44 [2,11] 1 (.call 44 [3,12] 1 (.call 43 [(dY [18,19,20,21] .nil)] 1 (.ah [22])))))
def yj:FT 45 18 jv:=aJ (by kernel_rfl)
def jh:TL:=
 let a:TL:= .ah [(.b false)]
 .ite (ib (ao 0) (ao 1)) a (.loop [(.i 0)] (.ite (aB 2 (ao 0)) (.aa (az (.i 0) 2) (.aa (aB 2 (ao 0)) (.aa (az (.i 0) 2) (.aa (aB 2 (ao 1)) (.ite (ib (bE 0 2) (bE 1 2)) a (.next 0 [(eX 2)])))))) (.ah [(.b true)])))
def xG:FT 46 2 jh:=aJ (by kernel_rfl)
def nK:TL:=
 let a:Ex:= .i 0
 let b:TL:= .ah [(.i 6)]
 let c:Ex:=bw 0 (bE 1 5)
 let d:Ex:=ib 7 a
 let e:Ex:=aB (.i 16) (ao 2)
 let f:Ex:=bE 2 8
 let g:Ex:=bw 0 f
 let h:Ex:=ib 10 a
 let j:EL:=[0,1,2,3]
 let k:TL:= .ite h (.ah [10]) (.call 91 j 1 (.ah [11]))
 let l:TL:= .next 1 [(eX 8),9]
 let m:EL:=kc f [0,1,2,3,4,5,6,7,8,9,10,11,12]
 let n:TL:= .ite (ib 11 a) (.ah [11]) (.call 91 j 1 (.ah [12]))
 let p:TL:= .ah [(.i 4)]
 let q:TL:= .call 91 j 1 (.ah [10])
 let r:TL:= .next 0 [(eX 5),6]
 let u:EL:=[(bw 1 (bE 1 5))]
 let w:EL:=[(bw 1 (bE 1 5)),(bw 2 (bE 1 5))]
 let x:Ex:=bE 2 7
 let y:Ex:=bw 0 x
 let z:Ex:=ib 9 a
 let A:TL:= .next 1 [(eX 7),8]
 let B:EL:=kc x [0,1,2,3,4,5,6,7,8,9,10,11,12]
 .call 58 [0] 1 (.ite (ib 4 a) (.ah [4]) (.ite (aB (.i 32) (ao 1)) b (.loop [a,.nil] (.ite (aB 5 (ao 1)) (.aa (az a 5) (.aa (aB 5 (ao 1)) (.call 58 [c] 1 (.ite d (.ite d (.ite d (.ite d (.ah [7]) (.ite (cn (ao 2) a) (.ah [(.i 7)]) (.ite e b (.loop [a,.nil] (.ite (aB 8 (ao 2)) (.aa (az a 8) (.aa (aB 8 (ao 2)) (.call 58 [g] 1 (.ite h (.ite h (.ite h k l) (.call 90 m 1 (.ite (ib 11 a) n l))) (.ite (.o (.mem 0) 9 g) p (.call 90 m 1 (.ite (ib 11 a) n (.next 1 [(eX 8),(.o (.BS 0) 9 g)])))))))) q))))) r) (.call 239 u 1 (.ite (qc 8) (.ah [(.i 1)]) (.call 240 w 1 (.ite (qc 9) (.ah [(.i 2)]) r))))) (.ite (.o (.mem 0) 6 c) p (.call 239 u 1 (.ite (qc 8) (.ah [(.i 1)]) (.call 240 w 1 (.ite (qc 9) (.ah [(.i 2)]) (.next 0 [(eX 5),(.o (.BS 0) 6 c)])))))))))) (.ite (cn (ao 2) a) (.ah [(.i 7)]) (.ite e b (.loop [a,.nil] (.ite (aB 7 (ao 2)) (.aa (az a 7) (.aa (aB 7 (ao 2)) (.call 58 [y] 1 (.ite z (.ite z (.ite z (.ite z (.ah [9]) q) A) (.call 90 B 1 (.ite h k A))) (.ite (.o (.mem 0) 8 y) p (.call 90 B 1 (.ite h k (.next 1 [(eX 7),(.o (.BS 0) 8 y)])))))))) (.call 91 j 1 (.ah [9]))))))))))
def JE:FT 47 4 nK:=aJ (by kernel_rfl)
def mt:TL:=
 let a:Ex:=bE 2 4
 .call 92 [6] 1 (.ite (ib 7 (.i 0)) (.ah [7]) (.ite (aB 4 (.i 0)) (.ah [(.i 2)]) (.ite (az (ao 2) 4) (.ah [(.i 2)]) (.aa (az (.i 0) 4) (.aa (aB 4 (ao 2)) (.call 93 ([0,1,2,3,4,1,5]++kc a [0,1,2,3,4,5,6,7,8,9,10,11,12]++[6]) 1 (.ah [8])))))))
def Hg:FT 48 7 mt:=aJ (by kernel_rfl)
def J9:TL:=
 let a:Ex:= .i 0
 let b:Ex:=bw 0 (bE 22 23)
 let c:TL:= .ah [22]
 let d:Ex:= .i 1
 let e:Ex:=ao 27
 let f:Ex:=az a 26
 let g:Ex:=bE 27 26
 let h:TL:= .next 2 [25,(eX 26),27]
 let j:Ex:= .s [118,97,114]
 let k:TL:= .call 98 [4,5,6,7,8,9,10,11,12,13,14,15,16,(bw 0 g)] 1 (.ite (qc (.o .seq 29 j)) (.aa (az a 25) (.aa (aB 25 e) (.next 2 [(eX 25),(eX 26),(.t .mu 27 25 (dY (kc g [0,1,2]) .nil))]))) h)
 let l:Ex:=dY [(.s []),a,a] .nil
 let m:Ex:= .o (.sub .i64) e 25
 let n:Ex:= .o .app (.t .iM 27 a 25) (.o .app (.o .Bp l m) (.t .iM 27 (.o (.add .i64) 25 m) e))
 let p:Ex:=ao 28
 let q:Ex:=bE 28 27
 let r:TL:= .next 2 [26,(eX 27),28]
 let u:TL:= .call 98 [4,5,6,7,8,9,10,11,12,13,14,15,16,(bw 0 q)] 1 (.ite (qc (.o .seq 30 j)) (.aa f (.aa (aB 26 p) (.next 2 [(eX 26),(eX 27),(.t .mu 28 26 (dY (kc q [0,1,2]) .nil))]))) r)
 let w:Ex:= .o (.sub .i64) p 26
 let x:Ex:= .o .app (.t .iM 28 a 26) (.o .app (.o .Bp l w) (.t .iM 28 (.o (.add .i64) 26 w) p))
 let y:TL:= .call 98 [4,5,6,7,8,9,10,11,12,13,14,15,16,b] 1 (.ite (.o .seq 25 j) (.ite (cn 23 (.i (-1))) c (.loop [23,(eX 23),22] (.ite (aB 27 p) (.aa (az a 27) (.aa (aB 27 p) (.loop [a] (.ite (aB 29 (ao 21)) (.aa (az a 29) (.aa (aB 29 (ao 21)) (.ite (.o .seq (bw 0 (bE 21 29)) (bw 0 q)) (.ite (az a 29) r u) (.next 3 [(eX 29)])))) u)))) (.aa f (.aa (az 26 p) (.aa (az p p) (.aa f (.aa (az 26 (ao x)) (.ah [(.t .iM x a (.o (.add .i64) a (.o (.sub .i64) 26 a)))]))))))))) (.next 0 [(eX 23)]))
 .call 54 [(dY [18,19] .nil)] 1 (.call 23 [1] 1 (.loop [a] (.ite (aB 23 (ao 22)) (.aa (az a 23) (.aa (aB 23 (ao 22)) (.loop [a] (.ite (aB 24 (ao 21)) (.aa (az a 24) (.aa (aB 24 (ao 21)) (.ite (.o .seq (bw 0 (bE 21 24)) b) (.ite (az a 24) (.ite (cn 23 (.i (-1))) c (.loop [23,(eX 23),22] (.ite (aB 26 e) (.aa f (.aa (aB 26 e) (.loop [a] (.ite (aB 28 (ao 21)) (.aa (az a 28) (.aa (aB 28 (ao 21)) (.ite (.o .seq (bw 0 (bE 21 28)) (bw 0 g)) (.ite (az a 28) h k) (.next 3 [(eX 28)])))) k)))) (.aa (az a 25) (.aa (az 25 e) (.aa (az e e) (.aa (az a 25) (.aa (az 25 (ao n)) (.ah [(.t .iM n a (.o (.add .i64) a (.o (.sub .i64) 25 a)))]))))))))) y) (.next 1 [(eX 24)])))) y)))) c)))
def B7:FT 52 21 J9:=aJ (by kernel_rfl)
def il:TL:=
 let a:Ex:=bE 1 3
 let b:Ex:= .o .gx 2 (dY [4,5,6,7,8,9,10,11,12,13,14,15,16,17,18,19,20,21,22,23,24] .nil)
 .loop [.nil,(.i 0)] (.ite (aB 3 (ao 1)) (.aa (az (.i 0) 3) (.aa (aB 3 (ao 1)) (.call 99 ([0]++kc a [0,1,2,3,4,5,6,7,8,9,10,11,12,13,14,15,16,17,18,19,20]) 22 (.ite (ib 25 (.i 0)) (.ah [.nil,25]) (.aa (az (ao b) (.i 451081693446)) (.next 0 [b,(eX 3)])))))) (.ah [2,(.i 0)]))
def AY:FT 53 2 il:=aJ (by kernel_rfl)
def kF:TL:=
 let a:Ex:= .i 0
 let b:Ex:= .o (.add .i64) 1 (ao (bE 0 2))
 let c:Ex:= .o (.sub .i64) 1 a
 let d:Ex:= .o .app 3 (bE 0 4)
 let e:TL:= .loop [.nil,a] (.ite (aB 4 (ao 0)) (.aa (az a 4) (.aa (aB 4 (ao 0)) (.aa (az (ao d) (.i 5864062014805)) (.next 1 [d,(eX 4)])))) (.ah [3]))
 .loop [a,a] (.ite (aB 2 (ao 0)) (.aa (az a 2) (.aa (aB 2 (ao 0)) (.ite (aB b a) (.fail "op") (.next 0 [b,(eX 2)])))) (.ite (aB 1 a) (.fail "op") (.ite (aB a c) (.aa (az a c) (.aa (az c (.i 5864062014805)) e)) e)))
def tf:FT 54 1 kF:=aJ (by kernel_rfl)
def fQ:TL:=
 let a:Ex:=bE 2 4
 .call 48 [0,1,2,3,4,5,6] 1 (.ite (ib 7 (.i 0)) (.ah [.nil,7]) (.aa (az (.i 0) 4) (.aa (aB 4 (ao 2)) (.call 101 ([0,1,2,3,1,5]++kc a [0,1,2,3,4,5,6,7,8,9,10,11,12]++[(.i 0),6]) 2 (.ite (ib 9 (.i 0)) (.ah [.nil,9]) (.ah [8,(.i 0)]))))))
def xg:FT 55 7 fQ:=aJ (by kernel_rfl)
def nJ:TL:=
 let a:TL:= .ah [(.b false)]
 let b:Ex:=bE 10 14
 .ite (ib (ao 13) (ao 10)) a (.loop [(.i 0)] (.ite (aB 14 (ao 13)) (.aa (az (.i 0) 14) (.aa (aB 14 (ao 13)) (.aa (az (.i 0) 14) (.aa (aB 14 (ao 10)) (.ite (.o .seq (bw 0 (bE 13 14)) (bw 0 b)) (.ite (cn (bw 1 (bE 13 14)) (ao (bw 1 b))) (.ite (qc (cn (ao (bw 3 b)) (.i 0))) a (.next 0 [(eX 14)])) a) a))))) (.ah [(.b true)])))
def JA:FT 59 14 nJ:=aJ (by kernel_rfl)
def jg:TL:=
 let a:Ex:=bw 0 (bE 2 3)
 let b:Ex:=bw 1 (bE 2 3)
 let c:TL:= .ah [(.i 2)]
 let d:TL:= .ite (.o (.mem 3) 4 (dY [a,b] .nil)) (.ah [(.i 4)]) (.next 0 [(eX 3),(.o (.BS 3) 4 (dY [a,b] .nil))])
 .ite (aB (.i 32) (ao 2)) (.ah [(.i 6)]) (.loop [(.i 0),.nil] (.ite (aB 3 (ao 2)) (.aa (az (.i 0) 3) (.aa (aB 3 (ao 2)) (.ite (aB (.o .min a b) (.i 0)) c (.ite (az (ao 1) (.o .max a b)) c (.ite (cn a b) (.ite (cn a b) c d) (.ite (aB (bw 2 (bE 2 3)) (.i 1)) c (.ite (aB (.i 1000000000) (bw 2 (bE 2 3))) c d))))))) (.ah [(.i 0)])))
def EB:FT 60 3 jg:=aJ (by kernel_rfl)
def mo:TL:=
 let a:Ex:= .i 0
 let b:TL:= .ah [(.i 2)]
 let c:Ex:=ao 7
 let d:Ex:=bE 7 9
 let e:Ex:= .o (.sub .i64) c (.i 1)
 .ite (aB 3 a) b (.ite (az (ao 1) 3) b (.call 58 [4] 1 (.ite (ib 8 a) (.ah [8]) (.ite (aB 5 a) b (.ite (aB 6 5) b (.ite (aB (.i 6) 5) b (.ite (aB (.i 16) 6) b (.ite (cn c a) (.ah [(.i 7)]) (.ite (aB (.i 1000) c) (.ah [(.i 6)]) (.loop [a] (.ite (aB 9 c) (.aa (az a 9) (.aa (aB 9 c) (.call 106 ([0,1,2,3,4,5,6,7]++kc d [0,1,2,3,4,5,6,7,8,9,10,11,12,13,14,15,16,17,18,19]) 1 (.ite (ib 10 a) (.ah [10]) (.next 0 [(eX 9)]))))) (.aa (az a e) (.aa (aB e c) (.ite (ib (bw 0 (bE 7 e)) (.i 19)) (.ite (ib (bw 0 (bE 7 e)) (.i 4)) (.ah [(.i 8)]) (.ah [a])) (.ah [a])))))))))))))))
def Hd:FT 61 8 mo:=aJ (by kernel_rfl)
def mq:TL:=
 let a:Ex:=bE 3 19
 .call 128 [3] 1 (.ite (ib 18 (.i 0)) (.ah [18]) (.loop [(.i 0)] (.ite (aB 19 (ao 3)) (.aa (az (.i 0) 19) (.aa (aB 19 (ao 3)) (.call 129 ([0,1,2,3,4,5,6,7,8,9,10,11,12,13,14,15,16,17]++kc a [0,1,2,3,4,5,6,7,8]) 1 (.ite (qc 20) (.ah [(.i 1)]) (.ite (aB (bw 0 a) 1) (.ah [(.i 12)]) (.next 0 [(eX 19)])))))) (.ah [(.i 0)]))))
def Hf:FT 76 18 mq:=aJ (by kernel_rfl)
def kU:TL:=
 let a:Ex:=bE 14 15
 let b:Ex:= .o (.sub .i64) 15 (.i 1)
 let c:TL:= .next 0 [(eX 15)]
 .ite (aB (.i 300) (ao 14)) (.ah [(.i 6)]) (.loop [(.i 0)] (.ite (aB 15 (ao 14)) (.aa (az (.i 0) 15) (.aa (aB 15 (ao 14)) (.call 135 ([0,1,2,3,4,5,6,7,8,9,10,11,12,13]++kc a [0,1,2,3,4,5,6]) 1 (.ite (ib 16 (.i 0)) (.ah [16]) (.ite (aB (.i 0) 15) (.aa (az (.i 0) b) (.aa (aB b (ao 14)) (.ite (az (bw 0 a) (bw 0 (bE 14 b))) (.ah [(.i 12)]) c))) c))))) (.ah [(.i 0)])))
def Fo:FT 78 15 kU:=aJ (by kernel_rfl)
def sP:TL:=
 .call 45 [0,1,2,3,4,5,6,7,8,9,10,11,12,13,14,15,16,17] 1 (.ah [(aB 18 (.i 0))])
def Jw:FT 80 18 sP:=aJ (by kernel_rfl)
def nH:TL:=
 let a:Ex:=ao 0
 let b:Ex:= .i 0
 let c:TL:= .ah [b,b,b,b,b,b,b,b,.nil,.nil,(.b false)]
 let d:Ex:=bE 0 b
 .ite (cn a b) c (.call 128 [0] 1 (.ite (ib 1 b) c (.aa (aB b a) (.aa (az (.i 1) a) (.aa (az a a) (.ah (kc d [0,1,2,3,4,5,6,7,8]++[(.t .iM 0 (.i 1) (.o (.add .i64) (.i 1) (.o (.sub .i64) a (.i 1)))),(.b true)])))))))
def Jx:FT 81 1 nH:=aJ (by kernel_rfl)
def oR:TL:=
 .ah [(ib 0 0)]
def Fl:FT 85 1 oR:=aJ (by kernel_rfl)
def fH:TL:=
 let a:Ex:=bE 20 21
 .loop [(.i 0)] (.ite (aB 21 (ao 20)) (.aa (az (.i 0) 21) (.aa (aB 21 (ao 20)) (.call 185 ([0,1,2,3,4,5,6,7,8,9,10,11,12,13,14,15,16,17,18,19]++kc a [0,1,2,3,4,5,6,7,8,9,10,11,12,13,14,15,16,17,18,19,20]) 1 (.ite (ib 22 (.i 0)) (.ah [22]) (.call 93 [0,1,2,3,4,5,6,7,8,9,10,11,12,13,14,15,16,17,18,19,(bw 19 a)] 1 (.ite (ib 23 (.i 0)) (.ah [23]) (.call 93 [0,1,2,3,4,5,6,7,8,9,10,11,12,13,14,15,16,17,18,19,(bw 20 a)] 1 (.ite (ib 24 (.i 0)) (.ah [24]) (.next 0 [(eX 21)]))))))))) (.ah [(.i 0)]))
def xI:FT 93 21 fH:=aJ (by kernel_rfl)
def im:TL:=
 let a:Ex:= .i 0
 let b:Ex:= .s []
 let c:Ex:= .b false
 let d:Ex:=bE 12 34
 let e:Ex:= .o .gx 33 (dY [35,36,37,38] .nil)
 .call 188 [0,4,5,6,7] 5 (.ite (ib 26 a) (.ah [a,b,b,a,b,a,.nil,a,b,a,.nil,.nil,a,a,a,a,.nil,.nil,c,.nil,.nil,26]) (.call 188 [0,8,9,10,11] 5 (.ite (ib 31 a) (.ah [a,b,b,a,b,a,.nil,a,b,a,.nil,.nil,a,a,a,a,.nil,.nil,c,.nil,.nil,31]) (.loop [31,.nil,a] (.ite (aB 34 (ao 12)) (.aa (az a 34) (.aa (aB 34 (ao 12)) (.call 188 ([0]++kc d [0,1,2,3]) 5 (.ite (ib 39 a) (.ah [a,b,b,a,b,a,.nil,a,b,a,.nil,.nil,a,a,a,a,.nil,.nil,c,.nil,.nil,39]) (.aa (az (ao e) (.i 2513169434916)) (.next 0 [39,e,(eX 34)])))))) (.call 53 [0,20] 2 (.ite (ib 36 a) (.ah [a,b,b,a,b,a,.nil,a,b,a,.nil,.nil,a,a,a,a,.nil,.nil,c,.nil,.nil,36]) (.call 53 [0,21] 2 (.ite (ib 38 a) (.ah [a,b,b,a,b,a,.nil,a,b,a,.nil,.nil,a,a,a,a,.nil,.nil,c,.nil,.nil,38]) (.ah [1,2,3,22,23,24,25,27,28,29,30,33,13,14,15,16,17,18,19,35,37,a]))))))))))
def AZ:FT 99 22 im:=aJ (by kernel_rfl)
end Go.Proofs.YtnfambhakdnncaaGreatDoor
