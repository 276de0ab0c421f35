/-
  A part of the proof of TopIsolated: Kh3.
-/
import Derived.KernelRfl
import Derived.Test.YtnfambhakdnncaaGreatDoorZ07
namespace Go.Proofs.YtnfambhakdnncaaGreatDoor
set_option linter.all false
set_option maxRecDepth 1000000
set_option maxHeartbeats 80000000
open List Nat Int Go.RowKit
def jG:TL:=
 let a:Ex:=bE 20 22
 .loop [.nil,(.i 0),19] (.ite (aB 22 (ao 20)) (.aa (az (.i 0) 22) (.aa (aB 22 (ao 20)) (.call 190 ([0,1,2,3,4,5,6,7,8,9,10,11,12,13,14,15,16,17,18,23]++kc a [0,1,2,3,4,5,6,7,8,9,10,11,12,13,14,15,16,17,18,19,20]) 2 (.call 189 [24,(ao 21)] 1 (.aa (az (ao (.o .app 21 26)) (.i 549755813888)) (.next 0 [(.o .app 21 26),(eX 22),25])))))) (.ah [21,23]))
def yk:FT 101 21 jG:=aJ (by kernel_rfl)
def ft:TL:=
 let a:EL:=[8,9,10,11,12,13,14,15,16,17,18,19,20,21,22,23,24,25,26,27]
 let b:Ex:= .i 0
 let c:Ex:=bE Dz 8
 let d:TL:= .ah [(.i 2)]
 let e:Ex:=bE 34 35
 let f:EL:=[21,22,23,24,25,26]
 let g:TL:= .ah [b]
 let h:Ex:=bE 32 33
 let j:TL:= .call 195 a 1 (.loop [b] (.ite (aB 33 (ao 32)) (.aa (az b 33) (.aa (aB 33 (ao 32)) (.call 196 (kc h [0,1,2,3]) 1 (.ite (ib 34 b) (.ah [34]) (.call 197 ([0,1,2,3,4,5,6,7]++kc h [0,1,2,3]) 1 (.ite (qc 35) d (.next 0 [(eX 33)]))))))) (.ite (bw 7 c) (.call 198 f 1 (.ah [34])) g)))
 let k:Ex:=bE 31 32
 let l:TL:= .ite (cn 8 (.i 14)) (.call 194 [0,1,2,3,9] 2 (.ite (qc 32) (.ah [(.i 16)]) (.ite (ib 31 11) (.ah [(.i 16)]) (.call 193 [0,1,2,3,4,5,6,7,(.i 10),10,9] 1 (.ite (qc 33) d (.aa (az b 9) (.aa (aB 9 (ao 1)) (.aa (az b 10) (.aa (aB 10 (ao (bw 13 (bE 1 9)))) (.ite (ib (ao 20) (bw 1 (bE (bw 13 (bE 1 9)) 10))) (.ah [(.i 8)]) (.call 195 a 1 (.loop [b] (.ite (aB 35 (ao 34)) (.aa (az b 35) (.aa (aB 35 (ao 34)) (.call 196 (kc e [0,1,2,3]) 1 (.ite (ib 36 b) (.ah [36]) (.call 197 ([0,1,2,3,4,5,6,7]++kc e [0,1,2,3]) 1 (.ite (qc 37) d (.next 0 [(eX 35)]))))))) (.ite (bw 7 c) (.call 198 f 1 (.ah [36])) g)))))))))))))) (.ite (cn 8 (.i 15)) (.call 193 [0,1,2,3,4,5,6,7,(.i 10),10,3] 1 (.ite (qc 31) d (.aa (az b 3) (.aa (aB 3 (ao 1)) (.aa (az b 10) (.aa (aB 10 (ao (bw 13 (bE 1 3)))) (.ite (ib (ao 20) (bw 1 (bE (bw 13 (bE 1 3)) 10))) (.ah [(.i 8)]) j))))))) (.ite (ib (bw 2 c) b) (.call 193 [0,1,2,3,4,5,6,7,(bw 2 c),10,b] 1 (.ite (qc 31) d j)) (.call 195 a 1 (.loop [b] (.ite (aB 32 (ao 31)) (.aa (az b 32) (.aa (aB 32 (ao 31)) (.call 196 (kc k [0,1,2,3]) 1 (.ite (ib 33 b) (.ah [33]) (.call 197 ([0,1,2,3,4,5,6,7]++kc k [0,1,2,3]) 1 (.ite (qc 34) d (.next 0 [(eX 32)]))))))) (.ite (bw 7 c) (.call 198 f 1 (.ah [33])) g))))))
 .call 191 [8] 1 (.ite (qc 28) (.ah [(.i 1)]) (.call 192 a 1 (.ite (qc 29) (.ah [(.i 1)]) (.aa (az b 8) (.aa (aB 8 (ao Dz)) (.call 193 [0,1,2,3,4,5,6,7,(bw 1 c),9,b] 1 (.ite (qc 30) (.ite (ib (bw 1 c) b) d l) l)))))))
def A0:FT 106 28 ft:=aJ (by kernel_rfl)
def mn:TL:=
 let a:Ex:=bE 0 1
 let b:Ex:= .o (.sub .i64) 1 (.i 1)
 let c:Ex:=bE 0 b
 let d:TL:= .next 0 [(eX 1)]
 .ite (aB (.i 5000) (ao 0)) (.ah [(.i 6)]) (.loop [(.i 0)] (.ite (aB 1 (ao 0)) (.aa (az (.i 0) 1) (.aa (aB 1 (ao 0)) (.call 199 (kc a [0,1,2,3,4,5,6,7,8]) 1 (.ite (ib 2 (.i 0)) (.ah [2]) (.ite (aB (.i 0) 1) (.aa (az (.i 0) b) (.aa (aB b (ao 0)) (.call 80 (kc c [0,1,2,3,4,5,6,7,8]++kc a [0,1,2,3,4,5,6,7,8]) 1 (.ite (qc 3) (.ah [(.i 12)]) d)))) d))))) (.ah [(.i 0)])))
def Hc:FT 128 1 mn:=aJ (by kernel_rfl)
def oS:TL:=
 .ite (cn 22 0) (.ite (cn 20 0) (.ah [(.b true)]) (.ah [(cn 23 (.i 1))])) (.ah [(.b false)])
def Fp:FT 129 27 oS:=aJ (by kernel_rfl)
def qJ:TL:=
 .loop [(.i 0)] (.ite (aB 2 (ao 0)) (.aa (az (.i 0) 2) (.aa (aB 2 (ao 0)) (.ite (cn (bw 0 (bE 0 2)) 1) (.ah [2]) (.next 0 [(eX 2)])))) (.ah [(.i (-1))]))
def He:FT 139 2 qJ:=aJ (by kernel_rfl)
def fY:TL:=
 let a:EL:=[0,1,2,3,4,5,6,7,8,9,10,11,12,13,14,15,16,17,18,19,20,21,22,23,24,25,26,27,28,29,30,31,32,33,34,35,36,37,38,39,40]
 let b:TL:= .ah [41]
 let c:Ex:=dY [(.i 3)] .nil
 let d:TL:= .ah [42]
 let e:TL:= .call 255 [0,1,2,3,4,5,6,7,8,9,10,11,12,13,14,15,16,17,18,19,23,24,25,26,(dY [(.i 2)] .nil)] 1 b
 let f:Ex:= .s [114,101,115,111,117,114,99,101]
 let g:Ex:=dY [23,24,25,26] .nil
 let h:Ex:=dY [g] .nil
 let j:Ex:= .s [115,116,111,114,101]
 let k:Ex:= .s [113,117,101,117,101]
 let l:Ex:=bE 17 41
 let m:TL:= .ite (cn 20 (.i 5)) (.call 255 [0,1,2,3,4,5,6,7,8,9,10,11,12,13,14,15,16,17,18,19,23,24,25,26,c] 1 b) (.ite (cn 20 (.i 6)) (.call 256 [0,1,2,3,4,5,6,7,8,9,10,11,12,13,14,15,16,17,18,19,20,21,22,23,24,25,26,27,28,29,30,31,32,33,34,35,36,37,38,39,40,f,(dY [g,(dY [27,28,29,30] .nil)] .nil)] 1 b) (.ite (cn 20 (.i 7)) (.call 256 [0,1,2,3,4,5,6,7,8,9,10,11,12,13,14,15,16,17,18,19,20,21,22,23,24,25,26,27,28,29,30,31,32,33,34,35,36,37,38,39,40,f,h] 1 b) (.ite (cn 20 (.i 8)) (.call 256 [0,1,2,3,4,5,6,7,8,9,10,11,12,13,14,15,16,17,18,19,20,21,22,23,24,25,26,27,28,29,30,31,32,33,34,35,36,37,38,39,40,j,h] 1 b) (.ite (cn 20 (.i 9)) (.call 254 [0,1,2,3,4,5,6,7,8,9,10,11,12,13,14,15,16,17,18,19,21,j] 1 (.call 253 [0,1,2,3,4,5,6,7,8,9,10,11,12,13,14,15,16,17,18,19,22,41,(dY [(.i 1)] .nil)] 1 d)) (.ite (cn 20 (.i 10)) (.call 256 [0,1,2,3,4,5,6,7,8,9,10,11,12,13,14,15,16,17,18,19,20,21,22,23,24,25,26,27,28,29,30,31,32,33,34,35,36,37,38,39,40,(.s [98,101,108,116]),.nil] 1 b) (.ite (cn 20 (.i 11)) (.call 256 [0,1,2,3,4,5,6,7,8,9,10,11,12,13,14,15,16,17,18,19,20,21,22,23,24,25,26,27,28,29,30,31,32,33,34,35,36,37,38,39,40,k,.nil] 1 b) (.ite (cn 20 (.i 12)) (.call 256 [0,1,2,3,4,5,6,7,8,9,10,11,12,13,14,15,16,17,18,19,20,21,22,23,24,25,26,27,28,29,30,31,32,33,34,35,36,37,38,39,40,k,h] 1 b) (.ite (cn 20 (.i 13)) (.call 257 a 1 b) (.ite (cn 20 (.i 14)) (.call 243 [7,8,9,10,11,12,13,14,15,16,17,18,19,21] 1 (.ite (aB 41 (.i 0)) (.ah [(.i 5)]) (.aa (az (.i 0) 41) (.aa (aB 41 (ao 17)) (.call 258 ([0,1,2,3,4,5,6,7,8,9,10,11,12,13,14,15,16,17,18,19]++kc l [0,1,2,3]++[20,21,22,23,24,25,26,27,28,29,30,31,32,33,34,35,36,37,38,39,40]) 1 d))))) (.ite (cn 20 (.i 15)) (.call 254 [0,1,2,3,4,5,6,7,8,9,10,11,12,13,14,15,16,17,18,19,21,(.s [116,97,108,108,121])] 1 (.ite (qc 41) (.ah [(.i 5)]) (.call 255 [0,1,2,3,4,5,6,7,8,9,10,11,12,13,14,15,16,17,18,19,23,24,25,26,(dY [(.i 1)] c)] 1 d))) (.ite (cn 20 (.i 16)) (.call 256 [0,1,2,3,4,5,6,7,8,9,10,11,12,13,14,15,16,17,18,19,20,21,22,23,24,25,26,27,28,29,30,31,32,33,34,35,36,37,38,39,40,(.s [108,101,118,101,108]),h] 1 b) (.ite (cn 20 (.i 17)) (.call 256 [0,1,2,3,4,5,6,7,8,9,10,11,12,13,14,15,16,17,18,19,20,21,22,23,24,25,26,27,28,29,30,31,32,33,34,35,36,37,38,39,40,(.s [99,111,117,110,116]),h] 1 b) (.ah [(.i 0)])))))))))))))
 .ite (cn 20 (.i 1)) (.call 252 a 1 b) (.ite (cn 20 (.i 2)) (.call 254 [0,1,2,3,4,5,6,7,8,9,10,11,12,13,14,15,16,17,18,19,22,(.s [115,116,114,101,97,109])] 1 (.call 253 [0,1,2,3,4,5,6,7,8,9,10,11,12,13,14,15,16,17,18,19,21,41,(dY [(.i 1)] c)] 1 d)) (.ite (cn 20 (.i 3)) (.ite (cn 20 (.i 3)) e m) (.ite (cn 20 (.i 4)) e m)))
def ym:FT 185 41 fY:=aJ (by kernel_rfl)
def kT:TL:=
 let a:Ex:=az (.i 0) 3
 let b:Ex:=aB 3 (ao 4)
 let c:Ex:=bE 4 3
 let d:TL:= .aa a (.aa b (.aa a (.aa b (.next 0 [(eX 3),(.t .mu 4 3 (dY ([(bw 0 c),(.o (.add .i64) (bw 1 c) 1)]++kc c [2,3,4,5,6,7,8,9,10,11,12,13,14,15,16,17,18,19]) .nil))]))))
 .call 270 [0] 1 (.loop [(.i 0),2] (.ite (aB 3 (ao 2)) (.aa a (.aa b (.ite (cn (bw 0 c) (.i 4)) d (.aa a (.aa b (.ite (cn (bw 0 c) (.i 5)) d (.next 0 [(eX 3),4]))))))) (.ah [4])))
def Fm:FT 189 2 kT:=aJ (by kernel_rfl)
def cL:TL:=
 let a:EL:=[0,1,2,3,4,5,6,7,8,9,10,11,12,13,14,15,16,17,18,42,20,21,22,23,24,25,26,27,28,29,30,31,32,33,34,35,36,37,38,39,40]
 let b:TL:= .call 272 a 2 (.ah [43,44])
 let c:EL:=[0,1,2,3,4,5,6,7,8,9,10,11,12,13,14,15,16,17,18,42,21]
 let d:Ex:= .i 0
 let e:Ex:= .s []
 let f:Ex:=dY [(.b false)] .nil
 let g:Ex:=dY [d,d,d,d,.nil,.nil] f
 let h:Ex:=dY [d,e,d,.nil,.nil] g
 let j:Ex:= .o .max 41 d
 let k:Ex:=dY [d,d,e,d,.nil] h
 let l:TL:= .ite (cn 20 (.i 11)) (.ah [(dY [(dY [(.i 12),j,d] k)] .nil),42]) (.ah [(dY [(dY [(.i 11),j,d] k)] .nil),42])
 let m:EL:=[0,1,2,3,4,5,6,7,8,9,10,11,12,13,14,15,16,17,18,42,23,24,25,26]
 let n:Ex:=dY [d,d,43,44,45,46] h
 let p:Ex:=dY [j] n
 let q:TL:= .ite (cn 20 (.i 18)) (.ah [(dY [(dY [(.i 19),d,d] k)] .nil),42]) (.ite (cn 20 (.i 13)) (.call 275 a 21 (.ah [(dY [(dY [43,44,45,46,47,48,49,50,51,52,53,54,55,56,57,58,59,60,61,62] .nil)] .nil),63])) (.ite (cn 20 (.i 14)) (.call 243 [6,7,8,9,10,11,12,13,14,15,16,17,18,21] 1 (.call 276 m 5 (.call 277 [0,1,2,3,4,5,6,7,8,9,10,11,12,13,14,15,16,17,18,48,31] 2 (.ah [(dY [(dY [(.i 15),d,43,d,44,45,46,47,d,e,d,.nil,49] g)] .nil),50])))) (.ite (cn 20 (.i 5)) (.call 276 m 5 (.ah [(dY [(dY [(.i 6),d] n)] .nil),47])) (.ite (cn 20 (.i 6)) (.call 276 [0,1,2,3,4,5,6,7,8,9,10,11,12,13,14,15,16,17,18,42,27,28,29,30] 5 (.call 276 [0,1,2,3,4,5,6,7,8,9,10,11,12,13,14,15,16,17,18,47,23,24,25,26] 5 (.ah [(dY [(dY [(.i 7),j,d,d,48,49,50,51,43,44,45,46,.nil,d,d,d,d,.nil,.nil,38] .nil)] .nil),52]))) (.ite (cn 20 (.i 7)) (.call 276 m 5 (.ah [(dY [(dY [(.i 8)] p)] .nil),47])) (.ite (cn 20 (.i 8)) (.call 276 m 5 (.ah [(dY [(dY [(.i 9)] p)] .nil),47])) (.ite (cn 20 (.i 12)) (.call 276 m 5 (.ah [(dY [(dY [(.i 13)] p)] .nil),47])) (.ite (cn 20 (.i 15)) (.call 276 m 5 (.ah [(dY [(dY [(.i 16)] p)] .nil),47])) (.ite (cn 20 (.i 16)) (.call 276 m 5 (.ah [(dY [(dY [(.i 17)] p)] .nil),47])) (.ite (cn 20 (.i 17)) (.call 276 m 5 (.ah [(dY [(dY [(.i 18)] p)] .nil),47])) (.call 276 m 5 (.ah [(dY [(dY [d] p)] .nil),47]))))))))))))
 let r:TL:= .ite (cn 20 (.i 1)) (.call 273 c 2 (.ite (aB 43 d) (.call 274 [0,1,2,3,4,5,6,7,8,9,10,11,12,13,14,15,16,17,18,44,21] 2 (.call 276 [0,1,2,3,4,5,6,7,8,9,10,11,12,13,14,15,16,17,18,46,23,24,25,26] 5 (.ah [(dY [(dY [(.i 2),45,d,d,47,48,49,50] h)] .nil),51]))) (.call 276 [0,1,2,3,4,5,6,7,8,9,10,11,12,13,14,15,16,17,18,44,23,24,25,26] 5 (.ah [(dY [(dY [(.i 1),43,d,d,45,46,47,48] h)] .nil),49])))) (.ite (cn 20 (.i 2)) (.call 273 c 2 (.call 271 [0,1,2,3,4,5,6,7,8,9,10,11,12,13,14,15,16,17,18,44,22] 2 (.ah [(dY [(dY [(.i 3),43,45,d,d,e,d,.nil,d,e,d,.nil,.nil,32,33,34,35,36,37] f)] .nil),46]))) (.ite (cn 20 (.i 9)) (.call 273 [0,1,2,3,4,5,6,7,8,9,10,11,12,13,14,15,16,17,18,42,22] 2 (.ah [(dY [(dY [(.i 10),j,43] k)] .nil),44])) (.ite (cn 20 (.i 10)) (.ite (cn 20 (.i 10)) l q) (.ite (cn 20 (.i 11)) l q))))
 .call 271 [0,1,2,3,4,5,6,7,8,9,10,11,12,13,14,15,16,17,18,19,21] 2 (.ite (cn 20 (.i 3)) (.ite (cn 20 (.i 3)) b r) (.ite (cn 20 (.i 4)) b r))
def kg:FT 190 41 cL:=aJ (by kernel_rfl)
def ud:TL:=
 let a:Ex:=aB 5 (ao 2)
 let b:TL:= .ah [(.i 0),(.b false)]
 let c:TL:= .next 0 [(eX 5)]
 .loop [(.i 0)] (.ite a (.aa (az (.i 0) 5) (.aa a (.ite (cn (bw 0 (bE 2 5)) 3) (.ite (cn (bw 1 (bE 2 5)) 4) (.ite (aB 5 (.i 0)) b (.aa (az (.i 0) 5) (.aa a (.ah [(bw 2 (bE 2 5)),(.b true)])))) c) c))) b)
def Qy:FT 194 5 ud:=aJ (by kernel_rfl)
def uE:TL:=
 let a:Ex:= .i 0
 let b:Ex:= .i 1000000000
 let c:TL:= .ah [(.i 2)]
 let d:TL:= .ah [a]
 let e:Ex:=dY [1,2] .nil
 let f:TL:= .ite (qc (az 1 2)) c d
 .call 285 [0,1,2,3,4,5] 1 (.ite (qc 6) (.ah [(.i 1)]) (.ite (cn 0 (.i 1)) (.call 286 [a,b,(dY [1] .nil)] 1 (.ite (qc 7) c d)) (.ite (cn 0 (.i 2)) (.call 286 [a,b,e] 1 (.ite 7 f c)) (.ite (cn 0 (.i 4)) (.call 286 [(.i 1),(.i 20),(dY [3] .nil)] 1 (.ite 7 (.call 286 [a,(.i 1000000),e] 1 (.ite 8 f c)) c)) (.ite (cn 0 (.i 5)) (.call 286 [(.i 1),(.i 1000),e] 1 (.ite (qc 7) c d)) (.ite (cn 0 (.i 3)) (.ite (ib (ao 4) (ao 5)) (.ah [(.i 8)]) (.ite (cn (ao 4) a) (.ah [(.i 7)]) (.ite (aB (.i 20) (ao 4)) (.ah [(.i 6)]) (.call 286 [a,b,4] 1 (.ite 7 (.call 286 [(.i 1),(.i 1000),5] 1 (.ite (qc 8) c d)) c))))) c))))))
def L2:FT 198 6 uE:=aJ (by kernel_rfl)
def kD:TL:=
 let a:Ex:= .i 0
 let b:Ex:= .o (.add .i64) 1 (ao (bE 0 2))
 let c:Ex:= .o (.sub .i64) 1 a
 let d:Ex:= .o .app 3 (bE 0 4)
 let e:TL:= .loop [.nil,a] (.ite (aB 4 (ao 0)) (.aa (az a 4) (.aa (aB 4 (ao 0)) (.aa (az (ao d) (.i 3518437208883)) (.next 1 [d,(eX 4)])))) (.ah [3]))
 .loop [a,a] (.ite (aB 2 (ao 0)) (.aa (az a 2) (.aa (aB 2 (ao 0)) (.ite (aB b a) (.fail "op") (.next 0 [b,(eX 2)])))) (.ite (aB 1 a) (.fail "op") (.ite (aB a c) (.aa (az a c) (.aa (az c (.i 3518437208883)) e)) e)))
def te:FT 206 1 kD:=aJ (by kernel_rfl)
def sV:TL:=
 let a:Ex:= .i 0
 let b:TL:= .ah [a,a,a,.nil,a,a,a,(.i 2)]
 let c:Ex:=bE 13 14
 let d:TL:= .ah [a,a,a,.nil,a,a,a,(.i 8)]
 let e:Ex:=bw 2 c
 let f:Ex:=ao (.o .Bp a e)
 let g:Ex:= .o .min (ao 15) f
 .call 227 [14,(.o (.sub .i64) (ao 13) (.i 1))] 1 (.ite (qc 18) b (.aa (az a 14) (.aa (aB 14 (ao 13)) (.ite (cn (ao (bw 3 c)) a) d (.ite (aB e (bw 1 c)) d (.ite (aB (.i 16) e) d (.ite (ib (ao 15) (bw 1 c)) d (.call 228 [15] 1 (.ite (qc 19) b (.call 227 [16,(.i 1000000000000)] 1 (.ite (qc 20) b (.call 227 [17,(.i 1000000000)] 1 (.ite (qc 21) b (.aa (az a e) (.aa (az e e) (.aa (az e (.i 16777216)) (.ah [16,14,a,(.o .app (.t .iM 15 a g) (.t .iM (.o .Bp a e) g f)),(.i 1),17,a,a])))))))))))))))))
def JF:FT 229 18 sV:=aJ (by kernel_rfl)
def fI:TL:=
 let a:Ex:=bE 2 41
 let b:Ex:=bE (bw 10 a) 42
 .call 32 [0,1,2,3,22] 1 (.ite (aB 41 (.i 0)) (.ah [(.i 5)]) (.aa (az (.i 0) 41) (.aa (aB 41 (ao 2)) (.call 243 (kc a [0,1,2,3,4,5,6,7,8,9,10,11,12]++[21]) 1 (.ite (aB 42 (.i 0)) (.ah [(.i 5)]) (.call 319 [0,1,2,3,7,22] 2 (.ite (qc 44) (.ah [(.i 16)]) (.aa (az (.i 0) 41) (.aa (aB 41 (ao 2)) (.aa (az (.i 0) 42) (.aa (aB 42 (ao (bw 10 a))) (.call 258 ([0,1,2,3,4,5,6,7,8,9,10,11,12,13,14,15,16,17,18,19]++kc b [0,1,2,3]++[20,21,22,23,24,25,26,27,28,29,30,31,32,33,34,35,36,37,38,39,40]) 1 (.ah [45])))))))))))))
def xJ:FT 257 41 fI:=aJ (by kernel_rfl)
def iI:TL:=
 let a:Ex:= .i 0
 let b:Ex:=dY [a,(.s []),a,.nil,.nil,a,a,a,a,.nil,.nil,(.b false)] .nil
 let c:Ex:= .o .app (dY [(dY [(.i 5),a,a,a,41,42,43,44] b)] .nil) 48
 let d:Ex:= .i 549755813888
 let e:Ex:=dY [a,a,a,(.s []),a,.nil] b
 let f:Ex:= .o .gx c (dY [(.i 4),a] e)
 let g:Ex:=bE f a
 let h:Ex:=bE c a
 let j:Ex:=eX (ao c)
 let k:Ex:= .o .gx c (dY [(.i 4),(.o (.add .i64) j (ao 49))] e)
 let l:Ex:=bE k a
 let m:Ex:= .o .app (.t .mu k a (dY ([(bw 0 l),j]++kc l [2,3,4,5,6,7,8,9,10,11,12,13,14,15,16,17,18,19]) .nil)) 51
 .call 276 [0,1,2,3,4,5,6,7,8,9,10,11,12,13,14,15,16,17,18,19,23,24,25,26] 5 (.call 101 [0,1,2,3,4,5,6,7,8,9,10,11,12,13,14,15,16,17,18,45,39] 2 (.call 189 [46,(.i 1)] 1 (.aa (az (ao c) d) (.ite (cn 20 (.i 4)) (.aa (az (ao f) d) (.aa (aB a (ao f)) (.ah [(.t .mu f a (dY ([(bw 0 g),(ao f)]++kc g [2,3,4,5,6,7,8,9,10,11,12,13,14,15,16,17,18,19]) .nil)),47]))) (.call 101 [0,1,2,3,4,5,6,7,8,9,10,11,12,13,14,15,16,17,18,47,40] 2 (.ite (cn (ao 40) a) (.aa (aB a (ao c)) (.ah [(.t .mu c a (dY ([(bw 0 h),(ao c)]++kc h [2,3,4,5,6,7,8,9,10,11,12,13,14,15,16,17,18,19]) .nil)),50])) (.aa (az (ao k) d) (.aa (aB a (ao k)) (.call 189 [49,j] 1 (.aa (az (ao m) d) (.ah [m,50])))))))))))
def we:FT 272 41 iI:=aJ (by kernel_rfl)
end Go.Proofs.YtnfambhakdnncaaGreatDoor
