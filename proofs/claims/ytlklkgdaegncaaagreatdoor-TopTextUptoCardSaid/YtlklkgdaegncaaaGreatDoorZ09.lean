/-
  A part of the proof of TopText: Kt3.
-/
import Derived.KernelRfl
import Derived.Test.YtlklkgdaegncaaaGreatDoorZ08
namespace Go.Proofs.YtlklkgdaegncaaaGreatDoor
set_option linter.unusedVariables false
set_option linter.unusedSimpArgs false
set_option maxRecDepth 20000
set_option maxHeartbeats 8000000
open List
open Nat
open Int
noncomputable section
open Go.RowKit
def yW:TL:=
 let a:TL:= .aa [(.b false)]
 let b:Ex:=bG 12 42
 let c:Ex:=bG 32 42
 .ite (bm 0 20) (.ite (bm 1 21) (.ite (bm 2 22) (.ite (bm 3 23) (.ite (.o .beq 19 39) (.call 213 [4,5,6,7,24,25,26,27] 1 (.ite 40 (.call 213 [8,9,10,11,28,29,30,31] 1 (.ite 41 (.ite (gq (aG 12) (aG 32)) a (.loop [(.i 0)] (.ite (aS 42 (aG 12)) (.ag (aU (.i 0) 42) (.ag (aS 42 (aG 12)) (.ag (aU (.i 0) 42) (.ag (aS 42 (aG 32)) (.call 213 (nI b [0,1,2,3]++nI c [0,1,2,3]) 1 (.ite (jK 43) a (.next 0 [(eu 42)]))))))) (.call 155 [13,14,15,16,17,18,33,34,35,36,37,38] 1 (.aa [43]))))) a)) a)) a) a) a) a) a
def H1:KL:=[lK,fH]
def tJ:KP:=kn H1 [hq 10002021400004 [(17,0)] hl6 []] ⟨171,171,[avD,avD],(.c vD)⟩ Tryz.call171 yW
def nE:TL:=
 .ite (bm 0 (.i 1)) (.call 182 [1] 1 (.aa [2])) (.ite (bm 0 (.i 2)) (.ite (bm 1 (.i 0)) (.aa [(.b true)]) (.aa [(bm 1 (.i 1))])) (.ite (bm 0 (.i 3)) (.call 102 [1,(.i 0),(.i 1000000000)] 1 (.aa [2])) (.aa [(.b false)])))
def Sr:KL:=[B4,du]
def mX:KP:=kn Sr [] ⟨173,173,[eA,eA],(.c vD)⟩ Tryz.call173 nE
def iW:TL:=
 .call 215 [0,1] 1 (.aa [(aU (.i 0) 2)])
def od:KL:=[cH]
def cO:KP:=kn od [] ⟨174,174,[gq3,AB],(.c vD)⟩ Tryz.call174 iW
def ca:TL:=
 let a:Ex:= .i 0
 let b:Ex:= .i 1000000000
 let c:TL:= .aa [(.i 2)]
 let d:TL:= .aa [a]
 let e:Ex:=cq [1,2] .nil
 let f:TL:= .ite (jK (aU 1 2)) c d
 .call 216 [0,1,2,3,4,5] 1 (.ite (jK 6) (.aa [(.i 1)]) (.ite (bm 0 (.i 1)) (.call 217 [a,b,(cq [1] .nil)] 1 (.ite (jK 7) c d)) (.ite (bm 0 (.i 2)) (.call 217 [a,b,e] 1 (.ite 7 f c)) (.ite (bm 0 (.i 4)) (.call 217 [(.i 1),(.i 20),(cq [3] .nil)] 1 (.ite 7 (.call 217 [a,(.i 1000000),e] 1 (.ite 8 f c)) c)) (.ite (bm 0 (.i 5)) (.call 217 [(.i 1),(.i 1000),e] 1 (.ite (jK 7) c d)) (.ite (bm 0 (.i 3)) (.ite (gq (aG 4) (aG 5)) (.aa [(.i 8)]) (.ite (bm (aG 4) a) (.aa [(.i 7)]) (.ite (aS (.i 20) (aG 4)) (.aa [(.i 6)]) (.call 217 [a,b,4] 1 (.ite 7 (.call 217 [(.i 1),(.i 1000),5] 1 (.ite (jK 8) c d)) c))))) c))))))
def Sd:KL:=[Ba,qp]
def jz:KP:=kn Sd [] ⟨175,175,[ak9],(.c eA)⟩ Tryz.call175 ca
def ip:TL:=
 let a:TL:= .aa [(.i 5)]
 let b:TL:= .call 102 [13,(.i (-1000)),(.i 1000)] 1 (.ite (jK 17) (.aa [(.i 2)]) (.ite (bm 13 (.i 0)) (.aa [(.i 2)]) (.aa [(.i 0)])))
 let c:TL:= .ite (jK (aU (.i 0) 16)) a b
 let d:TL:= .call 139 [0,1,2,3,4,5,6,7,8,9,10,11,12,15] 1 c
 let e:TL:= .loop [(.i 0)] (.ite (aS 16 (aG 3)) (.ag (aU (.i 0) 16) (.ag (aS 16 (aG 3)) (.ite (.o .seq (bE 0 (bG 3 16)) 15) c (.next 0 [(eu 16)])))) a)
 let f:TL:= .ite (.o .seq 14 aE3) (.call 174 [9,15] 1 (.ite (jK 16) a b)) (.aa [(.i 1)])
 let g:TL:= .ite (.o .seq 14 aA7) (.ite (.o .seq 14 aA7) e f) (.ite (.o .seq 14 aA8) (.ite (.o .seq 14 aA8) e f) (.ite (.o .seq 14 aE4) e f))
 .ite (.o .seq 14 aA6) (.ite (.o .seq 14 aA6) d g) (.ite (.o .seq 14 aA9) (.ite (.o .seq 14 aA9) d g) (.ite (.o .seq 14 (.s [105,110,115,105,100,101])) d g))
def Sv:KL:=[bx,du,cO]
def tP:KP:=kn Sv [hq 12002024700002 [(8,0)] LM []] ⟨181,181,[Vc,(.g [xh,UV,UV])],(.c eA)⟩ Tryz.call181 ip
def K3:TL:=
 let a:TL:= .aa [(.b true)]
 .call 193 [0] 1 (.ite 1 a (.call 196 [0] 1 (.ite 2 a (.aa [(bm 0 (.i 95))]))))
def WF:KL:=[tM,wQ]
def Gd:KP:=kn WF [] ⟨195,195,[gq7],(.c vD)⟩ Tryz.call195 K3
def wZ:TL:=
 let a:TL:= .aa [(.i 2)]
 let b:Ex:=jK (.o .seq 0 jf)
 let c:Ex:= .i 0
 let d:Ex:=aS c (.u .fD 0)
 let e:EL:=[aE5,(.o .Mt 0 c)]
 let f:TL:= .aa [(.i 1)]
 let g:TL:= .aa [c]
 .call 130 [0,(.s [33,61])] 1 (.ite 1 (.ite 1 a (.ite b (.ag d (.call 232 e 1 (.ite (aU c 2) f g))) g)) (.call 130 [0,(.s [60,61])] 1 (.ite 2 (.ite 2 a (.ite b (.ag d (.call 232 e 1 (.ite (aU c 3) f g))) g)) (.call 130 [0,(.s [62,61])] 1 (.ite 3 a (.ite b (.ag d (.call 232 e 1 (.ite (aU c 4) f g))) g))))))
def YS:KL:=[nS,lc]
def EM:KP:=kn YS [] ⟨198,198,[AB],(.c eA)⟩ Tryz.call198 wZ
def Ol:TL:=
 let a:Ex:= .i 0
 let b:TL:= .call 215 [5,13] 1 (.ite (aU a 18) (.aa [aeV,18]) (.call 215 [6,13] 1 (.ite (aU a 19) (.aa [al7,19]) (.call 215 [7,13] 1 (.ite (aU a 20) (.aa [al8,20]) (.call 215 [8,13] 1 (.ite (aU a 21) (.aa [ag1,21]) (.call 215 [9,13] 1 (.ite (aU a 22) (.aa [al2,22]) (.call 139 [0,1,2,3,4,5,6,7,8,9,10,11,12,13] 1 (.ite (aU a 23) (.aa [ap6,23]) (.aa [jf,(.i (-1))]))))))))))))
 let c:TL:= .loop [a] (.ite (aS 17 (aG 4)) (.ag (aU a 17) (.ag (aS 17 (aG 4)) (.ite (.o .seq (bE 0 (bG 4 17)) 13) (.ite (aU a 17) (.aa [al1,17]) b) (.next 3 [(eu 17)])))) b)
 let d:TL:= .loop [a] (.ite (aS 16 (aG 3)) (.ag (aU a 16) (.ag (aS 16 (aG 3)) (.ite (.o .seq (bE 0 (bG 3 16)) 13) (.ite (aU a 16) (.aa [ag2,16]) c) (.next 2 [(eu 16)])))) c)
 let e:TL:= .loop [a] (.ite (aS 15 (aG 2)) (.ag (aU a 15) (.ag (aS 15 (aG 2)) (.ite (.o .seq (bE 0 (bG 2 15)) 13) (.ite (aU a 15) (.aa [aeW,15]) d) (.next 1 [(eu 15)])))) d)
 .loop [a] (.ite (aS 14 (aG 1)) (.ag (aU a 14) (.ag (aS 14 (aG 1)) (.ite (.o .seq (bE 0 (bG 1 14)) 13) (.ite (aU a 14) (.aa [ag3,14]) e) (.next 0 [(eu 14)])))) e)
def PV:KL:=[cH,bx]
def qt:KP:=kn PV [hq 12002024900002 [(8,0)] LM [],hq 12003024900002 [(8,0)] LM [],hq 12002024700002 [(8,0)] LM [],hq 17003024900002 [(8,0)] LM [],hq 17004024900002 [(8,0)] LM [],hq 17003024700002 [(8,0)] LM [],hq 12002024500002 [(8,0)] LM [],hq 12004024900002 [(8,0)] LM [],hq 12003024700002 [(8,0)] LM [],hq 17005024900002 [(8,0)] LM [],hq 17004024700002 [(8,0)] LM [],hq 12003024500002 [(8,0)] LM [],hq 12002020700002 [(8,0)] LM []] ⟨209,209,[Vc,AB],(.t [AB,eA])⟩ Tryz.call209 Ol
def bv:TL:=
 let a:Ex:= .i 9223372036854775807
 let b:Ex:= .o .cat (.o .cat Mw 4) Og
 let c:TL:= .aa [4]
 let d:Ex:=aS (.i 0) (aG 3)
 let e:Ex:=bG 3 (.i 0)
 let f:Ex:=bE 0 e
 let g:Ex:=bE 1 e
 let h:Ex:=bE 2 e
 let j:Ex:=bE 3 e
 let k:Ex:= .o .cat (.s [110,111,116,32]) 4
 let l:Ex:= .o .cat (.o .cat 7 sw1) 4
 let m:Ex:=bG 3 (.i 1)
 let n:Ex:= .o .cat (.o .cat l sw1) 8
 let p:TL:= .ag (aU (.u .fD (.o .cat 7 sw1)) a) (.ag (aU (.u .fD l) a) (.ag (aU (.u .fD (.o .cat l sw1)) a) (.ag (aS (.i 1) (aG 3)) (.call 274 (nI m [0,1,2,3]++[(eu 5)]) 1 (.ag (aU (.u .fD n) a) (.aa [n]))))))
 .ite (bm 0 (.i 1)) (.ite (aS 2 (.i 0)) (.call 18 [2] 1 (.ag (aU (.u .fD (.o .cat Mw 4)) a) (.ag (aU (.u .fD b) a) (.aa [b])))) (.call 18 [2] 1 c)) (.ite (bm 0 (.i 2)) (.call 132 [2] 1 c) (.ite (bm 0 (.i 4)) (.aa [as5]) (.ite (bm 0 (.i 3)) (.aa [1]) (.ite (bm 0 (.i 7)) (.call 273 [asT,0,1,2,3] 1 c) (.ite (bm 0 (.i 8)) (.call 273 [atn,0,1,2,3] 1 c) (.ite (bm 0 (.i 20)) (.call 273 [as3,0,1,2,3] 1 c) (.ite (bm 0 (.i 21)) (.call 273 [as2,0,1,2,3] 1 c) (.ite (bm 0 (.i 22)) (.call 273 [asV,0,1,2,3] 1 c) (.ite (bm 0 (.i 23)) (.call 273 [ati,0,1,2,3] 1 c) (.ite (bm 0 (.i 24)) (.call 273 [atq,0,1,2,3] 1 c) (.ite (bm 0 (.i 6)) (.ag d (.call 274 (nI e [0,1,2,3]++[(.i 3)]) 1 (.ag (aU (.u .fD k) a) (.aa [k])))) (.ite (bm 0 (.i 5)) (.ag d (.call 274 (nI e [0,1,2,3]++[(.i 7)]) 1 (.ag (aU (.u .fD (.o .cat RO 4)) a) (.aa [(.o .cat RO 4)])))) (.call 275 [0] 3 (.ite (bm 5 (.i 4)) (.ag d (.call 274 (nI e [0,1,2,3]++[(eu 5)]) 1 p)) (.ag d (.call 274 (nI e [0,1,2,3]++[5]) 1 p))))))))))))))))
def Qd:nK:=⟨228,228,[mT],(.c AB)⟩
def Bi:TL:=
 let a:Ex:= .o .cat 0 Mw
 let b:Ex:= .i 9223372036854775807
 let c:Ex:=aU (.u .fD a) b
 let d:Ex:= .o .cat (.o .cat a 2) Og
 let e:Ex:=bG 4 6
 let f:Ex:= .o .cat (.o .cat a 7) Og
 .ite (bm (aG 4) (.i 0)) (.ag c (.ag (aU (.u .fD (.o .cat a 2)) b) (.ag (aU (.u .fD d) b) (.aa [d])))) (.ag c (.loop [.nil,(.i 0)] (.ite (aS 6 (aG 4)) (.ag (aU (.i 0) 6) (.ag (aS 6 (aG 4)) (.call 228 (nI e [0,1,2,3]) 1 (.ag (aU (aG (.o .bC 5 7)) (.i 8796093022208)) (.next 0 [(.o .bC 5 7),(eu 6)]))))) (.call 46 [5,atr] 1 (.ag (aU (.u .fD (.o .cat a 7)) b) (.ag (aU (.u .fD f) b) (.aa [f])))))))
def Qc:nK:=⟨273,273,[AB,mT],(.c AB)⟩
def tY:TL:=
 let a:Ex:= .i 9223372036854775807
 let b:Ex:= .o .cat (.o .cat Mw 6) Og
 .call 302 [0,1,2,3] 1 (.ite (aS 5 4) (.call 228 [0,1,2,3] 1 (.ag (aU (.u .fD (.o .cat Mw 6)) a) (.ag (aU (.u .fD b) a) (.aa [b])))) (.call 228 [0,1,2,3] 1 (.aa [6])))
def H9:nK:=⟨274,274,[mT,eA],(.c AB)⟩
def A5:KL:=[eh,nA,jo,dv,vj]
def xL:nw:=[Qd,Qc,H9]
def Qx:Mm xL A5:=mq Qd [] Tryz.call228 bv
def Qw:Mm xL A5:=mq Qc [hq 1001027800003 [(5,9),(10,0)] hl7 []] Tryz.call273 Bi
def Jm:Mm xL A5:=mq H9 [] Tryz.call274 tY
def eD:Fm:={L:=A5,cs:=xL,ms:=[Qx,Qw,Jm]}
def cp:=eD.g
theorem Jt (k:Nat):cp k 18=eh.F:=eD.out k (j:=0) (x:=eh) rfl
theorem T0 (k:Nat):cp k 132=nA.F:=eD.out k (j:=1) (x:=nA) rfl
theorem dw (k:Nat):cp k 275=jo.F:=eD.out k (j:=2) (x:=jo) rfl
theorem V3 (k:Nat):cp k 46=dv.F:=eD.out k (j:=3) (x:=dv) rfl
theorem Gi (k:Nat):cp k 302=vj.F:=eD.out k (j:=4) (x:=vj) rfl
theorem abN (k:Nat) (l:aP):cp (k+1) 228 l=if l.length=4 then bv.bR (cp k) l []else none:=eD.step k (i:=0) (m:=Qx) rfl l
theorem abM (k:Nat) (l:aP):cp (k+1) 273 l=if l.length=5 then Bi.bR (cp k) l []else none:=eD.step k (i:=1) (m:=Qw) rfl l
theorem Vb (k:Nat) (l:aP):cp (k+1) 274 l=if l.length=5 then tY.bR (cp k) l []else none:=eD.step k (i:=2) (m:=Jm) rfl l
def lA:KP:=eD.at 0
theorem aaf:lA.F=cp (aF+1) 228:=eD.top _ _ _ rfl
def HJ:TL:=
 let a:Ex:=bG 0 2
 let b:Ex:= .i 9223372036854775807
 let c:Ex:= .o .cat (.o .cat Mw 3) Og
 .loop [.nil,(.i 0)] (.ite (aS 2 (aG 0)) (.ag (aU (.i 0) 2) (.ag (aS 2 (aG 0)) (.call 228 (nI a [0,1,2,3]) 1 (.ag (aU (aG (.o .bC 1 3)) (.i 8796093022208)) (.next 0 [(.o .bC 1 3),(eu 2)]))))) (.call 46 [1,atr] 1 (.ag (aU (.u .fD (.o .cat Mw 3)) b) (.ag (aU (.u .fD c) b) (.aa [c])))))
def Sx:KL:=[lA,dv]
def yg:KP:=kn Sx [hq 1000027800003 [(5,9),(10,0)] hl7 []] ⟨230,230,[gq6],(.c AB)⟩ Tryz.call230 HJ
def K5:TL:=
 let a:Ex:= .b true
 let b:Ex:= .b false
 let c:Ex:= .i 0
 let d:Ex:= .t .ite 25 a (.t .ite (bm (aG 11) c) a b)
 let e:TL:= .aa [b]
 let f:TL:= .ite (.t .ite 27 a (.t .ite (jK 18) a b)) (.ite (.t .ite 28 a (.t .ite (bm (aG 19) c) a b)) (.ite (.t .ite 29 a (bm (aG 20) c)) (.aa [a]) e) e) e
 let g:EL:=[12,13,14,15,16,17,c,c,c,c,.nil,.nil]
 let h:EL:=[7,8,9,10,c,jf,c,.nil]
 let j:TL:= .ite d (.ite 26 f (.call 155 g 1 (.ite 31 f e))) e
 .ite (.t .ite 21 a (.t .ite (.o .seq 1 jf) a b)) (.ite (.t .ite 22 a (.t .ite (.o .seq 2 jf) a b)) (.ite 23 (.ite 24 (.ite d (.ite 26 f (.call 155 g 1 (.ite 30 f e))) e) (.call 213 h 1 (.ite 30 j e))) (.call 213 [3,4,5,6,c,jf,c,.nil] 1 (.ite 30 (.ite 24 j (.call 213 h 1 (.ite 31 (.ite d (.ite 26 f (.call 155 g 1 (.ite 32 f e))) e) e))) e))) e) e
def WH:KL:=[fH,lK]
def B6:KP:=kn WH [] ⟨266,266,[Mg,avB],(.c vD)⟩ Tryz.call266 K5
def zk:TL:=
 .call 309 [6,20] 2 (.ite (jK 24) (.aa [(.i 5)]) (.ite (jK 21) (.aa [(.i 5)]) (.call 310 [0,1,2,3,4,5,6,7,8,9,10,11,12,13,14,15,16,17,18,19,20,22] 1 (.aa [25]))))
def zO:KL:=[fR,kC]
def mt:KP:=kn zO [] ⟨286,286,[abS,AB,vD,(.a (jy 84))],(.c eA)⟩ Tryz.call286 zk
def Ok:TL:=
 .call 209 [0,1,2,3,4,5,6,7,8,9,10,11,12,13] 2 (.aa [15])
def PQ:KL:=[qt]
def Bb:KP:=kn PQ [] ⟨294,294,[Vc,AB],(.c eA)⟩ Tryz.call294 Ok
def LW:TL:=
 .call 351 [0] 1 (.aa [(.o (.sub .i64) (.i 0) 1)])
def MN:KL:=[kP]
def oz:KP:=kn MN [] ⟨330,330,[eA],(.c eA)⟩ Tryz.call330 LW
def aaT:TL:=
 .call 351 [0] 1 (.call 351 [1] 1 (.call 351 [(.o (.add .i64) 2 3)] 1 (.aa [4])))
def acl:KL:=[kP]
def OI:KP:=kn acl [] ⟨332,332,[eA,eA],(.c eA)⟩ Tryz.call332 aaT
def aaW:TL:=
 let a:Ex:=jK (.o .beq (aS 2 (.i 0)) (aS 3 (.i 0)))
 let b:Ex:= .u (.conv .i64) 7
 let c:TL:= .ite a (.aa [(.i (-1000000000000))]) (.aa [(.i 1000000000000)])
 .call 351 [0] 1 (.call 351 [1] 1 (.call 352 [2] 1 (.call 352 [3] 1 (.call 185 [(.u (.conv .u64) 4),(.u (.conv .u64) 5)] 2 (.ite (bm 6 (.i 0)) (.ite (aS 7 (.i 1000000000000)) (.ite a (.aa [(.o (.sub .i64) (.i 0) b)]) (.aa [b])) c) c)))))
def aco:KL:=[kP,KB,DM]
def OK:KP:=kn aco [] ⟨333,333,[eA,eA],(.c eA)⟩ Tryz.call333 aaW
def aaU:TL:=
 let a:Ex:= .i 0
 let b:Ex:= .o (.quo .i64) 2 3
 .call 351 [0] 1 (.call 351 [1] 1 (.ite (bm 3 a) (.aa [a]) (.ag (gq 3 a) (.ag (gq 3 a) (.ite (gq (.o (.rem .i64) 2 3) a) (.ite (jK (.o .beq (aS 2 a) (aS 3 a))) (.aa [(.o (.sub .i64) b (.i 1))]) (.aa [b])) (.aa [b]))))))
def acm:KL:=[kP]
def D5:KP:=kn acm [] ⟨334,334,[eA,eA],(.c eA)⟩ Tryz.call334 aaU
def aaV:TL:=
 .call 351 [0] 1 (.call 351 [1] 1 (.call 334 [2,3] 1 (.aa [(.o (.sub .i64) 2 (.o (.mul .i64) 3 4))])))
def acn:KL:=[kP,D5]
def OJ:KP:=kn acn [] ⟨335,335,[eA,eA],(.c eA)⟩ Tryz.call335 aaV
def LX:TL:=
 let a:TL:= .ite (bm 0 (.i 8)) (.ite (bm 1 (.i 3)) (.aa [(.i 1)]) (.aa [(.i 0)])) (.aa [(.i 0)])
 let b:TL:= .ite (bm 0 (.i 7)) (.ite (bm 1 (.i 1)) (.aa [(.i 3)]) a) a
 let c:TL:= .ite (bm 0 (.i 6)) (.ite (bm 1 (.i 2)) (.aa [1]) b) b
 .ite (bm 0 (.i 5)) (.call 356 [1] 1 (.ite 2 (.ite 2 (.aa [1]) b) c)) c
def MU:KL:=[kB]
def sE:KP:=kn MU [] ⟨345,345,[eA,eA],(.c eA)⟩ Tryz.call345 LX
def JD:TL:=
 let a:Ex:=bm 0 (.i 9)
 let b:TL:= .aa [(.i 0)]
 let c:TL:= .ite (bm 1 2) (.call 356 [1] 1 (.ite 3 (.aa [1]) b)) b
 let d:Ex:=bm 2 (.i 1)
 let e:TL:= .aa [(.i 1)]
 let f:TL:= .call 356 [1] 1 (.ite 3 (.call 356 [2] 1 (.ite 4 (.ite (gq 1 2) (.aa [(.i 3)]) b) b)) b)
 let g:TL:= .ite (bm 1 (.i 3)) (.ite d (.aa [(.i 3)]) b) b
 let h:TL:= .ite (bm 1 (.i 3)) (.ite (bm 2 (.i 3)) e g) g
 let j:TL:= .aa [(.i 2)]
 let k:TL:= .ite (bm 1 2) j b
 let l:TL:= .ite (bm 1 2) (.call 356 [1] 1 (.ite 3 j b)) b
 let m:TL:= .ite (bm 1 (.i 2)) (.ite (bm 2 (.i 2)) j b) b
 let n:TL:= .ite (bm 0 (.i 18)) (.ite (bm 0 (.i 18)) m b) (.ite (bm 0 (.i 19)) m b)
 let p:TL:= .ite (bm 0 (.i 16)) (.ite (bm 0 (.i 16)) l n) (.ite (bm 0 (.i 17)) l n)
 let q:TL:= .ite (bm 0 (.i 14)) (.ite (bm 0 (.i 14)) k p) (.ite (bm 0 (.i 15)) k p)
 let r:TL:= .ite (bm 0 (.i 11)) (.ite d e f) (.ite (bm 0 (.i 12)) (.ite d (.ite d e g) h) q)
 let u:Ex:=bm 0 (.i 10)
 let w:Ex:=bm 0 (.i 13)
 let x:Ex:=bm 0 (.i 20)
 let y:TL:= .ite (bm 0 (.i 11)) f (.ite (bm 0 (.i 12)) h q)
 .ite (bm 1 (.i 1)) (.ite a (.ite a c r) (.ite u (.ite u c r) (.ite w (.ite w c r) (.ite x (.ite x c r) (.ite (bm 0 (.i 21)) c r))))) (.ite a (.ite a c y) (.ite u (.ite u c y) (.ite w (.ite w c y) (.ite x (.ite x c y) (.ite (bm 0 (.i 21)) c y)))))
def Lv:KL:=[kB]
def pZ:KP:=kn Lv [] ⟨346,346,[eA,eA,eA],(.c eA)⟩ Tryz.call346 JD
def we:TL:=
 let a:TL:= .call 348 [1] 1 (.aa [(aU (.i 0) 2)])
 .ite (bm 1 (.i 3)) (.aa [(jK 0)]) (.ite (bm 1 (.i 25)) (.ite (bm 1 (.i 25)) (.aa [0]) a) (.ite (bm 1 (.i 26)) (.aa [0]) a))
def FW:KL:=[wP]
def rE:KP:=kn FW [] ⟨347,347,[(.g [cbA]),eA],(.c vD)⟩ Tryz.call347 we
def wg:TL:=
 .ite (bm 1 (.i 3)) (.aa [(.b true)]) (.call 357 [1] 1 (.ite 2 (.aa [(jK 0)]) (.aa [(.b false)])))
def FX:KL:=[qr]
def rF:KP:=kn FX [] ⟨349,349,[(.g [cbA]),eA],(.c vD)⟩ Tryz.call349 wg
def sV:TL:=
 let a:Ex:= .i 0
 let b:Ex:= .b true
 let c:TL:= .aa [a,a,(.b false)]
 .ite (bm 1 (.i 2)) (.aa [a,(.i 1),b]) (.ite (bm 1 (.i 25)) (.aa [a,(.i 15),b]) (.ite (bm 1 (.i 26)) (.aa [a,(.i 31),b]) (.call 357 [1] 1 (.ite 2 (.ite 0 (.aa [a,(.i 63),b]) c) c))))
def CV:KL:=[qr]
def nN:KP:=kn CV [] ⟨350,350,[(.g [cbA]),eA],(.t [eA,eA,vD])⟩ Tryz.call350 sV
def bU:TL:=
 let a:Ex:= .i 0
 let b:Ex:= .o (.sub .i64) (aG 0) 1
 let c:TL:= .aa [a,jf,a,.nil,(.b false),3]
 let d:Ex:=bG 0 (.o (.add .i64) 1 (.i 2))
 let e:Ex:=bG 0 (.o (.add .i64) 1 (.i 3))
 .ag (aU a 1) (.ag (aU 1 (aG 0)) (.ag (aU (aG 0) (aG 0)) (.ite (aS b (.i 4)) (.aa [a,jf,a,.nil,(.b false),1]) (.call 145 [0,1,Mw] 2 (.ite (jK 2) c (.ag (aS (.i 1) b) (.ite (gq (bE 0 (bG 0 (eu 1))) (.i 3)) c (.ag (aS (.i 1) b) (.ite (jK (.o .seq (bE 1 (bG 0 (eu 1))) RO)) c (.ag (aS (.i 2) b) (.ite (gq (bE 0 d) (.i 2)) c (.ag (aS (.i 3) b) (.ite (gq (bE 0 e) (.i 3)) c (.ag (aS (.i 3) b) (.ite (jK (.o .seq (bE 1 e) Og)) c (.ag (aS (.i 2) b) (.aa [(.i 1),jf,(.o (.sub .i64) a (bE 2 d)),.nil,(.b true),(.o (.add .i64) 3 (.i 4))])))))))))))))))))
def wo:KL:=[fI]
def dO:KP:=kn wo [] ⟨362,362,[lP],(.t [mT,vD])⟩ Tryz.call362 bU
def pF:TL:=
 let a:TL:= .aa [(.b false)]
 let b:Ex:=bG 2 5
 let c:Ex:=aS 7 (aG (bE 10 b))
 .ite (aS (.i 4) (aG 2)) a (.ite (aS (.i 12) (aG 3)) a (.ite (aS (.i 12) (aG 1)) a (.loop [(.i 80),(.i 0)] (.ite (aS 5 (aG 2)) (.ag (aU (.i 0) 5) (.ag (aS 5 (aG 2)) (.ite (aS (.i 6) (aG (bE 10 b))) a (.ite (aS (.i 8) (aG (bE 11 b))) a (.ite (aS (.i 12) (aG (bE 1 b))) a (.ite (aS (.i 6) (aG (bE 2 b))) a (.ite (aS (.i 6) (aG (bE 3 b))) a (.ite (aS (.i 6) (aG (bE 12 b))) a (.ite (aS (.i 30) (.o (.add .i64) (.o (.add .i64) (.o (.add .i64) (.o (.add .i64) (.o (.add .i64) (aG (bE 4 b)) (aG (bE 5 b))) (aG (bE 6 b))) (aG (bE 7 b))) (aG (bE 8 b))) (aG (bE 9 b)))) a (.loop [4,(.i 0)] (.ite c (.ag (aU (.i 0) 7) (.ag c (.call 11 [(bE 3 (bG (bE 10 b) 7)),6] 1 (.ite (aS 8 (.i 0)) a (.next 1 [8,(eu 7)]))))) (.next 0 [6,(eu 5)])))))))))))) (.aa [(.b true)])))))
def zL:KL:=[nR]
def jc:KP:=kn zL [hq 15002000400010 [(3,0),(94,0)] [95,96,97,7,98,99,100,101,102,103,2,104] [],hq 3001000400005 [(3,0),(27,0)] [28,29,30,5,31,32,33,34,35,36,37,38,39,40,41,42,43,44,45,46,47,48,49,50,51,52,53,54,55,56,57,58,59,60,61,62,63,64,65,66,67,68,69,70,71,72,73,74,75,76,77,78,79,80,81,82,83,84,85,86,87,88,89,90,2,91,92,93,94,95,96,97,7,98,99,100,101,102,103,104,105] []] ⟨4,4,[Im],(.c vD)⟩ Tryz.call4 pF
def oM:TL:=
 .loop [(.i 0),0,1] (.ite (aS 4 (aG 3)) (.ag (aU (.i 0) 4) (.ag (aS 4 (aG 3)) (.call 47 [(bE 1 (bG 3 4))] 1 (.call 48 [(bE 1 (bG 3 4)),(bE 2 (bG 3 4))] 1 (.call 14 [5,6,(cq [2,(bE 0 (bG 3 4)),7,ag0,8] .nil)] 2 (.next 0 [(eu 4),9,10])))))) (.aa [5,6]))
def xt:KL:=[tQ,qv,aT]
def fm:KP:=kn xt [hq 2001001700001 [(10,0)] [11,12,13,7,14,15,16,17,18,19,20,21,22,23,24,25,26,27,28] [(0,(1,5)),(0,(2,0))]] ⟨17,17,[ZO,AB,(.a (jy 86))],(.t [])⟩ Tryz.call17 oM
def te:TL:=
 .call 143 [0,1] 2 (.ite (jK 2) (.call 142 [0,3] 1 (.call 144 [0,4,(.i 1)] 5 (.aa [6,9]))) (.call 144 [0,3,(.i 1)] 5 (.aa [5,8])))
def C1:KL:=[dJ,iO,eP]
def aB:KP:=kn C1 [] ⟨62,62,[lP],(.c AB)⟩ Tryz.call62 te
def td:TL:=
 .call 144 [0,1,(.i 4)] 5 (.aa [6])
def C0:KL:=[eP]
def bW:KP:=kn C0 [] ⟨63,63,[lP],(.t [])⟩ Tryz.call63 td
def nW:TL:=
 .call 145 [0,1,2] 2 (.ite (jK 3) (.aa [(.b false),4]) (.call 146 [0,4] 1 (.aa [(.b true),5])))
def Ej:KL:=[fI,iP]
def aw:KP:=kn Ej [] ⟨64,64,[lP,AB],(.c vD)⟩ Tryz.call64 nW
def pA:TL:=
 .call 144 [0,1,(.i 2)] 5 (.aa [4,6])
def zG:KL:=[eP]
def aD:KP:=kn zG [] ⟨67,67,[lP],(.c eA)⟩ Tryz.call67 pA
def uP:TL:=
 .call 153 [0,1] 5 (.ite (gq 2 (.i 0)) (.call 142 [0,6] 1 (.aa [7])) (.aa [6]))
def Ei:KL:=[aW,iO]
def pg:KP:=kn Ei [] ⟨69,69,[lP],(.t [])⟩ Tryz.call69 uP
def qT:TL:=
 let a:TL:= .aa [(.b false)]
 .ite (.o .seq 0 17) (.ite (bm 1 18) (.ite (bm 3 20) (.call 154 [2,19] 1 (.ite 34 (.ite (.o .seq 4 21) (.call 155 [5,6,7,8,9,10,22,23,24,25,26,27] 1 (.ite 35 (.call 155 [11,12,13,14,15,16,28,29,30,31,32,33] 1 (.aa [36])) a)) a) a)) a) a) a
def Br:KL:=[iX,fH]
def mY:KP:=kn Br [] ⟨71,71,[anx,anx],(.c vD)⟩ Tryz.call71 qT
def sW:TL:=
 let a:TL:= .aa [(.b false)]
 .ite (.o .seq 0 4) (.call 156 [1,5] 1 (.ite 8 (.call 156 [2,6] 1 (.ite 9 (.call 157 [3,7] 1 (.aa [10])) a)) a)) a
def CW:KL:=[jE,Gf]
def nO:KP:=kn CW [] ⟨76,76,[ah2,ah2],(.c vD)⟩ Tryz.call76 sW
def AO:TL:=
 let a:TL:= .aa [(.b false)]
 let b:Ex:=bG 3 8
 let c:Ex:=bG 7 8
 .ite (.o .seq 0 4) (.ite (bm 1 5) (.ite (bm 2 6) (.ite (gq (aG 3) (aG 7)) a (.loop [(.i 0)] (.ite (aS 8 (aG 3)) (.ag (aU (.i 0) 8) (.ag (aS 8 (aG 3)) (.ag (aU (.i 0) 8) (.ag (aS 8 (aG 7)) (.call 171 (nI b [0,1,2,3,4,5,6,7,8,9,10,11,12,13,14,15,16,17,18,19]++nI c [0,1,2,3,4,5,6,7,8,9,10,11,12,13,14,15,16,17,18,19]) 1 (.ite (jK 9) a (.next 0 [(eu 8)]))))))) (.aa [(.b true)])))) a) a) a
def Lk:KL:=[tJ]
def vF:KP:=kn Lk [hq 2002017000004 [(17,0)] hl6 []] ⟨90,90,[avA,avA],(.c vD)⟩ Tryz.call90 AO
def rL:TL:=
 let a:Ex:= .o .seq 13 jf
 let b:Ex:= .i 0
 let c:EL:=[14,15,16,17,18,19]
 let d:EL:=[20,21,22,23,24,25]
 .ite a (.call 155 [14,15,16,17,18,19,b,b,b,b,.nil,.nil] 1 (.ite (jK 26) (.aa [(.i 1)]) (.call 155 [20,21,22,23,24,25,b,b,b,b,.nil,.nil] 1 (.ite (jK 27) (.aa [(.i 1)]) (.ite a (.aa [b]) (.call 174 [6,13] 1 (.ite (jK 28) (.aa [(.i 5)]) (.call 175 c 1 (.ite (gq 29 b) (.aa [29]) (.call 175 d 1 (.aa [30]))))))))))) (.ite a (.aa [b]) (.call 174 [6,13] 1 (.ite (jK 26) (.aa [(.i 5)]) (.call 175 c 1 (.ite (gq 27 b) (.aa [27]) (.call 175 d 1 (.aa [28])))))))
def H3:KL:=[fH,cO,jz]
def oB:KP:=kn H3 [] ⟨104,104,[Vc,(.g [UV,xh,xh,xh,xh,(jy 3),(jy 3),xh,xh,xh,xh,(jy 3),(jy 3)])],(.c eA)⟩ Tryz.call104 rL
def sX:TL:=
 let a:Ex:= .i 0
 let b:Ex:=bE 1 (bG 10 18)
 let c:TL:= .aa [(.i 2)]
 let d:Ex:= .i 1000000000
 .call 139 [0,1,2,3,4,5,6,7,8,9,10,11,12,13] 1 (.ite (aS 18 a) (.aa [(.i 5)]) (.ag (aU a 18) (.ag (aS 18 (aG 10)) (.ite (gq (aG 14) (aG b)) (.aa [(.i 8)]) (.loop [a] (.ite (aS 19 (aG 14)) (.ag (aU a 19) (.ag (aS 19 (aG 14)) (.ag (aU a 19) (.ag (aS 19 (aG b)) (.call 173 [(bE 1 (bG b 19)),(bG 14 19)] 1 (.ite (jK 20) c (.next 0 [(eu 19)]))))))) (.call 102 [15,a,d] 1 (.ite (jK 20) c (.call 102 [16,a,d] 1 (.ite (jK 21) c (.call 102 [17,a,d] 1 (.ite (jK 22) c (.ite (bm 16 a) (.ite (gq 17 a) c (.aa [a])) (.aa [a]))))))))))))))
def PW:KL:=[bx,mX,du]
def vi:KP:=kn PW [hq 14002012300008 [(30,0)] [31,32,33,34,7,8,35,36,37,38,39,40,41,42,4,43] []] ⟨123,123,[Vc,anw],(.c eA)⟩ Tryz.call123 sX
def HG:TL:=
 let a:TL:= .aa [(.i 6)]
 let b:Ex:= .i 0
 let c:Ex:=bG 12 13
 let d:TL:= .next 0 [(eu 13),14]
 let e:Ex:=aG (bE 1 c)
 let f:Ex:=aS 16 e
 let g:Ex:=bG (bE 1 c) 16
 let h:EL:=[0,1,2,3,4,5,6,7,8,9,10,11,12]++nI g [0,1,2]
 let j:Ex:=gq 17 b
 let k:EL:=[(bE 2 c)]
 let l:TL:= .aa [(.i 2)]
 let m:TL:= .next 1 [(eu 16)]
 let n:TL:= .next 0 [(eu 13),(.o (.Fh 0) 14 (bE 0 c))]
 .ite (aS (.i 32) (aG 12)) a (.loop [b,.nil] (.ite (aS 13 (aG 12)) (.ag (aU b 13) (.ag (aS 13 (aG 12)) (.call 37 [(bE 0 c)] 1 (.ite (gq 15 b) (.ite (gq 15 b) (.ite (gq 15 b) (.aa [15]) d) (.ite (bm e b) (.aa [(.i 7)]) (.ite (aS (.i 8) e) a (.loop [b] (.ite f (.ag (aU b 16) (.ag f (.call 181 h 1 (.ite j (.ite j (.ite j (.aa [17]) d) (.call 182 k 1 (.ite (jK 18) l d))) m)))) (.call 182 k 1 (.ite (jK 17) l d))))))) (.ite (.o (.mem 0) 14 (bE 0 c)) (.aa [(.i 4)]) (.ite (bm e b) (.aa [(.i 7)]) (.ite (aS (.i 8) e) a (.loop [b] (.ite f (.ag (aU b 16) (.ag f (.call 181 h 1 (.ite j (.ite j (.ite j (.aa [17]) n) (.call 182 k 1 (.ite (jK 18) l n))) m)))) (.call 182 k 1 (.ite (jK 17) l n))))))))))) (.aa [b])))
def Ss:KL:=[dB,tP,B4]
def DQ:KP:=kn Ss [hq 13005017900004 [(16,0)] Cy [],hq 12003017700004 [(16,0)] Cy [(1,(0,0))]] ⟨125,125,[Vc],(.c eA)⟩ Tryz.call125 HG
def pu:TL:=
 let a:Ex:= .i 0
 let b:Ex:=aS 8 (aG (cq [1] .nil))
 let c:Ex:= .o .cat sw1 9
 let d:Ex:= .i 9223372036854775807
 let e:Ex:=aU (.u .fD c) d
 let f:TL:= .ag e (.ag (aU (.u .fD (.o .cat 7 c)) d) (.next 0 [(.o .cat 7 c),(eu 8)]))
 let g:TL:= .aa [7]
 let h:Ex:=cq [1,2] .nil
 let j:TL:= .ite (aS 8 (aG h)) (.ag (aU a 8) (.ag (aS 8 (aG h)) (.call 18 [(bG h 8)] 1 f))) g
 let k:Ex:=aS 8 (aG (cq [3] h))
 let l:Ex:= .i 140737488355328
 let m:Ex:= .o .cat (.o .cat c sw9) 10
 let n:Ex:= .o .app 8 (.u .bytes m)
 .call 175 [0,1,2,3,4,5] 1 (.ite (gq 6 a) (.aa [jf]) (.ite (bm 0 (.i 1)) (.loop [asQ,a] (.ite b (.ag (aU a 8) (.ag b (.call 18 [(bG (cq [1] .nil) 8)] 1 f))) g)) (.ite (bm 0 (.i 2)) (.loop [ato,a] j) (.ite (bm 0 (.i 4)) (.loop [atm,a] (.ite k (.ag (aU a 8) (.ag k (.call 18 [(bG (cq [3] h) 8)] 1 f))) g)) (.ite (bm 0 (.i 5)) (.loop [asW,a] j) (.ag (aU (aG (.u .bytes ap8)) l) (.loop [a,(.u .bytes ap8)] (.ite (aS 7 (aG 4)) (.ag (aU a 7) (.ag (aS 7 (aG 4)) (.call 18 [(bG 4 7)] 1 (.ag e (.ag (aU (.u .fD (.o .cat c sw9)) d) (.ag (aU a 7) (.ag (aS 7 (aG 5)) (.call 18 [(bG 5 7)] 1 (.ag (aU (.u .fD m) d) (.ag (aU (aG n) l) (.next 0 [(eu 7),n]))))))))))) (.ag (.u .isb 8) (.aa [(.u .ofb 8)]))))))))))
def WC:KL:=[jz,eh]
def iT:KP:=kn WC [hq 3002013400016 [(52,0)] [53,54,55,56,5,6,57,58,59,60,61,62,63,64,65,66,67,68,69] [(1,(1,5))],hq 3001018900002 [(0,0),(9,0)] [10,11,12,6,13,14,15,16,17,18] []] ⟨134,134,[ak9],(.c AB)⟩ Tryz.call134 pu
end
end Go.Proofs.YtlklkgdaegncaaaGreatDoor
