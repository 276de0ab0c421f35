/-
  A part of the proof of TopText: Kt5.
-/
import Derived.KernelRfl
import Derived.Test.YtlklkgdaegncaaaGreatDoorZ11
namespace Go.Proofs.YtlklkgdaegncaaaGreatDoor
set_option linter.unusedVariables false
set_option linter.unusedSimpArgs false
set_option maxRecDepth 20000
set_option maxHeartbeats 8000000
open List
open Nat
open Int
noncomputable section
open Go.RowKit
def jg:TL:=
 let a:Ex:= .i 17592186044416
 .call 62 [0,1] 2 (.call 61 [0,3,Mw] 1 (.call 64 [0,4,Og] 2 (.ite 5 (.call 61 [0,6,ap2] 1 (.call 67 [0,7] 2 (.call 64 [0,9,ap3] 2 (.ite 10 (.call 67 [0,11] 2 (.call 61 [0,13,ap9] 1 (.call 67 [0,14] 2 (.aa [2,.nil,8,12,15,16])))) (.aa [2,.nil,8,(.i 0),(.i 0),11]))))) (.call 241 [0,6] 2 (.ag (aU (aG (.o .bC .nil 7)) a) (.loop [8,(.o .bC .nil 7)] (.call 64 [0,9,(.s [44])] 2 (.ite 11 (.call 241 [0,12] 2 (.ag (aU (aG (.o .bC 10 13)) a) (.next 0 [14,(.o .bC 10 13)]))) (.call 61 [0,12,Og] 1 (.call 61 [0,13,ap2] 1 (.call 67 [0,14] 2 (.call 64 [0,16,ap3] 2 (.ite 17 (.call 67 [0,18] 2 (.call 61 [0,20,ap9] 1 (.call 67 [0,21] 2 (.aa [2,10,15,19,22,23])))) (.aa [2,10,15,(.i 0),(.i 0),18]))))))))))))))
def Bx:KL:=[aB,ao,aw,aD,ko]
def m6:KP:=kn Bx [hq 3004023600003 [] hl8 [(0,(1,0)),(3,(1,3))]] ⟨202,202,[lP],(.c anw)⟩ Tryz.call202 jg
def nX:TL:=
 let a:Ex:= .o .bC 9 (cq [10,11,12] .nil)
 let b:TL:= .call 242 [0,8,7] 4 (.ag (aU (aG a) (.i 3518437208883)) (.call 64 [0,13,Wh] 2 (.ite 14 (.next 0 [(.i 1),15,a]) (.call 64 [0,15,RO] 2 (.ite 16 (.next 0 [(.i (-1)),17,a]) (.call 61 [0,17,ag0] 1 (.call 150 [0,18] 2 (.aa [2,a,19,20]))))))))
 .call 62 [0,1] 2 (.call 61 [0,3,sw9] 1 (.call 64 [0,4,RO] 2 (.ite 5 (.loop [(.i (-1)),6,.nil] b) (.loop [(.i 1),6,.nil] b))))
def Ek:KL:=[aB,ao,aw,iQ,cG]
def ph:KP:=kn Ek [hq 1003020300006 [(4,0)] [12,13,14,15,16,17,18,19,27,28,26,30,31,29,20,21,22,23,24,25] [(0,(1,0)),(2,(1,229))]] ⟨203,203,[lP],(.c aru)⟩ Tryz.call203 nX
def fe:TL:=
 let a:Ex:= .i 0
 .call 65 [0,1,(cq [asQ,ato,ap8,atm,asW] .nil)] 2 (.ite (bm 2 a) (.call 67 [0,3] 2 (.aa [(.i 1),4,a,a,.nil,.nil,5])) (.ite (bm 2 (.i 1)) (.call 67 [0,3] 2 (.call 67 [0,5] 2 (.aa [(.i 2),4,6,a,.nil,.nil,7]))) (.ite (bm 2 (.i 2)) (.call 282000233 [.nil,.nil,0,3,(.i 3),a,a,a] 3 (.aa [(.i 3),a,a,a,4,5,6])) (.ite (bm 2 (.i 3)) (.call 67 [0,3] 2 (.call 67 [0,5] 2 (.call 67 [0,7] 2 (.aa [(.i 4),6,8,4,.nil,.nil,9])))) (.call 67 [0,3] 2 (.call 67 [0,5] 2 (.aa [(.i 5),4,6,a,.nil,.nil,7])))))))
def CX:KL:=[bL,aD,mG]
def eO:KP:=kn CX [] ⟨235,235,[lP],(.c ak9)⟩ Tryz.call235 fe
def l9:TL:=
 .call 312 [1,2,3,4] 1 (.ite (aS (.i 60) 5) (.aa [(.i 6)]) (.call 313 [1,2,3,4] 1 (.ite (aS (.i 12) 6) (.aa [(.i 11)]) (.call 314 [0,1,2,3,4] 1 (.aa [7])))))
def FV:KL:=[KA,Kz,yc]
def rD:KP:=kn FV [] ⟨292,292,[(.g [cbA]),mT],(.c eA)⟩ Tryz.call292 l9
def sY:TL:=
 let a:Ex:=cq [(.i 19)] .nil
 .call 326 [0,1] 5 (.loop [6,2,3,4,5] (.call 147 [0,7,(cq [as7] .nil)] 2 (.ite (aS 12 (.i 0)) (.aa [8,9,10,11,13]) (.call 326 [0,13] 5 (.ag (aU (.i 0) 12) (.ag (aS 12 (aG a)) (.call 340 [(bG a 12),8,9,10,11,14,15,16,17] 4 (.next 0 [18,19,20,21,22]))))))))
def BL:nK:=⟨306,306,[lP],(.c mT)⟩
def uN:TL:=
 let a:Ex:=cq [(.i 18)] .nil
 .call 341 [0,1] 5 (.loop [6,2,3,4,5] (.call 147 [0,7,(cq [asP] .nil)] 2 (.ite (aS 12 (.i 0)) (.aa [8,9,10,11,13]) (.call 341 [0,13] 5 (.ag (aU (.i 0) 12) (.ag (aS 12 (aG a)) (.call 340 [(bG a 12),8,9,10,11,14,15,16,17] 4 (.next 0 [18,19,20,21,22]))))))))
def Dd:nK:=⟨326,326,[lP],(.c mT)⟩
def nY:TL:=
 .call 64 [0,1,axr] 2 (.ite 2 (.call 341 [0,3] 5 (.aa [(.i 6),jf,(.i 0),(cq [(cq [4,5,6,7] .nil)] .nil),8])) (.call 355 [0,3] 5 (.aa [4,5,6,7,8])))
def De:nK:=⟨341,341,[lP],(.c mT)⟩
def cV:TL:=
 .call 358 [0,1] 5 (.call 64 [0,6,ag0] 2 (.ite 7 (.call 358 [0,8] 5 (.call 340 [(.i 14),2,3,4,5,9,10,11,12] 4 (.aa [14,15,16,17,13]))) (.call 64 [0,8,(.s [33,61])] 2 (.ite 9 (.call 358 [0,10] 5 (.call 340 [(.i 15),2,3,4,5,11,12,13,14] 4 (.aa [16,17,18,19,15]))) (.call 64 [0,10,(.s [60])] 2 (.ite 11 (.call 358 [0,12] 5 (.call 340 [(.i 16),2,3,4,5,13,14,15,16] 4 (.aa [18,19,20,21,17]))) (.call 64 [0,12,(.s [60,61])] 2 (.ite 13 (.call 358 [0,14] 5 (.call 340 [(.i 17),2,3,4,5,15,16,17,18] 4 (.aa [20,21,22,23,19]))) (.call 64 [0,14,(.s [62])] 2 (.ite 15 (.call 358 [0,16] 5 (.call 340 [(.i 16),17,18,19,20,2,3,4,5] 4 (.aa [22,23,24,25,21]))) (.call 64 [0,16,(.s [62,61])] 2 (.ite 17 (.call 358 [0,18] 5 (.call 340 [(.i 17),19,20,21,22,2,3,4,5] 4 (.aa [24,25,26,27,23]))) (.aa [2,3,4,5,18])))))))))))))
def sb:nK:=⟨355,355,[lP],(.c mT)⟩
def uR:TL:=
 let a:Ex:=cq [(.i 9),(.i 10)] .nil
 .call 359 [0,1] 5 (.loop [6,2,3,4,5] (.call 147 [0,7,(cq [Wh,RO] .nil)] 2 (.ite (aS 12 (.i 0)) (.aa [8,9,10,11,13]) (.call 359 [0,13] 5 (.ag (aU (.i 0) 12) (.ag (aS 12 (aG a)) (.call 340 [(bG a 12),8,9,10,11,14,15,16,17] 4 (.next 0 [18,19,20,21,22]))))))))
def Df:nK:=⟨358,358,[lP],(.c mT)⟩
def oL:TL:=
 let a:Ex:=cq [(.i 11),(.i 12),(.i 13)] .nil
 .call 360 [0,1] 5 (.loop [6,2,3,4,5] (.call 147 [0,7,(cq [agZ,(.s [47]),(.s [37])] .nil)] 2 (.ite (aS 12 (.i 0)) (.aa [8,9,10,11,13]) (.call 360 [0,13] 5 (.ag (aU (.i 0) 12) (.ag (aS 12 (aG a)) (.call 340 [(bG a 12),8,9,10,11,14,15,16,17] 4 (.next 0 [18,19,20,21,22]))))))))
def wD:nK:=⟨359,359,[lP],(.c mT)⟩
def lG:TL:=
 .call 64 [0,1,RO] 2 (.ite 2 (.call 360 [0,3] 5 (.aa [(.i 5),jf,(.i 0),(cq [(cq [4,5,6,7] .nil)] .nil),8])) (.call 361 [0,3] 5 (.aa [4,5,6,7,8])))
def xG:nK:=⟨360,360,[lP],(.c mT)⟩
def bh:TL:=
 .call 153 [0,1] 5 (.ite (bm 2 (.i 2)) (.call 67 [0,6] 2 (.aa [(.i 1),jf,7,.nil,8])) (.call 143 [0,6] 2 (.ite 7 (.call 62 [0,8] 2 (.aa [(.i 3),9,(.i 0),.nil,10])) (.call 362 [0,8] 6 (.ite 13 (.aa [9,10,11,12,14]) (.call 64 [0,14,Mw] 2 (.ite 15 (.call 306 [0,16] 5 (.call 61 [0,21,Og] 1 (.aa [17,18,19,20,22]))) (.call 64 [0,16,al9] 2 (.ite 17 (.aa [(.i 2),jf,(.i 1),.nil,18]) (.call 64 [0,18,al4] 2 (.ite 19 (.aa [(.i 2),jf,(.i 0),.nil,20]) (.call 64 [0,20,as5] 2 (.ite 21 (.aa [(.i 4),jf,(.i 0),.nil,22]) (.call 64 [0,22,asT] 2 (.ite 23 (.call 363 [0,24,(.i 7),(.i 1)] 5 (.aa [25,26,27,28,29])) (.call 64 [0,24,atn] 2 (.ite 25 (.call 363 [0,26,(.i 8),(.i 1)] 5 (.aa [27,28,29,30,31])) (.call 64 [0,26,as3] 2 (.ite 27 (.call 363 [0,28,(.i 20),(.i 2)] 5 (.aa [29,30,31,32,33])) (.call 64 [0,28,as2] 2 (.ite 29 (.call 363 [0,30,(.i 21),(.i 2)] 5 (.aa [31,32,33,34,35])) (.call 64 [0,30,asV] 2 (.ite 31 (.call 364 [0,32,(.i 22)] 5 (.aa [33,34,35,36,37])) (.call 64 [0,32,ati] 2 (.ite 33 (.call 364 [0,34,(.i 23)] 5 (.aa [35,36,37,38,39])) (.call 64 [0,34,atq] 2 (.ite 35 (.call 364 [0,36,(.i 24)] 5 (.aa [37,38,39,40,41])) (.call 142 [0,36] 1 (.aa [(.i 0),jf,(.i 0),.nil,37])))))))))))))))))))))))))))))
def wC:nK:=⟨361,361,[lP],(.c mT)⟩
def nk:TL:=
 let a:Ex:= .o .bC 7 (cq [9,10,11,12] .nil)
 let b:Ex:= .o .bC 7 (cq [8,9,10,11] .nil)
 .call 61 [0,1,Mw] 1 (.loop [(.i 0),4,.nil] (.ite (aS 5 3) (.ite (aS (.i 0) 5) (.call 61 [0,6,(.s [44])] 1 (.call 306 [0,8] 5 (.ag (aU (aG a) (.i 2513169434916)) (.next 0 [(eu 5),13,a])))) (.call 306 [0,6] 5 (.ag (aU (aG b) (.i 2513169434916)) (.next 0 [(eu 5),12,b])))) (.call 61 [0,6,Og] 1 (.aa [2,jf,(.i 0),7,8]))))
def BK:nK:=⟨363,363,[lP,eA,eA],(.c mT)⟩
def cL:KL:=[gp,yf,aw,aW,aD,dJ,aB,dO,ao,ja,iO]
def cz:nw:=[BL,Dd,De,sb,Df,wD,xG,wC,BK]
def B9:Mm cz cL:=mq BL [⟨4004032500002,[],[14,15,16,10,17,18,19,20,21,11,22,23,24,25,26,27,28],[(0,(1,0)),(3,(0,0)),(3,(1,0)),(3,(2,0))],[],[],[(3,3,(.sl 105))],[1],[],0⟩] Tryz.call306 sY
def Do:Mm cz cL:=mq Dd [⟨4004032500002,[],[14,15,16,10,17,18,19,20,21,11,22,23,24,25,26,27,28],[(0,(1,0)),(3,(0,0)),(3,(1,0)),(3,(2,0))],[],[],[(3,3,(.sl 105))],[1],[],0⟩] Tryz.call326 uN
def Dp:Mm cz cL:=mq De [] Tryz.call341 nY
def sK:Mm cz cL:=mq sb [] Tryz.call355 cV
def Dq:Mm cz cL:=mq Df [⟨4004032500002,[],[14,15,16,10,17,18,19,20,21,11,22,23,24,25,26,27,28],[(0,(1,0)),(3,(0,0)),(3,(1,0)),(3,(2,0))],[],[],[(3,3,(.sl 105))],[1],[],0⟩] Tryz.call358 uR
def wV:Mm cz cL:=mq wD [⟨4004032500002,[],[14,15,16,10,17,18,19,20,21,11,22,23,24,25,26,27,28],[(0,(1,0)),(3,(0,0)),(3,(1,0)),(3,(2,0))],[],[],[(3,3,(.sl 105))],[1],[],0⟩] Tryz.call359 oL
def yp:Mm cz cL:=mq xG [] Tryz.call360 lG
def wU:Mm cz cL:=mq wC [] Tryz.call361 bh
def B8:Mm cz cL:=mq BK [hq 1003036300004 [(14,0)] [15,16,8,17,18,19,20,21,22,23,24,25,26,27,28] [(0,(1,0)),(2,(3,105))]] Tryz.call363 nk
def aL:Fm:={L:=cL,cs:=cz,ms:=[B9,Do,Dp,sK,Dq,wV,yp,wU,B8]}
def af:=aL.g
theorem bI (k:Nat):af k 147=gp.F:=aL.out k (j:=0) (x:=gp) rfl
theorem bJ (k:Nat):af k 340=yf.F:=aL.out k (j:=1) (x:=yf) rfl
theorem aQ (k:Nat):af k 64=aw.F:=aL.out k (j:=2) (x:=aw) rfl
theorem bn (k:Nat):af k 153=aW.F:=aL.out k (j:=3) (x:=aW) rfl
theorem Js (k:Nat):af k 67=aD.F:=aL.out k (j:=4) (x:=aD) rfl
theorem bu (k:Nat):af k 143=dJ.F:=aL.out k (j:=5) (x:=dJ) rfl
theorem Jr (k:Nat):af k 62=aB.F:=aL.out k (j:=6) (x:=aB) rfl
theorem bz (k:Nat):af k 362=dO.F:=aL.out k (j:=7) (x:=dO) rfl
theorem oE (k:Nat):af k 61=ao.F:=aL.out k (j:=8) (x:=ao) rfl
theorem nB (k:Nat):af k 364=ja.F:=aL.out k (j:=9) (x:=ja) rfl
theorem Ny (k:Nat) (l:aP):af (k+1) 306 l=if l.length=2 then sY.bR (af k) l []else none:=aL.step k (i:=0) (m:=B9) rfl l
theorem Pj (k:Nat) (l:aP):af (k+1) 326 l=if l.length=2 then uN.bR (af k) l []else none:=aL.step k (i:=1) (m:=Do) rfl l
theorem Di (k:Nat) (l:aP):af (k+1) 341 l=if l.length=2 then nY.bR (af k) l []else none:=aL.step k (i:=2) (m:=Dp) rfl l
theorem sr (k:Nat) (l:aP):af (k+1) 355 l=if l.length=2 then cV.bR (af k) l []else none:=aL.step k (i:=3) (m:=sK) rfl l
theorem Pk (k:Nat) (l:aP):af (k+1) 358 l=if l.length=2 then uR.bR (af k) l []else none:=aL.step k (i:=4) (m:=Dq) rfl l
theorem Il (k:Nat) (l:aP):af (k+1) 359 l=if l.length=2 then oL.bR (af k) l []else none:=aL.step k (i:=5) (m:=wV) rfl l
theorem xP (k:Nat) (l:aP):af (k+1) 360 l=if l.length=2 then lG.bR (af k) l []else none:=aL.step k (i:=6) (m:=yp) rfl l
theorem br (k:Nat) (l:aP):af (k+1) 361 l=if l.length=2 then bh.bR (af k) l []else none:=aL.step k (i:=7) (m:=wU) rfl l
theorem BS (k:Nat) (l:aP):af (k+1) 363 l=if l.length=4 then nk.bR (af k) l []else none:=aL.step k (i:=8) (m:=B8) rfl l
def bK:KP:=aL.at 0
theorem Mo:bK.F=af (aF+1) 306:=aL.top _ _ _ rfl
def qW:TL:=
 let a:Ex:= .i 0
 .call 62 [0,1] 2 (.call 306 [0,4] 5 (.aa [2,3,jf,5,6,7,8,a,jf,a,.nil,.nil,a,a,a,a,.nil,.nil,(.b false),.nil,.nil,9]))
def Bw:KL:=[aB,bK]
def m5:KP:=kn Bw [] ⟨308,308,[lP,eA],(.c Mg)⟩ Tryz.call308 qW
def mu:TL:=
 let a:Ex:=cq [(.i 0),jf,(.i 0),.nil] .nil
 let b:Ex:=aG (.o .bC .nil a)
 let c:Ex:=aG (.o .bC 11 a)
 .call 61 [0,1,Mw] 1 (.call 64 [0,2,Og] 2 (.ite 3 (.aa [.nil,4]) (.call 306 [0,4] 5 (.ag (aU b (.i 2513169434916)) (.ag (aS (.i 0) b) (.loop [9,(.t .Yh (.o .bC .nil a) (.i 0) (cq [5,6,7,8] .nil))] (.call 64 [0,10,(.s [44])] 2 (.ite 12 (.call 306 [0,13] 5 (.ag (aU c (.i 2513169434916)) (.ag (aU (.i 0) (aG 11)) (.ag (aS (aG 11) c) (.next 0 [18,(.t .Yh (.o .bC 11 a) (aG 11) (cq [14,15,16,17] .nil))]))))) (.call 61 [0,13,Og] 1 (.aa [11,14]))))))))))
def Bt:KL:=[ao,aw,bK]
def mZ:KP:=kn Bt [hq 4003023600003 [] hl8 [(0,(1,0)),(2,(0,105))]] ⟨327,327,[lP],(.c gq6)⟩ Tryz.call327 mu
def eN:TL:=
 let a:Ex:= .i 0
 .call 62 [0,1] 2 (.call 67 [0,3] 2 (.call 64 [0,5,ap7] 2 (.ite 6 (.call 235000233 [.nil,0,7,2,4,a,jf,a,a,a,a,.nil,.nil,a,a,a,a,.nil,.nil] 2 (.call 61 [0,9,asR] 1 (.call 67 [0,10] 2 (.call 64 [0,12,al5] 2 (.ite 13 (.call 62 [0,14] 2 (.call 61 [0,16,ama] 1 (.call 235 [0,17] 7 (.call 61 [0,24,al3] 1 (.call 235 [0,25] 7 (.aa [2,4,8,11,15,18,19,20,21,22,23,26,27,28,29,30,31,32])))))) (.aa [2,4,8,11,jf,a,a,a,a,.nil,.nil,a,a,a,a,.nil,.nil,14])))))) (.call 64 [0,7,al5] 2 (.ite 8 (.call 62 [0,9] 2 (.call 61 [0,11,ama] 1 (.call 235 [0,12] 7 (.call 61 [0,19,al3] 1 (.call 235 [0,20] 7 (.aa [2,4,.nil,a,10,13,14,15,16,17,18,21,22,23,24,25,26,27])))))) (.aa [2,4,.nil,a,jf,a,a,a,a,.nil,.nil,a,a,a,a,.nil,.nil,9]))))))
def wq:KL:=[aB,aD,aw,mF,ao,eO]
def kp:KP:=kn wq [] ⟨199,199,[lP],(.c anx)⟩ Tryz.call199 eN
def Hy:TL:=
 .call 292 [(.b false),0,1,2,3] 1 (.aa [4])
def Sh:KL:=[rD]
def jA:KP:=kn Sh [] ⟨253,253,[mT],(.c eA)⟩ Tryz.call253 Hy
def HO:TL:=
 let a:Ex:= .i 0
 let b:Ex:=cq [(cq [21,1] .nil),(cq [22,2] .nil)] .nil
 let c:TL:= .next 0 [(eu 30)]
 let d:Ex:=cq [(cq [23,3,4,5,6] .nil),(cq [24,7,8,9,10] .nil)] .nil
 let e:Ex:=bG d 31
 let f:TL:= .next 1 [(eu 31)]
 let g:Ex:=bG 11 32
 .loop [a] (.ite (aS 30 (aG b)) (.ag (aU a 30) (.ag (aS 30 (aG b)) (.call 37 [(bE 1 (bG b 30))] 1 (.ite (bE 0 (bG b 30)) (.ite (gq 31 a) (.aa [31]) c) c)))) (.loop [a] (.ite (aS 31 (aG d)) (.ag (aU a 31) (.ag (aS 31 (aG d)) (.ite (jK (bE 0 e)) f (.call 253 (nI e [1,2,3,4]) 1 (.ite (gq 32 a) (.aa [32]) f))))) (.ite (aS (.i 6) (aG 11)) (.aa [(.i 6)]) (.loop [a] (.ite (aS 32 (aG 11)) (.ag (aU a 32) (.ag (aS 32 (aG 11)) (.call 253 (nI g [0,1,2,3]) 1 (.ite (gq 33 a) (.aa [33]) (.next 2 [(eu 32)]))))) (.ite 26 (.call 175 [12,13,14,15,16,17] 1 (.aa [33])) (.aa [a]))))))))
def SA:KL:=[dB,jA,jz]
def yi:KP:=kn SA [hq 9002026700019 [(74,0)] [75,76,77,12,78,79,13,80,81,82,4,83] [],hq 9002026700009 [(53,0)] [54,55,56,9,57,58,59,60,61,62,10,63,64,65,4,66] [],hq 8002026700002 [(26,0)] [27,28,29,6,30,31,32,7,33,34,35,36,37,38,39,4,40] []] ⟨267,267,[Mg,avB],(.c eA)⟩ Tryz.call267 HO
def dy:TL:=
 let a:Ex:=jf
 let b:Ex:= .i 0
 let c:Ex:= .b false
 let d:Ex:= .b true
 .call 64 [0,1,atf] 2 (.ite 2 (.call 62 [0,3] 2 (.call 61 [0,5,ag0] 1 (.call 306 [0,6] 5 (.aa [(.i 1),4,a,7,8,9,10,b,a,b,.nil,.nil,b,b,b,b,.nil,.nil,c,.nil,.nil,d,11])))) (.call 64 [0,3,asS] 2 (.ite 4 (.call 62 [0,5] 2 (.call 61 [0,7,al6] 1 (.call 62 [0,8] 2 (.call 235 [0,10] 7 (.aa [(.i 2),6,9,b,a,b,.nil,b,a,b,.nil,.nil,11,12,13,14,15,16,c,.nil,.nil,d,17]))))) (.call 64 [0,5,asY] 2 (.ite 6 (.call 306 [0,7] 5 (.aa [(.i 5),a,a,8,9,10,11,b,a,b,.nil,.nil,b,b,b,b,.nil,.nil,c,.nil,.nil,d,12])) (.call 64 [0,7,ate] 2 (.ite 8 (.call 62 [0,9] 2 (.call 61 [0,11,(.s [46])] 1 (.call 62 [0,12] 2 (.call 327 [0,14] 2 (.call 61 [0,16,ap1] 1 (.call 306 [0,17] 5 (.aa [(.i 13),13,10,18,19,20,21,b,a,b,.nil,15,b,b,b,b,.nil,.nil,c,.nil,.nil,d,22]))))))) (.call 64 [0,9,atj] 2 (.ite 10 (.call 62 [0,11] 2 (.call 327 [0,13] 2 (.call 61 [0,15,ap1] 1 (.call 306 [0,16] 5 (.aa [(.i 14),12,a,17,18,19,20,b,a,b,.nil,14,b,b,b,b,.nil,.nil,c,.nil,.nil,d,21]))))) (.call 64 [0,11,atl] 2 (.ite 12 (.aa [(.i 18),a,a,b,a,b,.nil,b,a,b,.nil,.nil,b,b,b,b,.nil,.nil,c,.nil,.nil,d,13]) (.aa [b,a,a,b,a,b,.nil,b,a,b,.nil,.nil,b,b,b,b,.nil,.nil,c,.nil,.nil,c,13]))))))))))))
def CY:KL:=[aw,aB,ao,bK,eO,mZ]
def fC:KP:=kn CY [] ⟨283,283,[lP],(.t [Mg,vD])⟩ Tryz.call283 dy
def bX:TL:=
 let a:Ex:= .b true
 let b:Ex:= .i 0
 let c:Ex:= .b false
 .call 64 [0,1,atd] 2 (.ite 2 (.call 308 [0,3,(.i 6)] 22 (.call 61 [0,25,as9] 1 (.call 306 [0,26] 5 (.call 64 [0,31,ap5] 2 (.aa [4,5,6,7,8,9,10,27,28,29,30,15,16,17,18,19,20,21,32,23,24,a,33]))))) (.call 64 [0,3,atb] 2 (.ite 4 (.call 308 [0,5,(.i 7)] 22 (.aa [6,7,8,9,10,11,12,13,14,15,16,17,18,19,20,21,22,23,24,25,26,a,27])) (.call 64 [0,5,ata] 2 (.ite 6 (.call 306 [0,7] 5 (.call 61 [0,12,as0] 1 (.call 62 [0,13] 2 (.aa [(.i 8),14,jf,8,9,10,11,b,jf,b,.nil,.nil,b,b,b,b,.nil,.nil,c,.nil,.nil,a,15])))) (.call 64 [0,7,asX] 2 (.ite 8 (.call 62 [0,9] 2 (.call 61 [0,11,al6] 1 (.call 62 [0,12] 2 (.aa [(.i 9),13,10,b,jf,b,.nil,b,jf,b,.nil,.nil,b,b,b,b,.nil,.nil,c,.nil,.nil,a,14])))) (.call 64 [0,9,atc] 2 (.ite 10 (.call 62 [0,11] 2 (.aa [(.i 10),12,jf,b,jf,b,.nil,b,jf,b,.nil,.nil,b,b,b,b,.nil,.nil,c,.nil,.nil,a,13])) (.call 64 [0,11,atp] 2 (.ite 12 (.call 62 [0,13] 2 (.aa [(.i 11),14,jf,b,jf,b,.nil,b,jf,b,.nil,.nil,b,b,b,b,.nil,.nil,c,.nil,.nil,a,15])) (.call 64 [0,13,atg] 2 (.ite 14 (.call 308 [0,15,(.i 12)] 22 (.aa [16,17,18,19,20,21,22,23,24,25,26,27,28,29,30,31,32,33,34,35,36,a,37])) (.call 64 [0,15,as6] 2 (.ite 16 (.call 308 [0,17,(.i 15)] 22 (.aa [18,19,20,21,22,23,24,25,26,27,28,29,30,31,32,33,34,35,36,37,38,a,39])) (.call 64 [0,17,ag1] 2 (.ite 18 (.call 308 [0,19,(.i 16)] 22 (.aa [20,21,22,23,24,25,26,27,28,29,30,31,32,33,34,35,36,37,38,39,40,a,41])) (.call 64 [0,19,asO] 2 (.ite 20 (.call 308 [0,21,(.i 17)] 22 (.aa [22,23,24,25,26,27,28,29,30,31,32,33,34,35,36,37,38,39,40,41,42,a,43])) (.aa [b,jf,jf,b,jf,b,.nil,b,jf,b,.nil,.nil,b,b,b,b,.nil,.nil,c,.nil,.nil,c,21]))))))))))))))))))))
def Em:KL:=[aw,m5,ao,bK,aB]
def jn:KP:=kn Em [] ⟨284,284,[lP],(.t [Mg,vD])⟩ Tryz.call284 bX
def Fa:TL:=
 .call 253 [15,16,17,18] 1 (.ite (gq 19 (.i 0)) (.aa [(.i 0),19]) (.call 328 [0,1,2,3,4,5,6,7,8,9,10,11,12,13,14,15,16,17,18] 2 (.aa [20,21])))
def P3:KL:=[jA,Ho]
def lM:KP:=kn P3 [] ⟨311,311,[avE,mT],(.t [eA,eA])⟩ Tryz.call311 Fa
def HN:TL:=
 let a:Ex:=bG 0 1
 let b:EL:=nI a [0,1,2,3,4,5,6,7,8,9,10,11,12,13,14,15,16,17,18,19,20]++[2,3,4,5,6,7,8,9,10]
 .loop [(.i 0)] (.ite (aS 1 (aG 0)) (.ag (aU (.i 0) 1) (.ag (aS 1 (aG 0)) (.call 265 [(bE 0 a)] 10 (.ite (jK 11) (.aa [(.i 1)]) (.call 266 b 1 (.ite (jK 12) (.aa [(.i 1)]) (.call 267 b 1 (.ite (gq 13 (.i 0)) (.aa [13]) (.call 220 [(bE 19 a)] 1 (.ite (gq 14 (.i 0)) (.aa [14]) (.call 220 [(bE 20 a)] 1 (.ite (gq 15 (.i 0)) (.aa [15]) (.next 0 [(eu 1)]))))))))))))) (.aa [(.i 0)]))
def Qg:nK:=⟨220,220,[gq5],(.c eA)⟩
def PJ:KL:=[B7,B6,yi]
def M8:nw:=[Qg]
def QA:Mm M8 PJ:=mq Qg [hq 1000022000002 [(12,0)] [13,14,15,4,17,18,19,16,20,21,5,6,22,23,24,25,26,27,28,29,2,30,31,32,7,33,34,35,36,37,38,8,39,40,41,42,43,44,9,45,46,47,48] []] Tryz.call220 HN
def kO:Fm:={L:=PJ,cs:=M8,ms:=[QA]}
def nu:=kO.g
theorem Gj (k:Nat):nu k 265=B7.F:=kO.out k (j:=0) (x:=B7) rfl
theorem T1 (k:Nat):nu k 266=B6.F:=kO.out k (j:=1) (x:=B6) rfl
theorem T2 (k:Nat):nu k 267=yi.F:=kO.out k (j:=2) (x:=yi) rfl
theorem abQ (k:Nat) (l:aP):nu (k+1) 220 l=if l.length=1 then HN.bR (nu k) l []else none:=kO.step k (i:=0) (m:=QA) rfl l
def KG:KP:=kO.at 0
theorem aai:KG.F=nu (aF+1) 220:=kO.top _ _ _ rfl
def qX:TL:=
 let a:Ex:= .o .bC 2 (cq [50,51,52,53,54,55,56,57,58,59,60,61,62,63,64,65,66,67,68,69,70] .nil)
 let b:Ex:= .i 451081693446
 let c:Ex:= .o .bC 2 (cq [27,28,29,30,31,32,33,34,35,36,37,38,39,40,41,42,43,44,45,46,47] .nil)
 let d:TL:= .ite (jK 48) (.aa [2,49]) (.ag (aU (aG c) b) (.call 63 [0,49] 1 (.next 0 [c,50])))
 let e:Ex:= .o .bC 2 (cq [4,5,6,7,8,9,10,11,12,13,14,15,16,17,18,19,20,21,22,23,24] .nil)
 .loop [.nil,1] (.call 282 [0,3] 23 (.ite (jK 25) (.call 283 [0,26] 23 (.ite (jK 48) (.call 284 [0,49] 23 (.ite (jK 71) (.aa [2,72]) (.ag (aU (aG a) b) (.call 63 [0,72] 1 (.next 0 [a,73]))))) d)) (.ite (jK 25) (.call 284 [0,26] 23 d) (.ite (jK 25) (.aa [2,26]) (.ag (aU (aG e) b) (.call 63 [0,26] 1 (.next 0 [e,27])))))))
def zV:nK:=⟨239,239,[lP],(.c gq5)⟩
def fq:TL:=
 let a:Ex:= .i 0
 let b:Ex:= .b false
 .call 64 [0,1,asZ] 2 (.ite 2 (.call 306 [0,3] 5 (.call 63 [0,8] 1 (.call 239 [0,9] 2 (.call 64 [0,11,asU] 2 (.ite 12 (.call 63 [0,13] 1 (.call 239 [0,14] 2 (.call 61 [0,16,Uq] 1 (.aa [(.i 3),jf,jf,4,5,6,7,a,jf,a,.nil,.nil,a,a,a,a,.nil,.nil,b,10,15,(.b true),17])))) (.call 61 [0,13,Uq] 1 (.aa [(.i 3),jf,jf,4,5,6,7,a,jf,a,.nil,.nil,a,a,a,a,.nil,.nil,b,10,.nil,(.b true),14]))))))) (.call 64 [0,3,axs] 2 (.ite 4 (.call 306 [0,5] 5 (.call 63 [0,10] 1 (.call 239 [0,11] 2 (.call 61 [0,13,Uq] 1 (.aa [(.i 4),jf,jf,6,7,8,9,a,jf,a,.nil,.nil,a,a,a,a,.nil,.nil,b,12,.nil,(.b true),14]))))) (.aa [a,jf,jf,a,jf,a,.nil,a,jf,a,.nil,.nil,a,a,a,a,.nil,.nil,b,.nil,.nil,b,5]))))
def xH:nK:=⟨282,282,[lP],(.t [Mg,vD])⟩
def qG:KL:=[fC,jn,bW,aw,bK,ao]
def o8:nw:=[zV,xH]
def Aj:Mm o8 qG:=mq zV [hq 1001023900002 [(3,111)] [7,8,6,9,10,4,5,11,12,14,15,13,16,17,18,19,21,22,20,23,24,25,26,27,2,28,29,30,31,32,33] [(0,(1,0))]] Tryz.call239 qX
def yq:Mm o8 qG:=mq xH [] Tryz.call282 fq
def bM:Fm:={L:=qG,cs:=o8,ms:=[Aj,yq]}
def bB:=bM.g
theorem mK (k:Nat):bB k 283=fC.F:=bM.out k (j:=0) (x:=fC) rfl
theorem ut (k:Nat):bB k 284=jn.F:=bM.out k (j:=1) (x:=jn) rfl
theorem eM (k:Nat):bB k 63=bW.F:=bM.out k (j:=2) (x:=bW) rfl
theorem jI (k:Nat):bB k 64=aw.F:=bM.out k (j:=3) (x:=aw) rfl
theorem mL (k:Nat):bB k 306=bK.F:=bM.out k (j:=4) (x:=bK) rfl
theorem nC (k:Nat):bB k 61=ao.F:=bM.out k (j:=5) (x:=ao) rfl
theorem Md (k:Nat) (l:aP):bB (k+1) 239 l=if l.length=2 then qX.bR (bB k) l []else none:=bM.step k (i:=0) (m:=Aj) rfl l
theorem xQ (k:Nat) (l:aP):bB (k+1) 282 l=if l.length=2 then fq.bR (bB k) l []else none:=bM.step k (i:=1) (m:=yq) rfl l
def jZ:KP:=bM.at 0
theorem KC:jZ.F=bB (aF+1) 239:=bM.top _ _ _ rfl
def xc:TL:=
 .call 311 [5,6,7,8,9,10,11,12,13,14,15,16,17,18,19,20,21,22,23] 2 (.ite (gq 26 (.i 0)) (.aa [26]) (.loop [(.i 0)] (.ite (aS 27 (aG 24)) (.ag (aU (.i 0) 27) (.ag (aS 27 (aG 24)) (.ite (bm 25 (bG 24 27)) (.aa [(.i 0)]) (.next 0 [(eu 27)])))) (.aa [(.i 10)]))))
def xx:KL:=[lM]
def cr:KP:=kn xx [hq 19002028800005 [(25,0)] [26,27,28,10,29,30,31,6,32] []] ⟨288,288,[abS,mT,(.a (jy 84))],(.c eA)⟩ Tryz.call288 xc
def xa:TL:=
 let a:Ex:=bG 42 44
 .call 287 [0,1,2,3,4,5,6,7,8,9,10,11,12,13,14,15,16,17,18,19,21,41] 1 (.ite (jK 43) (.aa [(.i 5)]) (.loop [(.i 0)] (.ite (aS 44 (aG 42)) (.ag (aU (.i 0) 44) (.ag (aS 44 (aG 42)) (.call 288 ([0,1,2,3,4,5,6,7,8,9,10,11,12,13,14,15,16,17,18,19]++nI a [0,1,2,3]++[(cq [(.i 1)] .nil)]) 1 (.ite (gq 45 (.i 0)) (.aa [45]) (.next 0 [(eu 44)]))))) (.aa [(.i 0)]))))
def xw:KL:=[iR,cr]
def lC:KP:=kn xw [hq 25002028900004 [(20,0)] [21,22,23,10,24,25,26,27,11,28,29,30,8,31] []] ⟨289,289,[abS,Mg,AB,gq6],(.c eA)⟩ Tryz.call289 xa
def zj:TL:=
 let a:Ex:=bG 35 45
 .ite (gq (aG 35) (aG 21)) (.aa [(.i 8)]) (.loop [(.i 0)] (.ite (aS 45 (aG 35)) (.ag (aU (.i 0) 45) (.ag (aS 45 (aG 35)) (.ag (aU (.i 0) 45) (.ag (aS 45 (aG 21)) (.call 288 ([0,1,2,3,4,5,6,7,8,9,10,11,12,13,14,15,16,17,18,19]++nI a [0,1,2,3]++[(cq [(bE 1 (bG 21 45))] .nil)]) 1 (.ite (gq 46 (.i 0)) (.aa [46]) (.next 0 [(eu 45)]))))))) (.call 288 [0,1,2,3,4,5,6,7,8,9,10,11,12,13,14,15,16,17,18,19,27,28,29,30,(cq [(.i 3)] .nil)] 1 (.aa [46]))))
def zN:KL:=[cr]
def fM:KP:=kn zN [hq 27003029100004 [(20,0)] [21,22,23,24,8,7,25,26,27,28,29,30,31,32,33,34,9,35,36,37,6,38] []] ⟨291,291,[abS,ah2,Mg],(.c eA)⟩ Tryz.call291 zj
def DX:TL:=
 let a:Ex:= .i 0
 let b:Ex:=bG 3 6
 let c:Ex:= .o .bC 4 (cq [7,8,9,10] .nil)
 let d:TL:= .aa [0,1,2,4]
 let e:TL:= .call 252 [7,9] 4 (.aa [10,11,12,13])
 .ite (bm (aG 3) a) (.aa [0,1,2,3]) (.ag (aU a (aG 3)) (.ag (aU (aG 3) (.i 16777216)) (.loop [.nil,.nil,a] (.ite (aS 6 (aG 3)) (.ag (aU a 6) (.ag (aS 6 (aG 3)) (.call 293 (nI b [0,1,2,3]) 4 (.ag (aU (aG c) (.i 2513169434916)) (.call 315 [7,8,9,10] 2 (.ite 12 (.ag (aU (aG (.o .bC 5 11)) (.i 17592186044416)) (.next 0 [c,(.o .bC 5 11),(eu 6)])) (.next 0 [c,5,(eu 6)]))))))) (.ite (bm 0 (.i 7)) d (.ite (aS (aG 5) (aG 4)) d (.call 311 [.nil,.nil,jf,.nil,.nil,.nil,.nil,.nil,.nil,.nil,.nil,.nil,.nil,.nil,.nil,0,1,2,4] 2 (.ite (gq 8 a) d (.ite (bm (aG 5) (.i 1)) (.ag (aS a (aG 5)) (.call 316 [0,(bG 5 a)] 1 e)) (.ag (aS a (aG 5)) (.ag (aS (.i 1) (aG 5)) (.call 317 [0,(bG 5 a),(bG 5 (.i 1))] 1 e))))))))))))
def SS:nK:=⟨293,293,[mT],(.c mT)⟩
def R6:KL:=[tI,lM,xZ,mW,vh]
def Qh:nw:=[SS]
def TW:Mm Qh R6:=mq SS [hq 2002029300006 [(3,105),(4,3),(23,0)] [24,25,26,6,27,28,29,30,31,32,34,35,33,36,37,7,8,38,39,40,41,42,43] []] Tryz.call293 DX
def iz:Fm:={L:=R6,cs:=Qh,ms:=[TW]}
def jr:=iz.g
theorem Jq (k:Nat):jr k 315=tI.F:=iz.out k (j:=0) (x:=tI) rfl
theorem V0 (k:Nat):jr k 311=lM.F:=iz.out k (j:=1) (x:=lM) rfl
theorem V1 (k:Nat):jr k 316=xZ.F:=iz.out k (j:=2) (x:=xZ) rfl
theorem Jp (k:Nat):jr k 252=mW.F:=iz.out k (j:=3) (x:=mW) rfl
theorem V2 (k:Nat):jr k 317=vh.F:=iz.out k (j:=4) (x:=vh) rfl
theorem aeb (k:Nat) (l:aP):jr (k+1) 293 l=if l.length=4 then DX.bR (jr k) l []else none:=iz.step k (i:=0) (m:=TW) rfl l
def NP:KP:=iz.at 0
theorem ab5:NP.F=jr (aF+1) 293:=iz.top _ _ _ rfl
def HK:TL:=
 .call 218 [0] 1 (.ite (aS (.i 200) 1) (.aa [(.i 6)]) (.call 219 [0] 1 (.ite (aS (.i 12) 2) (.aa [(.i 11)]) (.call 220 [0] 1 (.aa [3])))))
def Sz:KL:=[KE,KF,KG]
def tR:KP:=kn Sz [] ⟨176,176,[gq5],(.c eA)⟩ Tryz.call176 HK
def kK:TL:=
 let a:Ex:= .o .bC 9 (cq [12,13] .nil)
 let b:Ex:= .i 5864062014805
 let c:Ex:= .o .bC .nil (cq [7,8] .nil)
 let d:Ex:= .o .bC 11 (cq [14,15] .nil)
 let e:Ex:= .o .bC 17 (cq [20,21] .nil)
 .call 62 [0,1] 2 (.call 61 [0,3,Mw] 1 (.call 64 [0,4,Og] 2 (.ite 5 (.call 63 [0,6] 1 (.loop [7,.nil] (.call 64 [0,8,ap4] 2 (.ite 10 (.call 238 [0,11] 3 (.ag (aU (aG a) b) (.call 63 [0,14] 1 (.next 0 [15,a])))) (.call 239 [0,11] 2 (.call 61 [0,13,Uq] 1 (.aa [2,.nil,9,12,14]))))))) (.call 238 [0,6] 3 (.ag (aU (aG c) b) (.loop [9,c] (.call 64 [0,10,(.s [44])] 2 (.ite 12 (.call 238 [0,13] 3 (.ag (aU (aG d) b) (.next 0 [16,d]))) (.call 61 [0,13,Og] 1 (.call 63 [0,14] 1 (.loop [15,.nil] (.call 64 [0,16,ap4] 2 (.ite 18 (.call 238 [0,19] 3 (.ag (aU (aG e) b) (.call 63 [0,22] 1 (.next 1 [23,e])))) (.call 239 [0,19] 2 (.call 61 [0,21,Uq] 1 (.aa [2,11,17,20,22]))))))))))))))))
def xq:KL:=[aB,ao,aw,bW,jY,jZ]
def lx:KP:=kn xq [hq 4004020100004 [] hl9 [(0,(1,0)),(3,(2,114))],hq 1004020100004 [] hl9 [(0,(1,0)),(3,(2,114))],hq 3004023600003 [] hl8 [(0,(1,0)),(3,(1,114))]] ⟨201,201,[lP],(.c ah2)⟩ Tryz.call201 kK
def KZ:TL:=
 .call 253 [0,1,2,3] 1 (.ite (gq 4 (.i 0)) (.aa [0,1,2,3]) (.call 293 [0,1,2,3] 4 (.call 253 [5,6,7,8] 1 (.ite (gq 9 (.i 0)) (.aa [0,1,2,3]) (.aa [5,6,7,8])))))
def Wz:KL:=[jA,NP]
def B3:KP:=kn Wz [] ⟨254,254,[mT],(.c mT)⟩ Tryz.call254 KZ
def Ap:TL:=
 .call 309 [6,21] 2 (.ite (jK 42) (.loop [(.i 0)] (.ite (aS 43 (aG 8)) (.ag (aU (.i 0) 43) (.ag (aS 43 (aG 8)) (.ite (.o .seq (bE 0 (bG 8 43)) 21) (.call 288 [0,1,2,3,4,5,6,7,8,9,10,11,12,13,14,15,16,17,18,19,23,24,25,26,(cq [(bE 1 (bG 8 43))] .nil)] 1 (.aa [44])) (.next 0 [(eu 43)])))) (.aa [(.i 5)]))) (.call 288 [0,1,2,3,4,5,6,7,8,9,10,11,12,13,14,15,16,17,18,19,23,24,25,26,(cq [41] .nil)] 1 (.aa [43])))
def BG:KL:=[fR,cr]
def m9:KP:=kn BG [hq 24002028500004 [(29,0)] [30,31,32,8,33,34,35,36,37,38,39,40,41,42,43,44,4,45] []] ⟨285,285,[abS,Mg],(.c eA)⟩ Tryz.call285 Ap
def pH:TL:=
 let a:Ex:=bG 2 41
 let b:Ex:=bG (bE 10 a) 42
 .call 32 [0,1,2,3,22] 1 (.ite (aS 41 (.i 0)) (.aa [(.i 5)]) (.ag (aU (.i 0) 41) (.ag (aS 41 (aG 2)) (.call 139 (nI a [0,1,2,3,4,5,6,7,8,9,10,11,12]++[21]) 1 (.ite (aS 42 (.i 0)) (.aa [(.i 5)]) (.call 296 [0,1,2,3,7,22] 2 (.ite (jK 44) (.aa [(.i 16)]) (.ag (aU (.i 0) 41) (.ag (aS 41 (aG 2)) (.ag (aU (.i 0) 42) (.ag (aS 42 (aG (bE 10 a))) (.call 291 ([0,1,2,3,4,5,6,7,8,9,10,11,12,13,14,15,16,17,18,19]++nI b [0,1,2,3]++[20,21,22,23,24,25,26,27,28,29,30,31,32,33,34,35,36,37,38,39,40]) 1 (.aa [45])))))))))))))
def zP:KL:=[fV,bx,tN,fM]
def jd:KP:=kn zP [] ⟨290,290,[abS,Mg],(.c eA)⟩ Tryz.call290 pH
def tg:TL:=
 let a:Ex:= .i 8796093022208
 let b:EL:=[0,31]
 let c:Ex:=cq [32,33,34] .nil
 let d:Ex:= .i 4398046511104
 let e:Ex:= .o .bC 12 (cq [32,33,34,35,36,37,38,39,40,41,42,43,44,45,46,47,48] .nil)
 let f:Ex:=cq [32,34,36] .nil
 let g:Ex:= .o .bC 15 (cq [32,33,34,35] .nil)
 let h:Ex:= .o .bC 16 (cq [32,33,34,35,36] .nil)
 .call 62 [0,1] 2 (.call 63 [0,3] 1 (.loop [4,.nil,.nil,.nil,.nil,.nil,.nil,.nil,.nil,.nil,.nil,.nil,.nil] (.call 64 [0,5,Uq] 2 (.ite (jK 18) (.call 64 [0,19,aeV] 2 (.ite 20 (.call 62 [0,21] 2 (.ag (aU (aG (.o .bC 6 22)) a) (.call 63 [0,23] 1 (.next 0 [24,(.o .bC 6 22),7,8,9,10,11,12,13,14,15,16,17])))) (.call 64 [0,21,al7] 2 (.ite 22 (.call 62 [0,23] 2 (.ag (aU (aG (.o .bC 7 24)) a) (.call 63 [0,25] 1 (.next 0 [26,6,(.o .bC 7 24),8,9,10,11,12,13,14,15,16,17])))) (.call 64 [0,23,al8] 2 (.ite 24 (.call 62 [0,25] 2 (.ag (aU (aG (.o .bC 8 26)) a) (.call 63 [0,27] 1 (.next 0 [28,6,7,(.o .bC 8 26),9,10,11,12,13,14,15,16,17])))) (.call 64 [0,25,ag1] 2 (.ite 26 (.call 62 [0,27] 2 (.ag (aU (aG (.o .bC 9 28)) a) (.call 63 [0,29] 1 (.next 0 [30,6,7,8,(.o .bC 9 28),10,11,12,13,14,15,16,17])))) (.call 64 [0,27,al2] 2 (.ite 28 (.call 62 [0,29] 2 (.ag (aU (aG (.o .bC 10 30)) a) (.call 63 b 1 (.next 0 [32,6,7,8,9,(.o .bC 10 30),11,12,13,14,15,16,17])))) (.call 65 [0,29,(cq [ag3,aeW,ag2,al1,ap6,atk,sw8] .nil)] 2 (.ite (bm 30 (.i 0)) (.call 66 b 4 (.ag (aU (aG (.o .bC 11 c)) d) (.call 63 [0,35] 1 (.next 0 [36,6,7,8,9,10,(.o .bC 11 c),12,13,14,15,16,17])))) (.ite (bm 30 (.i 1)) (.call 199 b 18 (.ag (aU (aG e) (.i 606627104979)) (.call 63 [0,49] 1 (.next 0 [50,6,7,8,9,10,11,e,13,14,15,16,17])))) (.ite (bm 30 (.i 2)) (.call 62 b 2 (.call 67 [0,33] 2 (.call 200 [0,35] 2 (.ag (aU (aG (.o .bC 13 f)) d) (.call 63 [0,37] 1 (.next 0 [38,6,7,8,9,10,11,12,(.o .bC 13 f),14,15,16,17])))))) (.ite (bm 30 (.i 3)) (.call 62 b 2 (.call 67 [0,33] 2 (.call 67 [0,35] 2 (.ag (aU (aG (.o .bC 14 f)) d) (.call 63 [0,37] 1 (.next 0 [38,6,7,8,9,10,11,12,13,(.o .bC 14 f),15,16,17])))))) (.ite (bm 30 (.i 4)) (.call 201 b 5 (.ag (aU (aG g) (.i 1599289640401)) (.call 63 [0,36] 1 (.next 0 [37,6,7,8,9,10,11,12,13,14,g,16,17])))) (.ite (bm 30 (.i 5)) (.call 202 b 6 (.ag (aU (aG h) (.i 2199023255552)) (.call 63 [0,37] 1 (.next 0 [38,6,7,8,9,10,11,12,13,14,15,h,17])))) (.ite (bm 30 (.i 6)) (.call 203 b 4 (.ag (aU (aG (.o .bC 17 c)) (.i 2932031007402)) (.call 63 [0,35] 1 (.next 0 [36,6,7,8,9,10,11,12,13,14,15,16,(.o .bC 17 c)])))) (.call 63 b 1 (.next 0 [32,6,7,8,9,10,11,12,13,14,15,16,17])))))))))))))))))))) (.aa [2,11,12,13,14,6,7,8,9,10,15,16,17,19])))))
def C3:KL:=[aB,bW,aw,bL,gN,kp,aD,mj,lx,m6,ph]
def nP:KP:=kn C3 [hq 1003006800003 [] [9,10,11,12,13,14,15,16,17,18] [(0,(1,0)),(2,(5,9)),(2,(6,9)),(2,(7,9)),(2,(8,9)),(2,(9,9)),(2,(1,86)),(2,(2,135)),(2,(3,139)),(2,(4,142)),(2,(10,54)),(2,(11,116)),(2,(12,148))]] ⟨68,68,[lP],(.c Vc)⟩ Tryz.call68 tg
def oK:TL:=
 let a:Ex:=bE 0 (bG 4 5)
 let b:EL:=[(bE 1 (bG 4 5))]
 .ite (aS (.i 6) (aG 1)) (.aa [(.i 6)]) (.ite (aS (.i 16) (.o (.add .i64) (aG 1) (aG 2))) (.aa [(.i 6)]) (.call 85 [(cq [1,2] .nil)] 1 (.loop [(.i 0),.nil] (.ite (aS 5 (aG 4)) (.ag (aU (.i 0) 5) (.ag (aS 5 (aG 4)) (.call 37 [a] 1 (.ite (gq 7 (.i 0)) (.ite (gq 7 (.i 0)) (.aa [7]) (.call 172 b 1 (.ite (jK 8) (.aa [(.i 1)]) (.next 0 [(eu 5),6])))) (.ite (.o (.mem 0) 6 a) (.aa [(.i 4)]) (.call 172 b 1 (.ite (jK 8) (.aa [(.i 1)]) (.next 0 [(eu 5),(.o (.Fh 0) 6 a)])))))))) (.call 176 [3] 1 (.aa [7]))))))
def Ls:KL:=[cD,dB,lL,tR]
def vH:KP:=kn Ls [hq 5002011900005 [(29,0)] [30,31,32,5,33,34,35,36,6,37,38,39,2,40,41,42,43,44] [(1,(0,0))]] ⟨119,119,[ah2],(.c eA)⟩ Tryz.call119 oK
def nV:TL:=
 let a:Ex:= .i 0
 .ite (bm 1 a) (.aa [1,2,3,4,a]) (.loop [a,1,2,3,4] (.ite (aS 5 (aG 0)) (.ag (aU a 5) (.ag (aS 5 (aG 0)) (.call 252 [(bE 1 (bG 0 5)),(bE 2 (bG 0 5))] 4 (.call 251 [6,7,8,9,(bE 0 (bG 0 5)),10,11,12,13] 4 (.next 0 [(eu 5),14,15,16,17]))))) (.call 253 [6,7,8,9] 1 (.ite (gq 10 a) (.aa [a,jf,a,.nil,10]) (.call 254 [6,7,8,9] 4 (.aa [11,12,13,14,a]))))))
def Eg:KL:=[mW,ya,jA,B3]
def gm:KP:=kn Eg [⟨2003021000004,[(16,0)],[17,18,19,7,20,21,22,23,24,25,26,27,28,29],[(1,(0,0)),(1,(1,0)),(1,(2,0))],[],[],[(1,3,(.sl 105))],[],[],0⟩] ⟨210,210,[(.g [(jy 86)]),mT],(.t [mT,eA])⟩ Tryz.call210 nV
def re:TL:=
 let a:EL:=[0,1,2,3,4,5,6,7,8,9,10,11,12,13,14,15,16,17,18,19,20,21,22,23,24,25,26,27,28,29,30,31,32,33,34,35,36,37,38,39,40]
 let b:TL:= .aa [41]
 let c:Ex:=cq [(.i 3)] .nil
 let d:TL:= .aa [42]
 let e:TL:= .call 288 [0,1,2,3,4,5,6,7,8,9,10,11,12,13,14,15,16,17,18,19,23,24,25,26,(cq [(.i 2)] .nil)] 1 b
 let f:Ex:=cq [23,24,25,26] .nil
 let g:Ex:=cq [f] .nil
 let h:Ex:=bG 17 41
 let j:TL:= .ite (bm 20 (.i 5)) (.call 288 [0,1,2,3,4,5,6,7,8,9,10,11,12,13,14,15,16,17,18,19,23,24,25,26,c] 1 b) (.ite (bm 20 (.i 6)) (.call 289 [0,1,2,3,4,5,6,7,8,9,10,11,12,13,14,15,16,17,18,19,20,21,22,23,24,25,26,27,28,29,30,31,32,33,34,35,36,37,38,39,40,aeW,(cq [f,(cq [27,28,29,30] .nil)] .nil)] 1 b) (.ite (bm 20 (.i 7)) (.call 289 [0,1,2,3,4,5,6,7,8,9,10,11,12,13,14,15,16,17,18,19,20,21,22,23,24,25,26,27,28,29,30,31,32,33,34,35,36,37,38,39,40,aeW,g] 1 b) (.ite (bm 20 (.i 8)) (.call 289 [0,1,2,3,4,5,6,7,8,9,10,11,12,13,14,15,16,17,18,19,20,21,22,23,24,25,26,27,28,29,30,31,32,33,34,35,36,37,38,39,40,ag2,g] 1 b) (.ite (bm 20 (.i 9)) (.call 287 [0,1,2,3,4,5,6,7,8,9,10,11,12,13,14,15,16,17,18,19,21,ag2] 1 (.call 286 [0,1,2,3,4,5,6,7,8,9,10,11,12,13,14,15,16,17,18,19,22,41,(cq [(.i 1)] .nil)] 1 d)) (.ite (bm 20 (.i 10)) (.call 289 [0,1,2,3,4,5,6,7,8,9,10,11,12,13,14,15,16,17,18,19,20,21,22,23,24,25,26,27,28,29,30,31,32,33,34,35,36,37,38,39,40,al1,.nil] 1 b) (.ite (bm 20 (.i 11)) (.call 289 [0,1,2,3,4,5,6,7,8,9,10,11,12,13,14,15,16,17,18,19,20,21,22,23,24,25,26,27,28,29,30,31,32,33,34,35,36,37,38,39,40,aeV,.nil] 1 b) (.ite (bm 20 (.i 12)) (.call 289 [0,1,2,3,4,5,6,7,8,9,10,11,12,13,14,15,16,17,18,19,20,21,22,23,24,25,26,27,28,29,30,31,32,33,34,35,36,37,38,39,40,aeV,g] 1 b) (.ite (bm 20 (.i 13)) (.call 290 a 1 b) (.ite (bm 20 (.i 14)) (.call 139 [7,8,9,10,11,12,13,14,15,16,17,18,19,21] 1 (.ite (aS 41 (.i 0)) (.aa [(.i 5)]) (.ag (aU (.i 0) 41) (.ag (aS 41 (aG 17)) (.call 291 ([0,1,2,3,4,5,6,7,8,9,10,11,12,13,14,15,16,17,18,19]++nI h [0,1,2,3]++[20,21,22,23,24,25,26,27,28,29,30,31,32,33,34,35,36,37,38,39,40]) 1 d))))) (.ite (bm 20 (.i 15)) (.call 287 [0,1,2,3,4,5,6,7,8,9,10,11,12,13,14,15,16,17,18,19,21,al8] 1 (.ite (jK 41) (.aa [(.i 5)]) (.call 288 [0,1,2,3,4,5,6,7,8,9,10,11,12,13,14,15,16,17,18,19,23,24,25,26,(cq [(.i 1)] c)] 1 d))) (.ite (bm 20 (.i 16)) (.call 289 [0,1,2,3,4,5,6,7,8,9,10,11,12,13,14,15,16,17,18,19,20,21,22,23,24,25,26,27,28,29,30,31,32,33,34,35,36,37,38,39,40,ag1,g] 1 b) (.ite (bm 20 (.i 17)) (.call 289 [0,1,2,3,4,5,6,7,8,9,10,11,12,13,14,15,16,17,18,19,20,21,22,23,24,25,26,27,28,29,30,31,32,33,34,35,36,37,38,39,40,al2,g] 1 b) (.aa [(.i 0)])))))))))))))
 .ite (bm 20 (.i 1)) (.call 285 a 1 b) (.ite (bm 20 (.i 2)) (.call 287 [0,1,2,3,4,5,6,7,8,9,10,11,12,13,14,15,16,17,18,19,22,al7] 1 (.call 286 [0,1,2,3,4,5,6,7,8,9,10,11,12,13,14,15,16,17,18,19,21,41,(cq [(.i 1)] c)] 1 d)) (.ite (bm 20 (.i 3)) (.ite (bm 20 (.i 3)) e j) (.ite (bm 20 (.i 4)) e j)))
def BF:KL:=[m9,iR,mt,cr,lC,jd,bx,fM]
def dW:KP:=kn BF [] ⟨243,243,[abS,Mg],(.c eA)⟩ Tryz.call243 re
def qV:TL:=
 let a:Ex:= .o .bC 7 (cq [14,15,16] .nil)
 let b:Ex:= .o .bC 8 (cq [14,16,18] .nil)
 let c:Ex:= .o .bC 9 (cq [14,15,16,17,18,19,20,21,22,23,24,25,26] .nil)
 .call 61 [0,1,as4] 1 (.call 62 [0,2] 2 (.call 63 [0,4] 1 (.loop [5,.nil,.nil,.nil] (.call 64 [0,6,Uq] 2 (.ite (jK 10) (.call 65 [0,11,(cq [as8,as1,ath] .nil)] 2 (.ite (bm 12 (.i 0)) (.call 66 [0,13] 4 (.ag (aU (aG a) (.i 4398046511104)) (.call 63 [0,17] 1 (.next 0 [18,a,8,9])))) (.ite (bm 12 (.i 1)) (.call 62 [0,13] 2 (.call 62 [0,15] 2 (.call 67 [0,17] 2 (.ag (aU (aG b) (.i 3518437208883)) (.call 63 [0,19] 1 (.next 0 [20,7,b,9])))))) (.ite (bm 12 (.i 2)) (.call 68 [0,13] 14 (.ag (aU (aG c) (.i 462952264326)) (.call 63 [0,27] 1 (.next 0 [28,7,8,c])))) (.call 63 [0,13] 1 (.next 0 [14,7,8,9])))))) (.call 63 [0,11] 1 (.call 69 [0,12] 1 (.aa [3,7,9,8,13]))))))))
def Bv:KL:=[ao,aB,bW,aw,bL,gN,aD,nP,pg]
def m0:KP:=kn Bv [hq 1003002400005 [] [11,12,13,14,15,16,18,17,19,20,21,22,23,24,25,27,26,28,29,30,31,32,33,34,35,36,37,38,39,41,40,42,43,44,45,46,47,48,49,50] [(0,(1,0)),(2,(1,86)),(2,(3,75)),(2,(2,50))]] ⟨24,24,[lP],(.c Im)⟩ Tryz.call24 qV
def HH:TL:=
 let a:Ex:= .i 32
 let b:TL:= .aa [(.i 6)]
 let c:Ex:= .i 0
 let d:Ex:=bE 0 (bG 1 13)
 let e:TL:= .aa [(.i 4)]
 let f:Ex:= .i 1
 let g:TL:= .aa [f]
 let h:TL:= .aa [(.i 2)]
 let j:Ex:=bG 2 15
 let k:Ex:=bE 0 j
 let l:Ex:= .i 1000
 let m:Ex:=bE 0 (bG 3 17)
 let n:Ex:=bE 0 (bG 4 19)
 let p:Ex:=bG 10 31
 let q:Ex:=bE 0 p
 let r:TL:= .aa [34]
 let u:Ex:=bG 11 33
 .ite (aS a (aG 1)) b (.loop [c,.nil] (.ite (aS 13 (aG 1)) (.ag (aU c 13) (.ag (aS 13 (aG 1)) (.call 37 [d] 1 (.ite (gq 15 c) (.aa [15]) (.ite (.o (.mem 0) 14 d) e (.call 172 [(bE 1 (bG 1 13))] 1 (.ite (jK 16) g (.call 173 [(bE 1 (bG 1 13)),(bE 2 (bG 1 13))] 1 (.ite (jK 17) h (.next 0 [(eu 13),(.o (.Fh 0) 14 d)])))))))))) (.ite (aS a (aG 2)) b (.loop [c,14] (.ite (aS 15 (aG 2)) (.ag (aU c 15) (.ag (aS 15 (aG 2)) (.call 37 [k] 1 (.ite (gq 17 c) (.aa [17]) (.ite (.o (.mem 0) 16 k) e (.call 102 [(bE 1 j),c,l] 1 (.ite (jK 18) h (.call 103 (nI j [0,1,2,3,4,5,6,7,8,9,10,11,12,13,14,15,16]) 1 (.ite (gq 19 c) (.aa [19]) (.call 104 ([0,1,2,3,4,5,6,7,8,9,10,11,12]++nI j [4,5,6,7,8,9,10,11,12,13,14,15,16]) 1 (.ite (gq 20 c) (.aa [20]) (.next 1 [(eu 15),(.o (.Fh 0) 16 k)])))))))))))) (.ite (aS a (aG 3)) b (.loop [c,16] (.ite (aS 17 (aG 3)) (.ag (aU c 17) (.ag (aS 17 (aG 3)) (.call 37 [m] 1 (.ite (gq 19 c) (.aa [19]) (.ite (.o (.mem 0) 18 m) e (.call 102 [(bE 1 (bG 3 17)),f,l] 1 (.ite (jK 20) h (.ite (aS (bE 2 (bG 3 17)) f) g (.ite (aS (.i 3) (bE 2 (bG 3 17))) g (.next 2 [(eu 17),(.o (.Fh 0) 18 m)])))))))))) (.ite (aS a (aG 4)) b (.loop [c,18] (.ite (aS 19 (aG 4)) (.ag (aU c 19) (.ag (aS 19 (aG 4)) (.call 37 [n] 1 (.ite (gq 21 c) (.aa [21]) (.ite (.o (.mem 0) 20 n) e (.call 102 [(bE 1 (bG 4 19)),f,l] 1 (.ite (jK 22) h (.call 102 [(bE 2 (bG 4 19)),f,l] 1 (.ite (jK 23) h (.next 3 [(eu 19),(.o (.Fh 0) 20 n)])))))))))) (.ite (aS a (aG 5)) b (.loop [c,20] (.ite (aS 21 (aG 5)) (.ag (aU c 21) (.ag (aS 21 (aG 5)) (.call 37 [(bG 5 21)] 1 (.ite (gq 23 c) (.aa [23]) (.ite (.o (.mem 0) 22 (bG 5 21)) e (.next 4 [(eu 21),(.o (.Fh 0) 22 (bG 5 21))])))))) (.ite (aS a (aG 6)) b (.loop [c,22] (.ite (aS 23 (aG 6)) (.ag (aU c 23) (.ag (aS 23 (aG 6)) (.call 37 [(bG 6 23)] 1 (.ite (gq 25 c) (.aa [25]) (.ite (.o (.mem 0) 24 (bG 6 23)) e (.next 5 [(eu 23),(.o (.Fh 0) 24 (bG 6 23))])))))) (.ite (aS a (aG 7)) b (.loop [c,24] (.ite (aS 25 (aG 7)) (.ag (aU c 25) (.ag (aS 25 (aG 7)) (.call 37 [(bG 7 25)] 1 (.ite (gq 27 c) (.aa [27]) (.ite (.o (.mem 0) 26 (bG 7 25)) e (.next 6 [(eu 25),(.o (.Fh 0) 26 (bG 7 25))])))))) (.ite (aS a (aG 8)) b (.loop [c,26] (.ite (aS 27 (aG 8)) (.ag (aU c 27) (.ag (aS 27 (aG 8)) (.call 37 [(bG 8 27)] 1 (.ite (gq 29 c) (.aa [29]) (.ite (.o (.mem 0) 28 (bG 8 27)) e (.next 7 [(eu 27),(.o (.Fh 0) 28 (bG 8 27))])))))) (.ite (aS a (aG 9)) b (.loop [c,28] (.ite (aS 29 (aG 9)) (.ag (aU c 29) (.ag (aS 29 (aG 9)) (.call 37 [(bG 9 29)] 1 (.ite (gq 31 c) (.aa [31]) (.ite (.o (.mem 0) 30 (bG 9 29)) e (.next 8 [(eu 29),(.o (.Fh 0) 30 (bG 9 29))])))))) (.ite (aS (.i 16) (aG 10)) b (.loop [c,30] (.ite (aS 31 (aG 10)) (.ag (aU c 31) (.ag (aS 31 (aG 10)) (.call 37 [q] 1 (.ite (gq 33 c) (.aa [33]) (.ite (.o (.mem 0) 32 q) e (.call 119 (nI p [0,1,2,3]) 1 (.ite (gq 34 c) r (.next 9 [(eu 31),(.o (.Fh 0) 32 q)])))))))) (.ite (aS a (aG 11)) b (.loop [c] (.ite (aS 33 (aG 11)) (.ag (aU c 33) (.ag (aS 33 (aG 11)) (.call 123 ([0,1,2,3,4,5,6,7,8,9,10,11,12]++nI u [0,1,2,3,4]) 1 (.ite (gq 34 c) r (.next 10 [(eu 33)]))))) (.call 125 [0,1,2,3,4,5,6,7,8,9,10,11,12] 1 (.ite (gq 34 c) r (.aa [c])))))))))))))))))))))))))))))))))))
def Su:KL:=[dB,lL,mX,du,tO,oB,vH,vi,DQ]
def yd:KP:=kn Su [hq 12005012100004 [(16,0)] Cy [],hq 15007012100004 [(16,0)] Cy [],hq 12005011700004 [(16,0)] Cy [(1,(0,0))],hq 12005009600004 [(16,0)] Cy [(1,(0,0))],hq 12007012100004 [(16,0)] Cy [],hq 15009012100004 [(16,0)] Cy [],hq 12007011700004 [(16,0)] Cy [(1,(0,0))],hq 12007009600004 [(16,0)] Cy [(1,(0,0))],hq 12005010900004 [(16,0)] Cy [(1,(0,0))],hq 12009012100004 [(16,0)] Cy [],hq 15011012100004 [(16,0)] Cy [],hq 12009011700004 [(16,0)] Cy [(1,(0,0))],hq 12009009600004 [(16,0)] Cy [(1,(0,0))],hq 12007010900004 [(16,0)] Cy [(1,(0,0))],hq 12005010600004 [(16,0)] Cy [(1,(0,0))],hq 17007012100004 [(16,0)] Cy [],hq 20009012100004 [(16,0)] Cy [],hq 17007011700004 [(16,0)] Cy [(1,(0,0))],hq 17007009600004 [(16,0)] Cy [(1,(0,0))],hq 17009012100004 [(16,0)] Cy [],hq 20011012100004 [(16,0)] Cy [],hq 17009011700004 [(16,0)] Cy [(1,(0,0))],hq 17009009600004 [(16,0)] Cy [(1,(0,0))],hq 17007010900004 [(16,0)] Cy [(1,(0,0))],hq 17011012100004 [(16,0)] Cy [],hq 20013012100004 [(16,0)] Cy [],hq 17011011700004 [(16,0)] Cy [(1,(0,0))],hq 17011009600004 [(16,0)] Cy [(1,(0,0))],hq 17009010900004 [(16,0)] Cy [(1,(0,0))],hq 17007010600004 [(16,0)] Cy [(1,(0,0))],hq 12005010000004 [(16,0)] Cy [(1,(0,0))],hq 12011012100004 [(16,0)] Cy [],hq 15013012100004 [(16,0)] Cy [],hq 12011011700004 [(16,0)] Cy [(1,(0,0))],hq 12011009600004 [(16,0)] Cy [(1,(0,0))],hq 12009010900004 [(16,0)] Cy [(1,(0,0))],hq 12007010600004 [(16,0)] Cy [(1,(0,0))],hq 17013012100004 [(16,0)] Cy [],hq 20015012100004 [(16,0)] Cy [],hq 17013011700004 [(16,0)] Cy [(1,(0,0))],hq 17013009600004 [(16,0)] Cy [(1,(0,0))],hq 17011010900004 [(16,0)] Cy [(1,(0,0))],hq 17009010600004 [(16,0)] Cy [(1,(0,0))],hq 12007010000004 [(16,0)] Cy [(1,(0,0))],hq 12005009300004 [(16,0)] Cy [(1,(0,0))],⟨12005009700002,[],[],[],[],[],[],[],[],32⟩] ⟨42,42,[Vc],(.c eA)⟩ Tryz.call42 HH
def uL:TL:=
 let a:Ex:=bG 1 3
 let b:Ex:= .o .bC 2 (cq [4,5,6,7,8,9,10,11,12,13,14,15,16,17,18,19,20,21,22,23,24] .nil)
 .loop [.nil,(.i 0)] (.ite (aS 3 (aG 1)) (.ag (aU (.i 0) 3) (.ag (aS 3 (aG 1)) (.call 167 ([0]++nI a [0,1,2,3,4,5,6,7,8,9,10,11,12,13,14,15,16,17,18,19,20]) 22 (.ite (gq 25 (.i 0)) (.aa [.nil,25]) (.ag (aU (aG b) (.i 451081693446)) (.next 0 [b,(eu 3)])))))) (.aa [2,(.i 0)]))
def Db:nK:=⟨84,84,[(.g [(jy 86)]),gq5],(.t [gq5,eA])⟩
def uM:TL:=
 let a:Ex:= .i 0
 let b:Ex:=jf
 let c:Ex:= .b false
 let d:Ex:=bG 12 34
 let e:Ex:= .o .bC 33 (cq [35,36,37,38] .nil)
 .call 210 [0,4,5,6,7] 5 (.ite (gq 26 a) (.aa [a,b,b,a,b,a,.nil,a,b,a,.nil,.nil,a,a,a,a,.nil,.nil,c,.nil,.nil,26]) (.call 210 [0,8,9,10,11] 5 (.ite (gq 31 a) (.aa [a,b,b,a,b,a,.nil,a,b,a,.nil,.nil,a,a,a,a,.nil,.nil,c,.nil,.nil,31]) (.loop [31,.nil,a] (.ite (aS 34 (aG 12)) (.ag (aU a 34) (.ag (aS 34 (aG 12)) (.call 210 ([0]++nI d [0,1,2,3]) 5 (.ite (gq 39 a) (.aa [a,b,b,a,b,a,.nil,a,b,a,.nil,.nil,a,a,a,a,.nil,.nil,c,.nil,.nil,39]) (.ag (aU (aG e) (.i 2513169434916)) (.next 0 [39,e,(eu 34)])))))) (.call 84 [0,20] 2 (.ite (gq 36 a) (.aa [a,b,b,a,b,a,.nil,a,b,a,.nil,.nil,a,a,a,a,.nil,.nil,c,.nil,.nil,36]) (.call 84 [0,21] 2 (.ite (gq 38 a) (.aa [a,b,b,a,b,a,.nil,a,b,a,.nil,.nil,a,a,a,a,.nil,.nil,c,.nil,.nil,38]) (.aa [1,2,3,22,23,24,25,27,28,29,30,33,13,14,15,16,17,18,19,35,37,a]))))))))))
def Dc:nK:=⟨167,167,[(.g [(jy 86)]),Mg],(.t [Mg,eA])⟩
def uG:KL:=[gm]
def sg:nw:=[Db,Dc]
def Dm:Mm sg uG:=mq Db [hq 2001008400003 [(6,111),(13,0)] [14,15,16,8,18,19,20,17,21,22,9,10,23,24,25,4,5,26,27,28,29,30] []] Tryz.call84 uL
def Dn:Mm sg uG:=mq Dc [hq 10003016700010 [(6,0),(7,105),(37,0)] [38,39,40,9,42,43,44,41,45,46,47,48,49,50,5,51,52,53,54,55] []] Tryz.call167 uM
def fL:Fm:={L:=uG,cs:=sg,ms:=[Dm,Dn]}
def dg:=fL.g
theorem Jo (k:Nat):dg k 210=gm.F:=fL.out k (j:=0) (x:=gm) rfl
theorem Ph (k:Nat) (l:aP):dg (k+1) 84 l=if l.length=2 then uL.bR (dg k) l []else none:=fL.step k (i:=0) (m:=Dm) rfl l
theorem Pi (k:Nat) (l:aP):dg (k+1) 167 l=if l.length=22 then uM.bR (dg k) l []else none:=fL.step k (i:=1) (m:=Dn) rfl l
def pd:KP:=fL.at 0
theorem NN:pd.F=dg (aF+1) 84:=fL.top _ _ _ rfl
end
end Go.Proofs.YtlklkgdaegncaaaGreatDoor
