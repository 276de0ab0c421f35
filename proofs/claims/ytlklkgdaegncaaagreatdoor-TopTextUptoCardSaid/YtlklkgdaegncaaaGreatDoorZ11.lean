/-
  A part of the proof of TopText: Kt4.
-/
import Derived.KernelRfl
import Derived.Test.YtlklkgdaegncaaaGreatDoorZ09
namespace Go.Proofs.YtlklkgdaegncaaaGreatDoor
set_option linter.unusedVariables false
set_option linter.unusedSimpArgs false
set_option maxRecDepth 20000
set_option maxHeartbeats 8000000
open List
open Nat
open Int
noncomputable section
open Go.RowKit
def pE:TL:=
 let a:Ex:=bG 2 3
 .loop [(.i 0),0,1] (.ite (aS 3 (aG 2)) (.ag (aU (.i 0) 3) (.ag (aS 3 (aG 2)) (.call 190 ([4,5]++nI a [0,1,2,3,4,5,6,7,8,9,10,11,12,13,14,15,16,17,18,19,20]) 2 (.next 0 [(eu 3),6,7])))) (.aa [4,5]))
def xJ:nK:=⟨138,138,[ZO,gq5],(.t [])⟩
def aR:TL:=
 let a:EL:=[5,6,7,8]
 let b:Ex:=cq [23] .nil
 let c:TL:= .aa [24,25]
 let d:TL:= .aa [23,24]
 let e:Ex:=cq [atd,3,23,as9,24] .nil
 let f:TL:= .aa [25,26]
 let g:Ex:=cq [3] b
 let h:Ex:=cq [3] .nil
 let j:Ex:= .o .cat 4 (.s [46])
 let k:Ex:= .i 9223372036854775807
 let l:Ex:=cq [23,ap1,24] .nil
 .ite (bm 2 (.i 1)) (.call 228 a 1 (.call 14 [0,1,(cq [atf,3,ag0] b)] 2 c)) (.ite (bm 2 (.i 2)) (.call 134 [14,15,16,17,18,19] 1 (.call 14 [0,1,(cq [asS,3,al6,4] b)] 2 c)) (.ite (bm 2 (.i 3)) (.call 229 [0,1,asZ,2,3,4,5,6,7,8,9,10,11,12,13,14,15,16,17,18,19,20,21,22] 2 d) (.ite (bm 2 (.i 4)) (.call 229 [0,1,axs,2,3,4,5,6,7,8,9,10,11,12,13,14,15,16,17,18,19,20,21,22] 2 d) (.ite (bm 2 (.i 5)) (.call 228 a 1 (.call 14 [0,1,(cq [asY] b)] 2 c)) (.ite (bm 2 (.i 6)) (.call 228 a 1 (.call 228 [9,10,11,12] 1 (.ite 20 (.ag (aU (aG (.o .bC e ap5)) (.i 8796093022208)) (.call 14 [0,1,(.o .bC e ap5)] 2 f)) (.call 14 [0,1,e] 2 f)))) (.ite (bm 2 (.i 7)) (.call 228 a 1 (.call 14 [0,1,(cq [atb] g)] 2 c)) (.ite (bm 2 (.i 8)) (.call 228 a 1 (.call 14 [0,1,(cq [ata,23,as0] h)] 2 c)) (.ite (bm 2 (.i 9)) (.call 14 [0,1,(cq [asX,4,al6] h)] 2 d) (.ite (bm 2 (.i 10)) (.call 14 [0,1,(cq [atc] h)] 2 d) (.ite (bm 2 (.i 11)) (.call 14 [0,1,(cq [atp] h)] 2 d) (.ite (bm 2 (.i 12)) (.call 228 a 1 (.call 14 [0,1,(cq [atg] g)] 2 c)) (.ite (bm 2 (.i 13)) (.ag (aU (.u .fD j) k) (.ag (aU (.u .fD (.o .cat j 3)) k) (.call 230 [13] 1 (.call 228 a 1 (.call 14 [0,1,(cq [ate,(.o .cat j 3)] l)] 2 f))))) (.ite (bm 2 (.i 14)) (.call 230 [13] 1 (.call 228 a 1 (.call 14 [0,1,(cq [atj,3] l)] 2 f))) (.ite (bm 2 (.i 15)) (.call 228 a 1 (.call 14 [0,1,(cq [as6] g)] 2 c)) (.ite (bm 2 (.i 16)) (.call 228 a 1 (.call 14 [0,1,(cq [ag1] g)] 2 c)) (.ite (bm 2 (.i 17)) (.call 228 a 1 (.call 14 [0,1,(cq [asO] g)] 2 c)) (.ite (bm 2 (.i 18)) (.call 14 [0,1,(cq [atl] .nil)] 2 d) (.aa [0,1]))))))))))))))))))
def zW:nK:=⟨190,190,[ZO,Mg],(.t [])⟩
def lI:TL:=
 let a:Ex:= .o (.sub .i64) 28 (.i 1)
 .call 228 [6,7,8,9] 1 (.call 14 [0,1,(cq [2,24] .nil)] 2 (.call 138 [25,(eu 26),22] 2 (.ite (aS (.i 0) (aG 23)) (.call 14 [27,a,(cq [asU] .nil)] 2 (.call 138 [29,(eu 30),23] 2 (.call 14 [31,(.o (.sub .i64) 32 (.i 1)),(cq [Uq] .nil)] 2 (.aa [33,34])))) (.call 14 [27,a,(cq [Uq] .nil)] 2 (.aa [29,30])))))
def xI:nK:=⟨229,229,[ZO,AB,Mg],(.t [])⟩
def li:KL:=[lA,aT,iT,yg]
def ke:nw:=[xJ,zW,xI]
def yv:Mm ke li:=mq xJ [hq 2001013800001 [(8,0)] [9,10,11,5,12,13,14,15] [(0,(1,5)),(0,(2,0))]] Tryz.call138 pE
def Ak:Mm ke li:=mq zW [] Tryz.call190 aR
def yu:Mm ke li:=mq xI [] Tryz.call229 lI
def bT:Fm:={L:=li,cs:=ke,ms:=[yv,Ak,yu]}
def bb:=bT.g
theorem bg (k:Nat):bb k 228=lA.F:=bT.out k (j:=0) (x:=lA) rfl
theorem aN (k:Nat):bb k 14=aT.F:=bT.out k (j:=1) (x:=aT) rfl
theorem EQ (k:Nat):bb k 134=iT.F:=bT.out k (j:=2) (x:=iT) rfl
theorem sN (k:Nat):bb k 230=yg.F:=bT.out k (j:=3) (x:=yg) rfl
theorem Ke (k:Nat) (l:aP):bb (k+1) 138 l=if l.length=3 then pE.bR (bb k) l []else none:=bT.step k (i:=0) (m:=yv) rfl l
theorem Me (k:Nat) (l:aP):bb (k+1) 190 l=if l.length=23 then aR.bR (bb k) l []else none:=bT.step k (i:=1) (m:=Ak) rfl l
theorem Kd (k:Nat) (l:aP):bb (k+1) 229 l=if l.length=24 then lI.bR (bb k) l []else none:=bT.step k (i:=2) (m:=yu) rfl l
def mr:KP:=bT.at 0
theorem Jh:mr.F=bb (aF+1) 138:=bT.top _ _ _ rfl
def tX:TL:=
 let a:Ex:= .i 0
 let b:Ex:= .u .fD 0
 let c:TL:= .ag (aU a 2) (.ag (aU 2 b) (.aa [(.i 1),(.t .Uo 0 a 2),a,a,2]))
 let d:Ex:=aU a 3
 let e:TL:= .aa [a,jf,a,a,a]
 .ag (aS a b) (.call 193 [(.o .Mt 0 a)] 1 (.ite 1 (.loop [a] (.ite (aS 2 b) (.ag (aU a 2) (.ag (aS 2 b) (.call 195 [(.o .Mt 0 2)] 1 (.ite 3 (.next 0 [(eu 2)]) c)))) c)) (.ag (aS a b) (.call 196 [(.o .Mt 0 a)] 1 (.ite 2 (.loop [a] (.ite (aS 3 b) (.ag d (.ag (aS 3 b) (.call 196 [(.o .Mt 0 3)] 1 (.ite 4 (.next 0 [(eu 3)]) (.ag d (.ag (aU 3 b) (.call 197 [(.t .Uo 0 a 3)] 2 (.ite 6 (.aa [(.i 2),jf,5,a,3]) e)))))))) (.ag d (.ag (aU 3 b) (.call 197 [(.t .Uo 0 a 3)] 2 (.ite 5 (.aa [(.i 2),jf,4,a,3]) e)))))) (.call 198 [0] 1 (.ag d (.ag (aU 3 b) (.aa [(.i 3),(.t .Uo 0 a 3),a,a,3])))))))))
def WG:KL:=[tM,Gd,wQ,DP,EM]
def Ge:KP:=kn WG [hq 1019400002 [(5,0)] [6,7,8,9,10,11,12,13,14,15,16,17,18] []] ⟨141,141,[AB],(.t [gq9,eA])⟩ Tryz.call141 tX
def uO:TL:=
 .loop [(.i 0),1] (.ite (aS 3 (aG 2)) (.ag (aU (.i 0) 3) (.ag (aS 3 (aG 2)) (.call 64 [0,4,(bG 2 3)] 2 (.ite 5 (.aa [3,6]) (.next 0 [(eu 3),6]))))) (.aa [(.i (-1)),4]))
def Eh:KL:=[aw]
def gp:KP:=kn Eh [hq 2001014700002 [(9,0)] [10,11,12,13,5,6,14,15,16,17,4,18] [(0,(1,0))]] ⟨147,147,[lP,gq3],(.c eA)⟩ Tryz.call147 uO
def kJ:TL:=
 .call 64 [0,1,RO] 2 (.ite 2 (.call 67 [0,3] 2 (.aa [(.o (.sub .i64) (.i 0) 4),5])) (.call 67 [0,3] 2 (.aa [4,5])))
def xp:KL:=[aw,aD]
def cG:KP:=kn xp [] ⟨150,150,[lP],(.c eA)⟩ Tryz.call150 kJ
def QM:TL:=
 .call 209 [0,1,2,3,4,5,6,7,8,9,10,11,12,13] 2 (.aa [14])
def Sm:KL:=[qt]
def ef:KP:=kn Sm [] ⟨166,166,[Vc,AB],(.c AB)⟩ Tryz.call166 QM
def yY:TL:=
 .call 294 [6,7,8,9,10,11,12,13,14,15,16,17,18,20] 1 (.aa [21,19])
def zE:KL:=[Bb]
def dc:KP:=kn zE [] ⟨256,256,[abR,AB],(.c eA)⟩ Tryz.call256 yY
def eV:TL:=
 let a:EL:=[0,1,2,3,4,5,6,7,8,9,10,11,12,13,14,15,16,17,18,19,21]
 let b:TL:= .aa [20,jf,24,.nil,25]
 let c:TL:= .ite (bm 20 (.i 24)) (.call 256 a 2 (.call 166 [6,7,8,9,10,11,12,13,14,15,16,17,18,21] 1 (.ite (.o .seq 26 aeV) (.aa [20,jf,(.o (.add .i64) 24 (aG 8)),.nil,25]) b))) (.call 262 [0,1,2,3,4,5,6,7,8,9,10,11,12,13,14,15,16,17,18,19,23] 2 (.aa [20,21,22,24,25]))
 .ite (bm 20 (.i 3)) (.call 297 a 5 (.aa [24,25,26,27,28])) (.ite (bm 20 (.i 22)) (.ite (bm 20 (.i 22)) (.call 256 a 2 b) c) (.ite (bm 20 (.i 23)) (.call 256 a 2 b) c))
def zS:nK:=⟨261,261,[abR,mT],(.c mT)⟩
def pt:TL:=
 let a:Ex:=bG 20 22
 let b:Ex:= .o .bC 21 (cq [24,25,26,27] .nil)
 .loop [.nil,(.i 0),19] (.ite (aS 22 (aG 20)) (.ag (aU (.i 0) 22) (.ag (aS 22 (aG 20)) (.call 261 ([0,1,2,3,4,5,6,7,8,9,10,11,12,13,14,15,16,17,18,23]++nI a [0,1,2,3]) 5 (.ag (aU (aG b) (.i 2513169434916)) (.next 0 [b,(eu 22),28]))))) (.aa [21,23]))
def xF:nK:=⟨262,262,[abR,gq6],(.c gq6)⟩
def qF:KL:=[gG,dc,ef]
def o7:nw:=[zS,xF]
def Ag:Mm o7 qF:=mq zS [] Tryz.call261 eV
def yo:Mm o7 qF:=mq xF [hq 18001026200003 [(5,105),(10,0)] hl7 [(0,(19,0))]] Tryz.call262 pt
def bZ:Fm:={L:=qF,cs:=o7,ms:=[Ag,yo]}
def bA:=bZ.g
theorem FH (k:Nat):bA k 297=gG.F:=bZ.out k (j:=0) (x:=gG) rfl
theorem mH (k:Nat):bA k 256=dc.F:=bZ.out k (j:=1) (x:=dc) rfl
theorem FF (k:Nat):bA k 166=ef.F:=bZ.out k (j:=2) (x:=ef) rfl
theorem Ma (k:Nat) (l:aP):bA (k+1) 261 l=if l.length=24 then eV.bR (bA k) l []else none:=bZ.step k (i:=0) (m:=Ag) rfl l
theorem Kb (k:Nat) (l:aP):bA (k+1) 262 l=if l.length=21 then pt.bR (bA k) l []else none:=bZ.step k (i:=1) (m:=yo) rfl l
def dt:KP:=bZ.at 0
theorem Kx:dt.F=bA (aF+1) 261:=bZ.top _ _ _ rfl
def cZ:KP:=bZ.at 1
theorem Jg:cZ.F=bA (aF+1) 262:=bZ.top _ _ _ rfl
def Ch:TL:=
 .call 166 [7,8,9,10,11,12,13,14,15,16,17,18,19,20] 1 (.aa [(.o .seq 22 21)])
def C9:KL:=[ef]
def iR:KP:=kn C9 [] ⟨287,287,[abS,AB,AB],(.c vD)⟩ Tryz.call287 Ch
def QJ:TL:=
 .ite (bm 0 (.i 5)) (.call 330 [1] 1 (.aa [2])) (.ite (bm 0 (.i 6)) (.call 331 [(bm 1 (.i 0))] 1 (.aa [2])) (.ite (bm 0 (.i 7)) (.ite (bm 0 (.i 7)) (.aa [1]) (.aa [(.i 0)])) (.ite (bm 0 (.i 8)) (.aa [1]) (.aa [(.i 0)]))))
def Se:KL:=[oz,tK]
def xZ:KP:=kn Se [] ⟨316,316,[eA,eA],(.c eA)⟩ Tryz.call316 QJ
def Oj:TL:=
 let a:TL:= .aa [3]
 .ite (bm 0 (.i 9)) (.call 332 [1,2] 1 a) (.ite (bm 0 (.i 10)) (.call 330 [2] 1 (.call 332 [1,3] 1 (.aa [4]))) (.ite (bm 0 (.i 11)) (.call 333 [1,2] 1 a) (.ite (bm 0 (.i 12)) (.call 334 [1,2] 1 a) (.ite (bm 0 (.i 13)) (.call 335 [1,2] 1 a) (.ite (bm 0 (.i 20)) (.aa [(.o .min 1 2)]) (.ite (bm 0 (.i 21)) (.aa [(.o .max 1 2)]) (.call 336 [0,1,2] 1 (.call 331 [3] 1 (.aa [4])))))))))
def PN:KL:=[OI,oz,OK,D5,OJ,DN,tK]
def vh:KP:=kn PN [] ⟨317,317,[eA,eA,eA],(.c eA)⟩ Tryz.call317 Oj
def Fc:TL:=
 let a:Ex:= .i 0
 let b:Ex:=bG 18 20
 let c:Ex:= .i 1
 let d:Ex:=aG 19
 let e:TL:= .aa [a,(.i 10)]
 let f:TL:= .ite (bm 21 a) e (.aa [21,a])
 .loop [.nil,a] (.ite (aS 20 (aG 18)) (.ag (aU a 20) (.ag (aS 20 (aG 18)) (.call 328 ([0,1,2,3,4,5,6,7,8,9,10,11,12,13,14]++nI b [0,1,2,3]) 2 (.ite (gq 22 a) (.aa [a,22]) (.ag (aU (aG (.o .bC 19 21)) (.i 17592186044416)) (.next 0 [(.o .bC 19 21),(eu 20)])))))) (.ite (bm 15 (.i 3)) (.call 343 [0,1,2,3,4,5,6,7,8,9,10,11,12,13,14,16] 2 (.ite (jK 22) (.aa [a,(.i 5)]) (.aa [21,a]))) (.ite (aU (.i 22) 15) (.call 166 [2,3,4,5,6,7,8,9,10,11,12,13,14,16] 1 (.call 344 [15,21] 1 (.ite (jK 22) (.aa [a,(.i 5)]) (.aa [c,a])))) (.ite (bm d c) (.ag (aS a d) (.call 345 [15,(bG 19 a)] 1 f)) (.ite (bm d (.i 2)) (.ag (aS a d) (.ag (aS c d) (.call 346 [15,(bG 19 a),(bG 19 c)] 1 f))) (.ite (bm 15 c) (.aa [c,a]) (.ite (bm 15 (.i 2)) (.aa [(.i 2),a]) (.ite (bm 15 (.i 4)) (.aa [(.i 3),a]) e))))))))
def M0:nK:=⟨328,328,[avE,mT],(.t [eA,eA])⟩
def MM:KL:=[vk,ef,qd,sE,pZ]
def LF:nw:=[M0]
def NV:Mm LF MM:=mq M0 [hq 15002032800003 [(6,84),(17,0)] [18,19,20,8,22,23,24,21,25,26,9,10,27,28,29,4,5,30,31,32,33,34] []] Tryz.call328 Fc
def fi:Fm:={L:=MM,cs:=LF,ms:=[NV]}
def fO:=fi.g
theorem RA (k:Nat):fO k 343=vk.F:=fi.out k (j:=0) (x:=vk) rfl
theorem Rz (k:Nat):fO k 166=ef.F:=fi.out k (j:=1) (x:=ef) rfl
theorem RB (k:Nat):fO k 344=qd.F:=fi.out k (j:=2) (x:=qd) rfl
theorem RC (k:Nat):fO k 345=sE.F:=fi.out k (j:=3) (x:=sE) rfl
theorem RE (k:Nat):fO k 346=pZ.F:=fi.out k (j:=4) (x:=pZ) rfl
theorem ZM (k:Nat) (l:aP):fO (k+1) 328 l=if l.length=19 then Fc.bR (fO k) l []else none:=fi.step k (i:=0) (m:=NV) rfl l
def Ho:KP:=fi.at 0
theorem X9:Ho.F=fO (aF+1) 328:=fi.top _ _ _ rfl
def y7:TL:=
 let a:TL:= .aa [(.i 1)]
 let b:TL:= .aa [(.i 2)]
 let c:TL:= .aa [(.i 0)]
 let d:TL:= .call 349 [0,1] 1 (.ite 11 (.call 37 [2] 1 (.aa [12])) c)
 let e:TL:= .ite 10 (.ite (aS 3 8) b (.ite (aS 9 3) b d)) d
 let f:TL:= .call 349 [0,1] 1 (.ite 10 (.call 37 [2] 1 (.aa [11])) c)
 let g:TL:= .ite 9 (.ite (aS 3 7) b (.ite (aS 8 3) b f)) f
 .call 347 [0,1] 1 (.ite (jK 5) a (.call 348 [1] 1 (.ite (gq (aG 4) 6) a (.ite (jK (.o .seq 2 jf)) (.call 349 [0,1] 1 (.ite (jK 7) a (.ite (bm 1 (.i 1)) (.call 182 [3] 1 (.ite (jK 8) b c)) (.call 350 [0,1] 3 (.ite (jK 10) (.ite (gq 3 (.i 0)) a e) e))))) (.ite (bm 1 (.i 1)) (.call 182 [3] 1 (.ite (jK 7) b c)) (.call 350 [0,1] 3 (.ite (jK 9) (.ite (gq 3 (.i 0)) a g) g)))))))
def H2:KL:=[rE,wP,rF,B4,nN,dB]
def oA:KP:=kn H2 [] ⟨329,329,[(.g [cbA]),mT],(.c eA)⟩ Tryz.call329 y7
def HE:TL:=
 let a:TL:= .aa [(.b false)]
 let b:Ex:= .i 0
 let c:Ex:=bG 2 9
 let d:Ex:=bG 6 9
 let e:Ex:=aS 11 (aG (bE 2 c))
 let f:Ex:=bG (bE 2 c) 11
 let g:Ex:=bG (bE 2 d) 11
 let h:Ex:=aS 19 (aG (bE 10 c))
 let j:Ex:=bG (bE 10 c) 19
 let k:Ex:=bG (bE 10 d) 19
 let l:Ex:=aS 20 (aG (bE 11 c))
 let m:Ex:=bG (bE 11 c) 20
 let n:Ex:=bG (bE 11 d) 20
 let p:Ex:=aS 21 (aG (bE 12 c))
 let q:Ex:=bG (bE 12 c) 21
 let r:Ex:=bG (bE 12 d) 21
 .ite (.o .seq 0 4) (.call 25 [1,5] 1 (.ite 8 (.ite (gq (aG 2) (aG 6)) a (.loop [b] (.ite (aS 9 (aG 2)) (.ag (aU b 9) (.ag (aS 9 (aG 2)) (.ag (aU b 9) (.ag (aS 9 (aG 6)) (.ite (.o .seq (bE 0 c) (bE 0 d)) (.call 25 [(bE 1 c),(bE 1 d)] 1 (.ite 10 (.ite (gq (aG (bE 2 c)) (aG (bE 2 d))) a (.loop [b] (.ite e (.ag (aU b 11) (.ag e (.ag (aU b 11) (.ag (aS 11 (aG (bE 2 d))) (.call 71 (nI f [0,1,2,3,4,5,6,7,8,9,10,11,12,13,14,15,16]++nI g [0,1,2,3,4,5,6,7,8,9,10,11,12,13,14,15,16]) 1 (.ite (jK 12) a (.next 1 [(eu 11)]))))))) (.call 72 [(bE 3 c),(bE 3 d)] 1 (.ite 12 (.call 73 [(bE 4 c),(bE 4 d)] 1 (.ite 13 (.call 74 [(bE 5 c),(bE 5 d)] 1 (.ite 14 (.call 74 [(bE 6 c),(bE 6 d)] 1 (.ite 15 (.call 74 [(bE 7 c),(bE 7 d)] 1 (.ite 16 (.call 74 [(bE 8 c),(bE 8 d)] 1 (.ite 17 (.call 74 [(bE 9 c),(bE 9 d)] 1 (.ite 18 (.ite (gq (aG (bE 10 c)) (aG (bE 10 d))) a (.loop [b] (.ite h (.ag (aU b 19) (.ag h (.ag (aU b 19) (.ag (aS 19 (aG (bE 10 d))) (.call 76 (nI j [0,1,2,3]++nI k [0,1,2,3]) 1 (.ite (jK 20) a (.next 2 [(eu 19)]))))))) (.ite (gq (aG (bE 11 c)) (aG (bE 11 d))) a (.loop [b] (.ite l (.ag (aU b 20) (.ag l (.ag (aU b 20) (.ag (aS 20 (aG (bE 11 d))) (.call 78 (nI m [0,1,2,3,4]++nI n [0,1,2,3,4]) 1 (.ite (jK 21) a (.next 3 [(eu 20)]))))))) (.ite (gq (aG (bE 12 c)) (aG (bE 12 d))) a (.loop [b] (.ite p (.ag (aU b 21) (.ag p (.ag (aU b 21) (.ag (aS 21 (aG (bE 12 d))) (.call 80 (nI q [0,1,2]++nI r [0,1,2]) 1 (.ite (jK 22) a (.next 4 [(eu 21)]))))))) (.next 0 [(eu 9)])))))))))) a)) a)) a)) a)) a)) a)) a))))) a)) a))))) (.call 28 [3,7] 1 (.aa [10]))))) a)) a
def So:KL:=[jG,mY,fW,ig,ii,nO,rG,vI,ku]
def pe:KP:=kn So [hq 30006007900004 [(17,0)] hl6 [],hq 30006007700004 [(17,0)] hl6 [],hq 30006007500004 [(17,0)] hl6 [],hq 30006007000004 [(17,0)] hl6 [],hq 6002002600004 [(17,0)] hl6 []] ⟨8,8,[Im,Im],(.c vD)⟩ Tryz.call8 HE
def AP:TL:=
 let a:TL:= .aa [(.b false)]
 let b:Ex:=bG 13 29
 let c:Ex:=bG 27 29
 .call 8 [jf,.nil,(cq [(cq [0,1,2,3,4,5,6,7,8,9,10,11,12] .nil)] .nil),.nil,jf,.nil,(cq [(cq [14,15,16,17,18,19,20,21,22,23,24,25,26] .nil)] .nil),.nil] 1 (.ite 28 (.ite (gq (aG 13) (aG 27)) a (.loop [(.i 0)] (.ite (aS 29 (aG 13)) (.ag (aU (.i 0) 29) (.ag (aS 29 (aG 13)) (.ag (aU (.i 0) 29) (.ag (aS 29 (aG 27)) (.call 90 (nI b [0,1,2,3]++nI c [0,1,2,3]) 1 (.ite (jK 30) a (.next 0 [(eu 29)]))))))) (.aa [(.b true)])))) a)
def Ll:KL:=[pe,vF]
def vG:KP:=kn Ll [hq 28002008900004 [(17,0)] hl6 []] ⟨34,34,[ayI,ayI],(.c vD)⟩ Tryz.call34 AP
def fv:TL:=
 let a:Ex:=cq [aeW,2,19] .nil
 let b:Ex:= .i 8796093022208
 let c:Ex:= .i 9223372036854775807
 let d:Ex:= .o .cat (.o .cat 22 sw9) 23
 let e:Ex:= .o .bC (.o .bC 20 asR) 22
 let f:Ex:=jK (.o .seq 6 jf)
 let g:EL:=[13,14,15,16,17,18]
 let h:Ex:= .o .bC (.o .bC (.o .bC (.o .bC (.o .bC (.o .bC e al5) 6) ama) 23) al3) 24
 let j:Ex:= .o .bC (.o .bC (.o .bC (.o .bC (.o .bC (.o .bC a al5) 6) ama) 20) al3) 21
 .call 18 [3] 1 (.ite (aS (.i 0) (aG 4)) (.ag (aU (aG (.o .bC a ap7)) b) (.loop [(.o .bC a ap7),(.i 0)] (.ite (aS 21 (aG 4)) (.ag (aU (.i 0) 21) (.ag (aS 21 (aG 4)) (.call 18 [(bE 0 (bG 4 21))] 1 (.ag (aU (.u .fD (.o .cat 22 sw9)) c) (.call 18 [(bE 1 (bG 4 21))] 1 (.ag (aU (.u .fD d) c) (.ag (aU (aG (.o .bC 20 d)) b) (.next 0 [(.o .bC 20 d),(eu 21)])))))))) (.call 18 [5] 1 (.ag (aU (aG e) b) (.ite f (.call 134 [7,8,9,10,11,12] 1 (.call 134 g 1 (.ag (aU (aG h) b) (.call 14 [0,1,h] 2 (.aa [25,26]))))) (.call 14 [0,1,e] 2 (.aa [23,24])))))))) (.ite f (.call 134 [7,8,9,10,11,12] 1 (.call 134 g 1 (.ag (aU (aG j) b) (.call 14 [0,1,j] 2 (.aa [22,23]))))) (.call 14 [0,1,a] 2 (.aa [20,21]))))
def uW:KL:=[eh,iT,aT]
def jB:KP:=kn uW [hq 9002005100005 [(4,9),(24,0)] [25,26,27,6,28,29,30,31,32,33,34,35,36,37,38,39] []] ⟨51,51,[ZO,anx],(.t [])⟩ Tryz.call51 fv
def nF:TL:=
 let a:Ex:= .o .cat (bE 0 (bG 3 7)) sw1
 let b:Ex:= .i 9223372036854775807
 let c:Ex:= .o .bC 6 (.o .cat a 8)
 let d:Ex:= .o .cat (.o .cat Mw 8) Og
 .loop [.nil,(.i 0)] (.ite (aS 7 (aG 3)) (.ag (aU (.i 0) 7) (.ag (aS 7 (aG 3)) (.ag (aU (.u .fD a) b) (.call 47 [(bE 1 (bG 3 7))] 1 (.ag (aU (.u .fD (.o .cat a 8)) b) (.ag (aU (aG c) (.i 8796093022208)) (.next 0 [c,(eu 7)]))))))) (.call 46 [6,atr] 1 (.ag (aU (.u .fD (.o .cat Mw 8)) b) (.ag (aU (.u .fD d) b) (.call 14 [0,1,(cq [ap6,2,d] .nil)] 2 (.loop [(.i 0),9,(eu 10)] (.ite (aS 11 (aG 4)) (.ag (aU (.i 0) 11) (.ag (aS 11 (aG 4)) (.call 47 [(bE 1 (bG 4 11))] 1 (.call 14 [12,13,(cq [ap4,(bE 0 (bG 4 11)),14] .nil)] 2 (.next 1 [(eu 11),15,16]))))) (.call 138 [12,13,5] 2 (.call 14 [14,(.o (.sub .i64) 15 (.i 1)),(cq [Uq] .nil)] 2 (.aa [16,17]))))))))))
def wu:KL:=[tQ,dv,aT,mr]
def kt:KP:=kn wu [hq 7003013700001 [(7,0)] [8,9,10,3,11,12,13,14,15,16,17,18,19] [(0,(1,5)),(0,(2,0))],hq 4003013500003 [(5,9),(10,0)] hl7 []] ⟨54,54,[ZO,ah2],(.t [])⟩ Tryz.call54 nF
def HC:TL:=
 let a:Ex:= .u .fD 0
 let b:Ex:= .i 0
 let c:Ex:= .b false
 let d:Ex:=aS 4 a
 let e:Ex:= .o .Mt 0 4
 let f:Ex:= .t .ite d (eu 4) 4
 let g:TL:= .next 0 [1,2,3,f,5,6,7]
 let h:Ex:=cq [jf,b,5] .nil
 let j:Ex:= .o .bC 6 (cq [(.i 4)] h)
 let k:Ex:= .i 3518437208883
 let l:TL:= .aa [.nil,5,(.i 8)]
 let m:Ex:= .o .bC 6 (cq [8,9,10,5] .nil)
 let n:TL:= .ite (bm e (.i 35)) (.next 0 [(.b true),2,3,f,5,6,7]) (.ag (aU b 4) (.ag (aU 4 a) (.ag (aU a a) (.call 141 [(.t .Uo 0 4 a)] 5 (.ite (bm 12 b) l (.ag (aU (aG m) k) (.next 0 [1,2,(.o (.add .i64) 4 12),f,5,m,(.b true)])))))))
 let p:Ex:= .o .bC j (cq [b] h)
 let q:Ex:= .o .bC 6 (cq [b] h)
 .ite (aS (.i 20000) a) (.aa [.nil,b,(.i 6)]) (.loop [c,c,b,b,(.i 1),.nil,c] (.ag (aU b 4) (.ag (aU a (.i 9223372036854775806)) (.ag (.o .or (jK d) (aS e (.i 128))) (.ite d (.ag d (.ag d (.ite (aS 4 3) g (.ite (bm e (.i 10)) (.ite 7 (.ag (aU (aG j) k) (.next 0 [c,2,3,f,(eu 5),j,c])) (.next 0 [c,2,3,f,(eu 5),6,c])) (.ite 1 (.ite 1 g n) (.ite (bm e (.i 32)) (.ite (bm e (.i 32)) g n) (.ite (bm e (.i 9)) g n))))))) (.ite 2 l (.ite 7 (.ag (aU (aG j) k) (.ag (aU (aG p) k) (.aa [p,b,b]))) (.ag (aU (aG q) k) (.aa [q,b,b])))))))))
def Sk:KL:=[Ge]
def tL:KP:=kn Sk [hq 4005900008 [(9,0),(10,0),(7,0)] [23,24,25,26,12,13,27,14,47,48,49,46,51,52,50,53,54,55,56,58,57,59,60,61,62,64,65,63,29,30,31,32,28,33,34,15,16,35,36,37,38,39,40,41,42,43,44,45] [(3,(1,0)),(1,(0,0)),(0,(0,233)),(2,(0,0))]] ⟨59,59,[AB],(.t [(.a (jy 233)),eA,eA])⟩ Tryz.call59 HC
def tf:TL:=
 .call 64 [0,1,2] 2 (.ite (jK 3) (.call 142 [0,4] 1 (.aa [5])) (.aa [4]))
def C2:KL:=[aw,iO]
def ao:KP:=kn C2 [] ⟨61,61,[lP,AB],(.t [])⟩ Tryz.call61 tf
def tj:TL:=
 .call 147 [0,1,2] 2 (.ite (aS 3 (.i 0)) (.call 142 [0,4] 1 (.aa [3,5])) (.aa [3,4]))
def C6:KL:=[gp,iO]
def bL:KP:=kn C6 [] ⟨65,65,[lP,gq3],(.c eA)⟩ Tryz.call65 tj
def Hw:TL:=
 let a:Ex:= .i 0
 let b:Ex:=bE 0 (bG 22 23)
 let c:TL:= .aa [22]
 let d:Ex:= .i 1
 let e:Ex:=aG 27
 let f:Ex:=aU a 26
 let g:Ex:=bG 27 26
 let h:TL:= .next 2 [25,(eu 26),27]
 let j:TL:= .call 166 [4,5,6,7,8,9,10,11,12,13,14,15,16,(bE 0 g)] 1 (.ite (jK (.o .seq 29 ag3)) (.ag (aU a 25) (.ag (aS 25 e) (.next 2 [(eu 25),(eu 26),(.t .Yh 27 25 (cq (nI g [0,1,2]) .nil))]))) h)
 let k:Ex:=cq [jf,a,a] .nil
 let l:Ex:= .o (.sub .i64) e 25
 let m:Ex:= .o .app (.t .KI 27 a 25) (.o .app (.o .rep k l) (.t .KI 27 (.o (.add .i64) 25 l) e))
 let n:Ex:=aG 28
 let p:Ex:=bG 28 27
 let q:TL:= .next 2 [26,(eu 27),28]
 let r:TL:= .call 166 [4,5,6,7,8,9,10,11,12,13,14,15,16,(bE 0 p)] 1 (.ite (jK (.o .seq 30 ag3)) (.ag f (.ag (aS 26 n) (.next 2 [(eu 26),(eu 27),(.t .Yh 28 26 (cq (nI p [0,1,2]) .nil))]))) q)
 let u:Ex:= .o (.sub .i64) n 26
 let w:Ex:= .o .app (.t .KI 28 a 26) (.o .app (.o .rep k u) (.t .KI 28 (.o (.add .i64) 26 u) n))
 let x:TL:= .call 166 [4,5,6,7,8,9,10,11,12,13,14,15,16,b] 1 (.ite (.o .seq 25 ag3) (.ite (bm 23 (.i (-1))) c (.loop [23,(eu 23),22] (.ite (aS 27 n) (.ag (aU a 27) (.ag (aS 27 n) (.loop [a] (.ite (aS 29 (aG 21)) (.ag (aU a 29) (.ag (aS 29 (aG 21)) (.ite (.o .seq (bE 0 (bG 21 29)) (bE 0 p)) (.ite (aU a 29) q r) (.next 3 [(eu 29)])))) r)))) (.ag f (.ag (aU 26 n) (.ag (aU n n) (.ag f (.ag (aU 26 (aG w)) (.aa [(.t .KI w a (.o (.add .i64) a (.o (.sub .i64) 26 a)))]))))))))) (.next 0 [(eu 23)]))
 .call 85 [(cq [18,19] .nil)] 1 (.call 162 [1] 1 (.loop [a] (.ite (aS 23 (aG 22)) (.ag (aU a 23) (.ag (aS 23 (aG 22)) (.loop [a] (.ite (aS 24 (aG 21)) (.ag (aU a 24) (.ag (aS 24 (aG 21)) (.ite (.o .seq (bE 0 (bG 21 24)) b) (.ite (aU a 24) (.ite (bm 23 (.i (-1))) c (.loop [23,(eu 23),22] (.ite (aS 26 e) (.ag f (.ag (aS 26 e) (.loop [a] (.ite (aS 28 (aG 21)) (.ag (aU a 28) (.ag (aS 28 (aG 21)) (.ite (.o .seq (bE 0 (bG 21 28)) (bE 0 g)) (.ite (aU a 28) h j) (.next 3 [(eu 28)])))) j)))) (.ag (aU a 25) (.ag (aU 25 e) (.ag (aU e e) (.ag (aU a 25) (.ag (aU 25 (aG m)) (.aa [(.t .KI m a (.o (.add .i64) a (.o (.sub .i64) 25 a)))]))))))))) x) (.next 1 [(eu 24)])))) x)))) c)))
def R9:KL:=[cD,jD,ef]
def tH:KP:=kn R9 [hq 21007020800002 [(8,0)] LM [],⟨21005016100005,[(5,0),(6,0)],[16,17,18,19,22,23,24,25,7,26,27,28,29,30,31,32,33,34,35,20,21],[],[20],[],[],[],[],0⟩,hq 21008020800002 [(8,0)] LM [],⟨21006016100005,[(5,0),(6,0)],[16,17,18,19,22,23,24,25,7,26,27,28,29,30,31,32,33,34,35,20,21],[],[20],[],[],[],[],0⟩,hq 21005020800002 [(8,0)] LM [],hq 21004020700002 [(8,0)] LM []] ⟨83,83,[Im,Vc,ah2],(.c (.a (jy 86)))⟩ Tryz.call83 Hw
def jh:TL:=
 .call 65 [0,1,(cq [sw4,sw2,sw3] .nil)] 2 (.ite (bm 2 (.i 0)) (.aa [(.i 1),3]) (.ite (bm 2 (.i 1)) (.aa [(.i 2),3]) (.aa [(.i 3),3])))
def BA:KL:=[bL]
def gJ:KP:=kn BA [] ⟨148,148,[lP],(.c eA)⟩ Tryz.call148 jh
def mv:TL:=
 .call 65 [0,1,(cq [al4,al9] .nil)] 2 (.aa [2,3])
def Bz:KL:=[bL]
def gI:KP:=kn Bz [] ⟨149,149,[lP],(.c eA)⟩ Tryz.call149 mv
def iM:TL:=
 .call 65 [0,1,(cq [sw7,sw5,sw6] .nil)] 2 (.ite (bm 2 (.i 0)) (.aa [(.i 1),3]) (.ite (bm 2 (.i 1)) (.aa [(.i 2),3]) (.aa [(.i 3),3])))
def zI:KL:=[bL]
def mj:KP:=kn zI [] ⟨200,200,[lP],(.c eA)⟩ Tryz.call200 iM
def qU:TL:=
 .call 62 [0,1] 2 (.call 148 [0,3] 2 (.aa [2,4,5]))
def Bu:KL:=[aB,gJ]
def jY:KP:=kn Bu [] ⟨238,238,[lP],(.c (.g [UV,xh]))⟩ Tryz.call238 qU
def fT:TL:=
 .call 145 [0,1,al9] 2 (.ite 2 (.call 149 [0,3] 2 (.aa [4,5])) (.call 145 [0,3,al4] 2 (.ite 4 (.call 149 [0,5] 2 (.aa [6,7])) (.call 150 [0,5] 2 (.aa [6,7])))))
def wm:KL:=[fI,gI,cG]
def ko:KP:=kn wm [] ⟨241,241,[lP],(.c eA)⟩ Tryz.call241 fT
def np:TL:=
 .call 153 [0,1] 5 (.ite (bm 3 (.i 2)) (.call 67 [0,7] 2 (.call 61 [0,9,agZ] 1 (.call 62 [0,10] 2 (.call 62 [0,12] 2 (.aa [(.o (.mul .i64) 2 8),11,13,14]))))) (.call 62 [0,7] 2 (.call 62 [0,9] 2 (.aa [2,8,10,11]))))
def C5:KL:=[aW,aD,ao,aB]
def iQ:KP:=kn C5 [] ⟨242,242,[lP,eA],(.c (.g [xh,UV,UV]))⟩ Tryz.call242 np
def qR:TL:=
 let a:Ex:= .i 0
 let b:Ex:=bG 2 41
 .call 32 [0,1,2,3,22] 1 (.call 296 [0,1,2,3,6,22] 2 (.ag (aU a 41) (.ag (aS 41 (aG 2)) (.call 139 (nI b [0,1,2,3,4,5,6,7,8,9,10,11,12]++[21]) 1 (.call 261 [0,1,2,3,4,5,6,7,8,9,10,11,12,13,14,15,16,17,18,19,23,24,25,26] 5 (.call 262 [0,1,2,3,4,5,6,7,8,9,10,11,12,13,14,15,16,17,18,49,31] 2 (.aa [(.i 14),41,44,42,45,46,47,48,a,jf,a,.nil,50,a,a,a,a,.nil,.nil,(.b false),51])))))))
def Bp:KL:=[fV,tN,bx,dt,cZ]
def gH:KP:=kn Bp [] ⟨260,260,[abR,Mg],(.c avD)⟩ Tryz.call260 qR
def px:TL:=
 let a:Ex:=bG 4 6
 .call 329 [0,1,2,3,4] 1 (.ite (gq 5 (.i 0)) (.aa [5]) (.loop [(.i 0)] (.ite (aS 6 (aG 4)) (.ag (aU (.i 0) 6) (.ag (aS 6 (aG 4)) (.call 314 ([0]++nI a [0,1,2,3]) 1 (.ite (gq 7 (.i 0)) (.aa [7]) (.next 0 [(eu 6)]))))) (.aa [(.i 0)]))))
def Ev:nK:=⟨314,314,[(.g [cbA]),mT],(.c eA)⟩
def Ef:KL:=[oA]
def Dg:nw:=[Ev]
def EN:Mm Dg Ef:=mq Ev [hq 1002031400005 [(18,0)] [19,20,21,7,22,23,24,8,25,26,27,4,28] []] Tryz.call314 px
def jO:Fm:={L:=Ef,cs:=Dg,ms:=[EN]}
def lS:=jO.g
theorem yx (k:Nat):lS k 329=oA.F:=jO.out k (j:=0) (x:=oA) rfl
theorem Rb (k:Nat) (l:aP):lS (k+1) 314 l=if l.length=5 then px.bR (lS k) l []else none:=jO.step k (i:=0) (m:=EN) rfl l
def yc:KP:=jO.at 0
theorem Px:yc.F=lS (aF+1) 314:=jO.top _ _ _ rfl
def pB:TL:=
 .call 61 [0,1,Mw] 1 (.call 62 [0,3] 2 (.call 61 [0,5,Og] 1 (.aa [2,4,(.i 0),.nil,6])))
def zH:KL:=[ao,aB]
def ja:KP:=kn zH [] ⟨364,364,[lP,eA],(.c mT)⟩ Tryz.call364 pB
def iK:TL:=
 let a:Ex:= .o .bC 0 (cq [19,22] .nil)
 .call 67 [1,2] 2 (.call 61 [1,20,sw9] 1 (.call 67 [1,21] 2 (.ag (aU (aG a) (.i 8796093022208)) (.call 153 [1,23] 5 (.ite (bm 24 (.i 2)) (.call 235000233 [a,1,28,3,4,5,6,7,8,9,10,11,12,13,14,15,16,17,18] 2 (.aa [29,30])) (.aa [a,28]))))))
def sd:nK:=⟨235000233,233,[lP,(.f 234 [(135,[(.rd .str),(.rd (.int .i64)),(.own 222),(.rd (.int .i64)),(.rd .str),(.rd (.int .i64)),(.rd (.int .i64)),(.rd (.int .i64)),(.rd (.int .i64)),(.rd (.sl 3)),(.rd (.sl 3)),(.rd (.int .i64)),(.rd (.int .i64)),(.rd (.int .i64)),(.rd (.int .i64)),(.rd (.sl 3)),(.rd (.sl 3))])])],(.t [])⟩
def rY:KL:=[aD,ao,aW]
def rx:nw:=[sd]
def sL:Mm rx rY:=mq sd [] Tryz.call233 iK
def cA:Fm:={L:=rY,cs:=rx,ms:=[sL]}
def cP:=cA.g
theorem oU (k:Nat):cP k 67=aD.F:=cA.out k (j:=0) (x:=aD) rfl
theorem oT (k:Nat):cP k 61=ao.F:=cA.out k (j:=1) (x:=ao) rfl
theorem oF (k:Nat):cP k 153=aW.F:=cA.out k (j:=2) (x:=aW) rfl
theorem su (k:Nat) (l:aP):cP (k+1) 235000233 l=if l.length=19 then iK.bR (cP k) l []else none:=cA.step k (i:=0) (m:=sL) rfl l
def mF:KP:=cA.at 0
theorem DR:mF.F=cP (aF+1) 235000233:=cA.top _ _ _ rfl
def iL:TL:=
 let a:Ex:= .o .bC 0 8
 let b:Ex:= .i 17592186044416
 let c:Ex:= .o .bC 1 11
 .call 67 [2,3] 2 (.call 61 [2,9,sw9] 1 (.call 67 [2,10] 2 (.ag (aU (aG a) b) (.ag (aU (aG c) b) (.call 153 [2,12] 5 (.ite (bm 13 (.i 2)) (.call 282000233 [a,c,2,17,4,5,6,7] 3 (.aa [18,19,20])) (.aa [a,c,17])))))))
def se:nK:=⟨282000233,233,[lP,(.f 281 [(109,[(.rd (.int .i64)),(.rd (.int .i64)),(.rd (.int .i64)),(.rd (.int .i64)),(.own 3),(.own 3)])])],(.t [])⟩
def rZ:KL:=[aD,ao,aW]
def ry:nw:=[se]
def sM:Mm ry rZ:=mq se [] Tryz.call233 iL
def cB:Fm:={L:=rZ,cs:=ry,ms:=[sM]}
def cQ:=cB.g
theorem oW (k:Nat):cQ k 67=aD.F:=cB.out k (j:=0) (x:=aD) rfl
theorem oV (k:Nat):cQ k 61=ao.F:=cB.out k (j:=1) (x:=ao) rfl
theorem oG (k:Nat):cQ k 153=aW.F:=cB.out k (j:=2) (x:=aW) rfl
theorem sw (k:Nat) (l:aP):cQ (k+1) 282000233 l=if l.length=8 then iL.bR (cQ k) l []else none:=cB.step k (i:=0) (m:=sM) rfl l
def mG:KP:=cB.at 0
theorem DS:mG.F=cQ (aF+1) 282000233:=cB.top _ _ _ rfl
def K0:TL:=
 let a:TL:= .aa [(.b false)]
 let b:Ex:=bG 1 6
 let c:Ex:=bG 4 6
 .ite (.o .seq 0 3) (.ite (gq (aG 1) (aG 4)) a (.loop [(.i 0)] (.ite (aS 6 (aG 1)) (.ag (aU (.i 0) 6) (.ag (aS 6 (aG 1)) (.ag (aU (.i 0) 6) (.ag (aS 6 (aG 4)) (.call 34 (nI b [0,1,2,3,4,5,6,7,8,9,10,11,12,13]++nI c [0,1,2,3,4,5,6,7,8,9,10,11,12,13]) 1 (.ite (jK 7) a (.next 0 [(eu 6)]))))))) (.call 35 [2,5] 1 (.aa [7]))))) a
def WA:KL:=[vG,lB]
def Gc:KP:=kn WA [hq 4002003300004 [(17,0)] hl6 []] ⟨10,10,[avz,avz],(.c vD)⟩ Tryz.call10 K0
def qZ:TL:=
 let a:Ex:= .i 1
 let b:Ex:= .i 0
 let c:Ex:=bG 4 19
 let d:Ex:=bG 12 38
 let e:Ex:=bG 13 41
 let f:Ex:=bG 14 44
 .call 14 [0,1,(cq [ath,2] .nil)] 2 (.call 17 [15,(eu 16),ag3,3] 2 (.loop [b,17,18] (.ite (aS 19 (aG 4)) (.ag (aU b 19) (.ag (aS 19 (aG 4)) (.call 51 ([20,21]++nI c [0,1,2,3,4,5,6,7,8,9,10,11,12,13,14,15,16]) 2 (.next 0 [(eu 19),22,23])))) (.loop [b,20,21] (.ite (aS 22 (aG 5)) (.ag (aU b 22) (.ag (aS 22 (aG 5)) (.call 18 [(bE 1 (bG 5 22))] 1 (.call 52 [(bE 2 (bG 5 22))] 1 (.call 14 [23,24,(cq [ag2,(bE 0 (bG 5 22)),25,26] .nil)] 2 (.next 1 [(eu 22),27,28])))))) (.loop [b,23,24] (.ite (aS 25 (aG 6)) (.ag (aU b 25) (.ag (aS 25 (aG 6)) (.call 18 [(bE 1 (bG 6 25))] 1 (.call 18 [(bE 2 (bG 6 25))] 1 (.call 14 [26,27,(cq [al1,(bE 0 (bG 6 25)),28,29] .nil)] 2 (.next 2 [(eu 25),30,31])))))) (.call 53 [26,27,aeV,7] 2 (.call 53 [28,29,al7,8] 2 (.call 53 [30,31,al8,9] 2 (.call 53 [32,33,ag1,10] 2 (.call 53 [34,35,al2,11] 2 (.loop [b,36,37] (.ite (aS 38 (aG 12)) (.ag (aU b 38) (.ag (aS 38 (aG 12)) (.call 54 ([39,40]++nI d [0,1,2,3]) 2 (.next 3 [(eu 38),41,42])))) (.loop [b,39,40] (.ite (aS 41 (aG 13)) (.ag (aU b 41) (.ag (aS 41 (aG 13)) (.call 55 ([42,43,2,3,4,5,6,7,8,9,10,11,12,13,14]++nI e [0,1,2,3,4]) 2 (.next 4 [(eu 41),44,45])))) (.loop [b,42,43] (.ite (aS 44 (aG 14)) (.ag (aU b 44) (.ag (aS 44 (aG 14)) (.call 56 ([45,46]++nI f [0,1,2]) 2 (.next 5 [(eu 44),47,48])))) (.call 14 [45,(.o (.sub .i64) 46 a),(cq [Uq] .nil)] 2 (.aa [47,48]))))))))))))))))))))
def BD:KL:=[aT,fm,jB,eh,yh,mo,kt,jb,nQ]
def j0:KP:=kn BD [hq 26003005000032 [(113,0)] [114,115,116,13,117,118,119,120] [(0,(1,5)),(0,(2,0))],hq 25003005000027 [(101,0)] [102,103,104,11,105,106,107,108,109] [(0,(1,5)),(0,(2,0))],hq 24003005000022 [(90,0)] [91,92,93,9,94,95,96,97] [(0,(1,5)),(0,(2,0))],hq 18003005000012 [(51,0)] [52,53,54,7,55,56,57,58,59,60,61,62,63,64,65,66] [(0,(1,5)),(0,(2,0))],hq 17003005000007 [(32,0)] [33,34,35,5,36,37,38,39,40,41,42,43,44,45,46,47] [(0,(1,5)),(0,(2,0))],hq 16003005000002 [(21,0)] [22,23,24,3,25,26,27,28] [(0,(1,5)),(0,(2,0))]] ⟨19,19,[ZO,Vc],(.t [])⟩ Tryz.call19 qZ
def mw:TL:=
 .call 62 [0,1] 2 (.call 148 [0,3] 2 (.call 61 [0,5,ag0] 1 (.ite (bm 4 (.i 2)) (.call 149 [0,6] 2 (.aa [2,4,7,8])) (.call 150 [0,6] 2 (.aa [2,4,7,8])))))
def BB:KL:=[aB,gJ,ao,gI,cG]
def gN:KP:=kn BB [] ⟨66,66,[lP],(.c (.g [UV,xh,xh]))⟩ Tryz.call66 mw
def qP:TL:=
 let a:Ex:=bG 20 22
 .loop [.nil,(.i 0),19] (.ite (aS 22 (aG 20)) (.ag (aU (.i 0) 22) (.ag (aS 22 (aG 20)) (.call 212 ([0,1,2,3,4,5,6,7,8,9,10,11,12,13,14,15,16,17,18,23]++nI a [0,1,2,3,4,5,6,7,8,9,10,11,12,13,14,15,16,17,18,19,20]) 2 (.call 211 [24,(aG 21)] 1 (.ag (aU (aG (.o .app 21 26)) (.i 549755813888)) (.next 0 [(.o .app 21 26),(eu 22),25])))))) (.aa [21,23]))
def zT:nK:=⟨169,169,[abR,gq5],(.o 187)⟩
def Ao:TL:=
 let a:EL:=[0,1,2,3,4,5,6,7,8,9,10,11,12,13,14,15,16,17,18,42,20,21,22,23,24,25,26,27,28,29,30,31,32,33,34,35,36,37,38,39,40]
 let b:TL:= .call 257 a 2 (.aa [43,44])
 let c:EL:=[0,1,2,3,4,5,6,7,8,9,10,11,12,13,14,15,16,17,18,42,21]
 let d:Ex:= .i 0
 let e:Ex:=cq [(.b false)] .nil
 let f:Ex:=cq [d,d,d,d,.nil,.nil] e
 let g:Ex:=cq [d,jf,d,.nil,.nil] f
 let h:Ex:= .o .max 41 d
 let j:Ex:=cq [d,d,jf,d,.nil] g
 let k:TL:= .ite (bm 20 (.i 11)) (.aa [(cq [(cq [(.i 12),h,d] j)] .nil),42]) (.aa [(cq [(cq [(.i 11),h,d] j)] .nil),42])
 let l:EL:=[0,1,2,3,4,5,6,7,8,9,10,11,12,13,14,15,16,17,18,42,23,24,25,26]
 let m:Ex:=cq [d,d,43,44,45,46] g
 let n:Ex:=cq [h] m
 let p:TL:= .ite (bm 20 (.i 18)) (.aa [(cq [(cq [(.i 19),d,d] j)] .nil),42]) (.ite (bm 20 (.i 13)) (.call 260 a 21 (.aa [(cq [(cq [43,44,45,46,47,48,49,50,51,52,53,54,55,56,57,58,59,60,61,62] .nil)] .nil),63])) (.ite (bm 20 (.i 14)) (.call 139 [6,7,8,9,10,11,12,13,14,15,16,17,18,21] 1 (.call 261 l 5 (.call 262 [0,1,2,3,4,5,6,7,8,9,10,11,12,13,14,15,16,17,18,48,31] 2 (.aa [(cq [(cq [(.i 15),d,43,d,44,45,46,47,d,jf,d,.nil,49] f)] .nil),50])))) (.ite (bm 20 (.i 5)) (.call 261 l 5 (.aa [(cq [(cq [(.i 6),d] m)] .nil),47])) (.ite (bm 20 (.i 6)) (.call 261 [0,1,2,3,4,5,6,7,8,9,10,11,12,13,14,15,16,17,18,42,27,28,29,30] 5 (.call 261 [0,1,2,3,4,5,6,7,8,9,10,11,12,13,14,15,16,17,18,47,23,24,25,26] 5 (.aa [(cq [(cq [(.i 7),h,d,d,48,49,50,51,43,44,45,46,.nil,d,d,d,d,.nil,.nil,38] .nil)] .nil),52]))) (.ite (bm 20 (.i 7)) (.call 261 l 5 (.aa [(cq [(cq [(.i 8)] n)] .nil),47])) (.ite (bm 20 (.i 8)) (.call 261 l 5 (.aa [(cq [(cq [(.i 9)] n)] .nil),47])) (.ite (bm 20 (.i 12)) (.call 261 l 5 (.aa [(cq [(cq [(.i 13)] n)] .nil),47])) (.ite (bm 20 (.i 15)) (.call 261 l 5 (.aa [(cq [(cq [(.i 16)] n)] .nil),47])) (.ite (bm 20 (.i 16)) (.call 261 l 5 (.aa [(cq [(cq [(.i 17)] n)] .nil),47])) (.ite (bm 20 (.i 17)) (.call 261 l 5 (.aa [(cq [(cq [(.i 18)] n)] .nil),47])) (.call 261 l 5 (.aa [(cq [(cq [d] n)] .nil),47]))))))))))))
 let q:TL:= .ite (bm 20 (.i 1)) (.call 258 c 2 (.ite (aS 43 d) (.call 259 [0,1,2,3,4,5,6,7,8,9,10,11,12,13,14,15,16,17,18,44,21] 2 (.call 261 [0,1,2,3,4,5,6,7,8,9,10,11,12,13,14,15,16,17,18,46,23,24,25,26] 5 (.aa [(cq [(cq [(.i 2),45,d,d,47,48,49,50] g)] .nil),51]))) (.call 261 [0,1,2,3,4,5,6,7,8,9,10,11,12,13,14,15,16,17,18,44,23,24,25,26] 5 (.aa [(cq [(cq [(.i 1),43,d,d,45,46,47,48] g)] .nil),49])))) (.ite (bm 20 (.i 2)) (.call 258 c 2 (.call 256 [0,1,2,3,4,5,6,7,8,9,10,11,12,13,14,15,16,17,18,44,22] 2 (.aa [(cq [(cq [(.i 3),43,45,d,d,jf,d,.nil,d,jf,d,.nil,.nil,32,33,34,35,36,37] e)] .nil),46]))) (.ite (bm 20 (.i 9)) (.call 258 [0,1,2,3,4,5,6,7,8,9,10,11,12,13,14,15,16,17,18,42,22] 2 (.aa [(cq [(cq [(.i 10),h,43] j)] .nil),44])) (.ite (bm 20 (.i 10)) (.ite (bm 20 (.i 10)) k p) (.ite (bm 20 (.i 11)) k p))))
 .call 256 [0,1,2,3,4,5,6,7,8,9,10,11,12,13,14,15,16,17,18,19,21] 2 (.ite (bm 20 (.i 3)) (.ite (bm 20 (.i 3)) b q) (.ite (bm 20 (.i 4)) b q))
def zU:nK:=⟨212,212,[abR,Mg],(.c (.a (jy 187)))⟩
def kI:TL:=
 let a:Ex:= .i 0
 let b:Ex:=cq [a,jf,a,.nil,.nil,a,a,a,a,.nil,.nil,(.b false)] .nil
 let c:Ex:= .o .app (cq [(cq [(.i 5),a,a,a,41,42,43,44] b)] .nil) 48
 let d:Ex:= .i 549755813888
 let e:Ex:=cq [a,a,a,jf,a,.nil] b
 let f:Ex:= .o .bC c (cq [(.i 4),a] e)
 let g:Ex:=bG f a
 let h:Ex:=bG c a
 let j:Ex:=eu (aG c)
 let k:Ex:= .o .bC c (cq [(.i 4),(.o (.add .i64) j (aG 49))] e)
 let l:Ex:=bG k a
 let m:Ex:= .o .app (.t .Yh k a (cq ([(bE 0 l),j]++nI l [2,3,4,5,6,7,8,9,10,11,12,13,14,15,16,17,18,19]) .nil)) 51
 .call 261 [0,1,2,3,4,5,6,7,8,9,10,11,12,13,14,15,16,17,18,19,23,24,25,26] 5 (.call 169 [0,1,2,3,4,5,6,7,8,9,10,11,12,13,14,15,16,17,18,45,39] 2 (.call 211 [46,(.i 1)] 1 (.ag (aU (aG c) d) (.ite (bm 20 (.i 4)) (.ag (aU (aG f) d) (.ag (aS a (aG f)) (.aa [(.t .Yh f a (cq ([(bE 0 g),(aG f)]++nI g [2,3,4,5,6,7,8,9,10,11,12,13,14,15,16,17,18,19]) .nil)),47]))) (.call 169 [0,1,2,3,4,5,6,7,8,9,10,11,12,13,14,15,16,17,18,47,40] 2 (.ite (bm (aG 40) a) (.ag (aS a (aG c)) (.aa [(.t .Yh c a (cq ([(bE 0 h),(aG c)]++nI h [2,3,4,5,6,7,8,9,10,11,12,13,14,15,16,17,18,19]) .nil)),50])) (.ag (aU (aG k) d) (.ag (aS a (aG k)) (.call 211 [49,j] 1 (.ag (aU (aG m) d) (.aa [m,50])))))))))))
def wB:nK:=⟨257,257,[abR,Mg],(.c (.a (jy 187)))⟩
def mf:KL:=[mP,dc,dV,cM,dt,gH,bx,cZ]
def lj:nw:=[zT,zU,wB]
def Ah:Mm lj mf:=mq zT [hq 18001016900003 [(5,187),(10,0)] [11,12,13,7,14,15,16,17,18,19,20,21,22] [(0,(19,0))]] Tryz.call169 qP
def Ai:Mm lj mf:=mq zU [] Tryz.call212 Ao
def wS:Mm lj mf:=mq wB [] Tryz.call257 kI
def bq:Fm:={L:=mf,cs:=lj,ms:=[Ah,Ai,wS]}
def aC:=bq.g
theorem mI (k:Nat):aC k 211=mP.F:=bq.out k (j:=0) (x:=mP) rfl
theorem FJ (k:Nat):aC k 256=dc.F:=bq.out k (j:=1) (x:=dc) rfl
theorem FK (k:Nat):aC k 258=dV.F:=bq.out k (j:=2) (x:=dV) rfl
theorem FL (k:Nat):aC k 259=cM.F:=bq.out k (j:=3) (x:=cM) rfl
theorem mJ (k:Nat):aC k 261=dt.F:=bq.out k (j:=4) (x:=dt) rfl
theorem FM (k:Nat):aC k 260=gH.F:=bq.out k (j:=5) (x:=gH) rfl
theorem FI (k:Nat):aC k 139=bx.F:=bq.out k (j:=6) (x:=bx) rfl
theorem FN (k:Nat):aC k 262=cZ.F:=bq.out k (j:=7) (x:=cZ) rfl
theorem Mb (k:Nat) (l:aP):aC (k+1) 169 l=if l.length=21 then qP.bR (aC k) l []else none:=bq.step k (i:=0) (m:=Ah) rfl l
theorem Mc (k:Nat) (l:aP):aC (k+1) 212 l=if l.length=41 then Ao.bR (aC k) l []else none:=bq.step k (i:=1) (m:=Ai) rfl l
theorem Ik (k:Nat) (l:aP):aC (k+1) 257 l=if l.length=41 then kI.bR (aC k) l []else none:=bq.step k (i:=2) (m:=wS) rfl l
def mV:KP:=bq.at 0
theorem Ky:mV.F=aC (aF+1) 169:=bq.top _ _ _ rfl
end
end Go.Proofs.YtlklkgdaegncaaaGreatDoor
