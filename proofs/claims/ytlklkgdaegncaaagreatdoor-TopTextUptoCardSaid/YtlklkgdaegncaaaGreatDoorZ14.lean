/-
  A part of the proof of TopText: LP3, LQ0, LQ1, LX1, LX2, LQ2, LQ3, LQ4, LQ5, LX3, LX4, LX5.
-/
import Derived.Test.YtlklkgdaegncaaaGreatDoorZ13
import Derived.Lib.AtoiAll
namespace Go.Proofs.YtlklkgdaegncaaaGreatDoor
set_option linter.unusedVariables false
set_option linter.unusedSimpArgs false
set_option maxRecDepth 20000
set_option maxHeartbeats 8000000
open List
open Nat
open Int
theorem w12:IntKind.i64.wrap 2=2:=by decide
theorem w23:IntKind.i64.wrap 3=3:=by decide
theorem w45:IntKind.i64.wrap 5=5:=by decide
theorem w56:IntKind.i64.wrap 6=6:=by decide
theorem w67:IntKind.i64.wrap 7=7:=by decide
theorem nq:((2:Nat):Int)=2:=rfl
theorem awA (n:Int) (h:ld n):(((cI++bQ n).length:Nat):Int)<=9223372036854775807/\((((cI++bQ n)++cj).length:Nat):Int)<=9223372036854775807:=by
 have:=agw n h
 simp only[length_append]
 simp only[wd,length_map,length_cons,length_nil]
 omega
theorem amV (a b:Bs) (h1:a.length<=1000000000) (h2:b.length<=1000000000):(((a++b).length:Nat):Int)<=9223372036854775807:=by
 simp only[length_append];omega
theorem Ep (a b c:Bs) (h1:a.length<=1000000000) (h2:b.length<=1000000000) (h3:c.length<=1000000000):
 (((a++ew).length:Nat):Int)<=9223372036854775807/\((((a++ew)++b).length:Nat):Int)<=9223372036854775807/\(((((a++ew)++b)++ew).length:Nat):Int)<=9223372036854775807/\((((((a++ew)++b)++ew)++c).length:Nat):Int)<=9223372036854775807:=by
 simp only[length_append]
 simp only[wd,length_map,length_cons,length_nil]
 omega
theorem axu:∀(e:aj) (k:Nat),e.ok->e.sz<1000000->3*e.sz<=k->cp k 228 e.cs=some [.s (bs e.tx)]:=by
 refine aj.ind fun op nm n ks ih k dI hb hk=> ?_
 have e0:(aj.mk op nm n ks).sz=1+(ks.map aj.sz).sum:=aj.dR _
 have kZ:∀x∈ks,x.sz<(aj.mk op nm n ks).sz:=fun x hx=>aj.Wi (e:= .mk op nm n ks) hx
 obtain⟨k,rfl⟩:∃j,k=j+1+1:=⟨k-2,by omega⟩
 obtain⟨h1,h2⟩:=(aj.vZ _).1 dI
 have hT:∀x∈ks,cp k 228 x.cs=some [.s (bs x.tx)]:=fun x hx=>ih x hx k (h2 x hx) (by have:=kZ x hx;omega) (by have:=kZ x hx;omega)
 have hO:∀x∈ks,∀l:Int,cp (k+1) 274 [.i x.op,.s (bs x.nm),.i x.n,ae aj.cs x.ks,.i l]=some [.s (bs (rQ x.op l x.tx))]:=fun x hx l=>by
  have:=ao7 x l k (h2 x hx) (by have:=kZ x hx;omega) (hT x hx)
  simpa only[aj.aA,cons_append,nil_append]using this
 have hL:∀x∈ks,∀l:Int,(rQ x.op l x.tx).length<=100000000:=fun x hx l=>by
  have h3:=RV x (h2 x hx)
  have h4:=kZ x hx
  have h5:=NW x.op l x.tx
  omega
 have W6:uJ op nm n ks.length:=h1
 have hnl:nm.length<=100:=by
  unfold uJ at W6
  rcases W6 with h|h|h|h|h|h|h
  ·rw[h.2.2.1];simp
  ·rw[h.2.2.1];simp
  ·have:=dF h.2.2.1;omega
  ·rw[h.2.2.1];simp
  ·rw[h.2.2.2.1];simp
  ·rw[h.2.2.2.1];simp
  ·have:=dF h.2.2.2.1;omega
 have hkl:ks.length<=2:=by
  unfold uJ at W6
  rcases W6 with h|h|h|h|h|h|h<;>omega
 have hC:=akQ (fE op) op nm n ks k (by have:=aa4 op;omega) hnl (by omega) h2 (fun x hx=>by have:=kZ x hx;omega) hT
 have eT:(aj.mk op nm n ks).tx=ft op nm n ks (ks.map aj.tx):=aj.aqn _
 rw[eT,aj.jN,abN]
 clear eT ih hk hb kZ e0 dI
 have hw:wd []=([]:Bs):=rfl
 unfold uJ at W6
 rcases W6 with⟨rfl,hn,-,-⟩|⟨rfl,hn,-,-⟩|⟨rfl,-,-,-⟩|⟨rfl,-,-,-⟩|⟨q1,q2,-,-,hk1⟩|⟨q1,q2,-,-,pJ⟩|⟨q1,q2,-,-,-⟩
 ·have g1:=df n (by unfold ld at hn;omega)
  obtain⟨g2,g3⟩:=awA n hn
  by_cases c:n<0
  ·simp only[bv,Jt,c,g1,g2,g3,ft,av,reduceToNat,Nat.reduceAdd,reduceEq]
  ·simp only[bv,Jt,c,g1,ft,av,reduceToNat,Nat.reduceAdd,reduceEq]
 ·simp only[bv,T0,akz,ft,av,reduceToNat,Nat.reduceAdd,reduceEq]
 ·simp only[bv,ft,av,reduceToNat,Nat.reduceAdd,reduceEq]
 ·simp only[bv,ft,av,reduceToNat,Nat.reduceAdd,reduceEq]
 ·obtain⟨a,rfl⟩:∃a,ks=[a]:=by
   match ks,hk1 with
   |[a],_=>exact⟨a,rfl⟩
  have ha:a∈[a]:=by simp
  rcases(by omega:op=5\/op=6\/op=7\/op=8)with rfl|rfl|rfl|rfl
  ·have g1:=hO a ha 7
   have g2:=amV rS (rQ a.op 7 a.tx) (by simp[wd]) (by have:=hL a ha 7;omega)
   simp only[bv,g1,g2,ft,na,length_cons,length_nil,Int.natCast_one,aj.aA a,or_self,av,reduceToNat,Nat.reduceAdd,reduceEq,Int.reduceLT]
  ·have g1:=hO a ha 3
   have g2:=amV aBh (rQ a.op 3 a.tx) (by simp[wd]) (by have:=hL a ha 3;omega)
   simp only[bv,g1,g2,ft,na,length_cons,length_nil,Int.natCast_one,aj.aA a,or_self,av,reduceToNat,Nat.reduceAdd,reduceEq,Int.reduceLT]
  ·simp only[fE,Dh,reduceEq]at hC
   simp only[bv,hC,ft,fE,av,reduceToNat,Nat.reduceAdd,reduceEq]
  ·simp only[fE,Dh,reduceEq]at hC
   simp only[bv,hC,ft,fE,av,reduceToNat,Nat.reduceAdd,reduceEq]
 ·obtain⟨a,b,rfl⟩:∃a b,ks=[a,b]:=by
   match ks,pJ with
   |[a,b],_=>exact⟨a,b,rfl⟩
  have ha:a∈[a,b]:=by simp
  have hb:b∈[a,b]:=by simp
  rcases(by omega:op=9\/op=10\/op=11\/op=12\/op=13\/op=14\/op=15\/op=16\/op=17\/op=18\/op=19\/op=20\/op=21)with rfl|rfl|rfl|rfl|rfl|rfl|rfl|rfl|rfl|rfl|rfl|rfl|rfl
  ·have g1:=hO a ha 5
   have g2:=hO b hb 6
   have o1:=CC 9
   obtain⟨c1,c2,c3,c4⟩:=Ep (rQ a.op 5 a.tx) YI (rQ b.op 6 b.tx) (by have:=hL a ha 5;omega) (by simp[wd]) (by have:=hL b hb 6;omega)
   simp only[lf,Dh,reduceEq]at o1
   simp only[bv,dw,o1,g1,g2,c1,c2,c3,c4,ft,na,lf,sF,oH,length_cons,length_nil,Int.reduceAdd,nq,aj.aA a,aj.aA b,w56,or_self,av,reduceToNat,Nat.reduceAdd,reduceEq,Int.reduceLT]
  ·have g1:=hO a ha 5
   have g2:=hO b hb 6
   have o1:=CC 10
   obtain⟨c1,c2,c3,c4⟩:=Ep (rQ a.op 5 a.tx) rS (rQ b.op 6 b.tx) (by have:=hL a ha 5;omega) (by simp[wd]) (by have:=hL b hb 6;omega)
   simp only[lf,Dh,reduceEq]at o1
   simp only[bv,dw,o1,g1,g2,c1,c2,c3,c4,ft,na,lf,sF,oH,length_cons,length_nil,Int.reduceAdd,nq,aj.aA a,aj.aA b,w56,or_self,av,reduceToNat,Nat.reduceAdd,reduceEq,Int.reduceLT]
  ·have g1:=hO a ha 6
   have g2:=hO b hb 7
   have o1:=CC 11
   obtain⟨c1,c2,c3,c4⟩:=Ep (rQ a.op 6 a.tx) JG (rQ b.op 7 b.tx) (by have:=hL a ha 6;omega) (by simp[wd]) (by have:=hL b hb 7;omega)
   simp only[lf,Dh,reduceEq]at o1
   simp only[bv,dw,o1,g1,g2,c1,c2,c3,c4,ft,na,lf,sF,oH,length_cons,length_nil,Int.reduceAdd,nq,aj.aA a,aj.aA b,w67,or_self,av,reduceToNat,Nat.reduceAdd,reduceEq,Int.reduceLT]
  ·have g1:=hO a ha 6
   have g2:=hO b hb 7
   have o1:=CC 12
   obtain⟨c1,c2,c3,c4⟩:=Ep (rQ a.op 6 a.tx) Ws (rQ b.op 7 b.tx) (by have:=hL a ha 6;omega) (by simp[wd]) (by have:=hL b hb 7;omega)
   simp only[lf,Dh,reduceEq]at o1
   simp only[bv,dw,o1,g1,g2,c1,c2,c3,c4,ft,na,lf,sF,oH,length_cons,length_nil,Int.reduceAdd,nq,aj.aA a,aj.aA b,w67,or_self,av,reduceToNat,Nat.reduceAdd,reduceEq,Int.reduceLT]
  ·have g1:=hO a ha 6
   have g2:=hO b hb 7
   have o1:=CC 13
   obtain⟨c1,c2,c3,c4⟩:=Ep (rQ a.op 6 a.tx) Wt (rQ b.op 7 b.tx) (by have:=hL a ha 6;omega) (by simp[wd]) (by have:=hL b hb 7;omega)
   simp only[lf,Dh,reduceEq]at o1
   simp only[bv,dw,o1,g1,g2,c1,c2,c3,c4,ft,na,lf,sF,oH,length_cons,length_nil,Int.reduceAdd,nq,aj.aA a,aj.aA b,w67,or_self,av,reduceToNat,Nat.reduceAdd,reduceEq,Int.reduceLT]
  ·have g1:=hO a ha 5
   have g2:=hO b hb 5
   have o1:=CC 14
   obtain⟨c1,c2,c3,c4⟩:=Ep (rQ a.op 5 a.tx) UA (rQ b.op 5 b.tx) (by have:=hL a ha 5;omega) (by simp[wd]) (by have:=hL b hb 5;omega)
   simp only[lf,Dh,reduceEq]at o1
   simp only[bv,dw,o1,g1,g2,c1,c2,c3,c4,ft,na,lf,sF,oH,length_cons,length_nil,Int.reduceAdd,nq,aj.aA a,aj.aA b,w45,or_self,av,reduceToNat,Nat.reduceAdd,reduceEq,Int.reduceLT]
  ·have g1:=hO a ha 5
   have g2:=hO b hb 5
   have o1:=CC 15
   obtain⟨c1,c2,c3,c4⟩:=Ep (rQ a.op 5 a.tx) wz5 (rQ b.op 5 b.tx) (by have:=hL a ha 5;omega) (by simp[wd]) (by have:=hL b hb 5;omega)
   simp only[lf,Dh,reduceEq]at o1
   simp only[bv,dw,o1,g1,g2,c1,c2,c3,c4,ft,na,lf,sF,oH,length_cons,length_nil,Int.reduceAdd,nq,aj.aA a,aj.aA b,w45,or_self,av,reduceToNat,Nat.reduceAdd,reduceEq,Int.reduceLT]
  ·have g1:=hO a ha 5
   have g2:=hO b hb 5
   have o1:=CC 16
   obtain⟨c1,c2,c3,c4⟩:=Ep (rQ a.op 5 a.tx) wz6 (rQ b.op 5 b.tx) (by have:=hL a ha 5;omega) (by simp[wd]) (by have:=hL b hb 5;omega)
   simp only[lf,Dh,reduceEq]at o1
   simp only[bv,dw,o1,g1,g2,c1,c2,c3,c4,ft,na,lf,sF,oH,length_cons,length_nil,Int.reduceAdd,nq,aj.aA a,aj.aA b,w45,or_self,av,reduceToNat,Nat.reduceAdd,reduceEq,Int.reduceLT]
  ·have g1:=hO a ha 5
   have g2:=hO b hb 5
   have o1:=CC 17
   obtain⟨c1,c2,c3,c4⟩:=Ep (rQ a.op 5 a.tx) wz7 (rQ b.op 5 b.tx) (by have:=hL a ha 5;omega) (by simp[wd]) (by have:=hL b hb 5;omega)
   simp only[lf,Dh,reduceEq]at o1
   simp only[bv,dw,o1,g1,g2,c1,c2,c3,c4,ft,na,lf,sF,oH,length_cons,length_nil,Int.reduceAdd,nq,aj.aA a,aj.aA b,w45,or_self,av,reduceToNat,Nat.reduceAdd,reduceEq,Int.reduceLT]
  ·have g1:=hO a ha 2
   have g2:=hO b hb 3
   have o1:=CC 18
   obtain⟨c1,c2,c3,c4⟩:=Ep (rQ a.op 2 a.tx) wz3 (rQ b.op 3 b.tx) (by have:=hL a ha 2;omega) (by simp[wd]) (by have:=hL b hb 3;omega)
   simp only[lf,Dh,reduceEq]at o1
   simp only[bv,dw,o1,g1,g2,c1,c2,c3,c4,ft,na,lf,sF,oH,length_cons,length_nil,Int.reduceAdd,nq,aj.aA a,aj.aA b,w23,or_self,av,reduceToNat,Nat.reduceAdd,reduceEq,Int.reduceLT]
  ·have g1:=hO a ha 1
   have g2:=hO b hb 2
   have o1:=CC 19
   obtain⟨c1,c2,c3,c4⟩:=Ep (rQ a.op 1 a.tx) wz2 (rQ b.op 2 b.tx) (by have:=hL a ha 1;omega) (by simp[wd]) (by have:=hL b hb 2;omega)
   simp only[lf,Dh,reduceEq]at o1
   simp only[bv,dw,o1,g1,g2,c1,c2,c3,c4,ft,na,lf,sF,oH,length_cons,length_nil,Int.reduceAdd,nq,aj.aA a,aj.aA b,w12,or_self,av,reduceToNat,Nat.reduceAdd,reduceEq,Int.reduceLT]
  ·simp only[fE,Dh,reduceEq]at hC
   simp only[bv,hC,ft,fE,av,reduceToNat,Nat.reduceAdd,reduceEq]
  ·simp only[fE,Dh,reduceEq]at hC
   simp only[bv,hC,ft,fE,av,reduceToNat,Nat.reduceAdd,reduceEq]
 ·rcases(by omega:op=22\/op=23\/op=24)with rfl|rfl|rfl
  ·simp only[fE,Dh,reduceEq]at hC
   simp only[bv,hC,ft,fE,av,reduceToNat,Nat.reduceAdd,reduceEq]
  ·simp only[fE,Dh,reduceEq]at hC
   simp only[bv,hC,ft,fE,av,reduceToNat,Nat.reduceAdd,reduceEq]
  ·simp only[fE,Dh,reduceEq]at hC
   simp only[bv,hC,ft,fE,av,reduceToNat,Nat.reduceAdd,reduceEq]
theorem aeZ (e:aj) (h:e.ok) (hs:e.sz<1000000):lA.F e.cs=some [.s (bs e.tx)]:=by
 rw[aaf]
 exact axu e _ h hs (by unfold aF;omega)
def cf (B:Bs):Sc:= .l (B.map fun c=> .i (c.toNat:Int))
theorem ahH:cf []= .l []:=rfl
theorem aa3 (a:Bs):U1.ev .bytes (.s (bs a))=cf a:=id rfl
theorem Y7 (a b:Bs):Sc.l ((cf a).list++(cf b).list)=cf (a++b):=by simp[cf]
theorem Ry (a:Bs):(cf a).list.length=a.length:=by simp[cf]
theorem amF (a b:Bs):((cf a).list++(cf b).list).length=(a++b).length:=by simp[cf]
theorem aqp (a:Bs):U1.ev .ofb (cf a)= .s (bs a):=by
 simp only[U1.ev,cf,aiw,map_map]
 have:((fun y:Sc=>UInt8.ofNat y.int.toNat)∘fun c:UInt8=>Sc.i (c.toNat:Int))=id:=by
  funext c
  simp
 rw[this,map_id];rfl
theorem aqo (a:Bs) (h:a≠[]):U1.ev .isb (cf a)= .b true:=by
 simp only[U1.ev,cf,aiw]
 congr 1
 rw[Bool.and_eq_true]
 refine⟨by simpa using h,?_⟩
 rw[all_eq_true]
 intro x hx
 obtain⟨c,_,rfl⟩:=mem_map.1 hx
 have:=c.toNat_lt
 simp[isByte]
 omega
structure Ln where
 deep:Nat
 ws:xm
def Dl (l:Ln):Bs:=(Lib.repeatL ew l.deep++dE l.ws ew)++wd [10]
def bF (ls:List Ln):Bs:=(ls.map Dl).flatten
theorem sH:bF []=[]:=rfl
theorem lR (l:Ln) (ls:List Ln):bF (l::ls)=Dl l++bF ls:=rfl
theorem sG (a b:List Ln):bF (a++b)=bF a++bF b:=by simp[bF]
theorem dX (l:Ln):bF [l]=Dl l:=by simp[bF]
def Yl:Nat:=1000000000000
theorem eU (B:Bs) (dp:Nat) (ws:xm) (h:B.length+(Dl ⟨dp,ws⟩).length<=Yl) (hw:ws.length<=1000000):aT.F [cf B,.i (dp:Int),am ws]=some [cf (B++Dl ⟨dp,ws⟩),.i (dp:Int)]:=by
 unfold Yl at h
 have hl:(Dl ⟨dp,ws⟩).length=dp+(dE ws ew).length+1:=by
  unfold Dl
  simp only[length_append,Lib.repeatL_length]
  simp[wd]
 have g1:oC.F [.s (bs ew),.i (dp:Int)]=some [.s (bs (Lib.repeatL ew dp))]:=by
  have hF:oC.F=YD:=by unfold oC;rfl
  rw[hF]
  show(if 0<=(dp:Int)/\(dp:Int)<=9223372036854775807/\(bs ew).size*((dp:Int)).toNat<=140737488355328 then some [Sc.s ⟨(Lib.repeatL (bs ew).data.toList ((dp:Int)).toNat).toArray⟩]else none)=_
  rw[if_pos ⟨by omega,by omega,by rw[aq6];simp[wd];omega⟩]
  rfl
 have g2:=aac ws ew (by omega) (by omega)
 have n1:(((Lib.repeatL ew dp++dE ws ew).length:Nat):Int)<=9223372036854775807:=by
  simp only[length_append,Lib.repeatL_length];simp only[wd,length_map,length_cons,length_nil];simp only[wd]at hl;omega
 have n2:((((Lib.repeatL ew dp++dE ws ew)++wd [10]).length:Nat):Int)<=9223372036854775807:=by
  have:(Dl ⟨dp,ws⟩).length=((Lib.repeatL ew dp++dE ws ew)++wd [10]).length:=rfl
  omega
 have n3:(((B++((Lib.repeatL ew dp++dE ws ew)++wd [10])).length:Nat):Int)<=140737488355328:=by
  have:(Dl ⟨dp,ws⟩).length=((Lib.repeatL ew dp++dE ws ew)++wd [10]).length:=rfl
  rw[length_append]
  omega
 rw[Nq]
 simp only[qY,I1,I2,g1,g2,n1,n2,aa3,Y7,Ry,n3,av,Nat.reduceAdd]
 rfl
def kD (t:Int):Bs:=if t=2 then ae1 else if t=3 then ae3 else ae2
theorem ait (t:Int):tQ.F [.i t]=some [.s (bs (kD t))]:=by
 rw[adY]
 unfold kD
 by_cases h1:t=2
 ·simp only[vt,h1,av,Nat.reduceAdd,reduceEq]
 by_cases h2:t=3
 ·simp only[vt,h2,av,Nat.reduceAdd,reduceEq]
 ·simp only[vt,h1,h2,av,Nat.reduceAdd]
def rJ (t:Int):Bs:=if t=2 then ajg else if t=3 then ajf else aje
theorem apf (t:Int):yh.F [.i t]=some [.s (bs (rJ t))]:=by
 rw[ZE]
 unfold rJ
 by_cases h1:t=2
 ·simp only[qi,h1,av,Nat.reduceAdd,reduceEq]
 by_cases h2:t=3
 ·simp only[qi,h2,av,Nat.reduceAdd,reduceEq]
 ·simp only[qi,h1,h2,av,Nat.reduceAdd]
def HP (t n:Int):Bs:=if t=2 then pI n else bQ n
def I64 (n:Int):Prop:= -9223372036854775808<=n/\n<=9223372036854775807
theorem ld.i64 {n:Int} (h:ld n):I64 n:=by unfold ld at h;unfold I64;omega
theorem vg.i64 {a b n:Int} (h:vg a b n) (ha: -9223372036854775808<=a) (hb:b<=9223372036854775807):I64 n:=by unfold vg at h;unfold I64;omega
theorem akD (t n:Int) (h:I64 n):qv.F [.i t,.i n]=some [.s (bs (HP t n))]:=by
 have g:=df n h
 rw[abI]
 unfold HP
 by_cases h1:t=2
 ·simp only[zh,h1,TB,akz,av,Nat.reduceAdd]
 ·simp only[zh,h1,VI,g,av,Nat.reduceAdd]
theorem z8.i64 {t n:Int} (h:z8 t n):I64 n:=by
 unfold z8 ld at h;unfold I64;omega
def Hv:uD->uD->Bs
 |v::vs,w::ws=>(((ew++bQ v)++nt)++bQ w)++Hv vs ws
 |_,_=>[]
def oO.tx (d:oO):Bs:=
 if d.op=1 then RX++(ew++bQ d.a)
 else if d.op=2 then(Oy++(ew++bQ d.a))++(ew++bQ d.b)
 else if d.op=4 then((Ld++(ew++bQ d.n))++(ew++bQ d.a))++(ew++bQ d.b)
 else if d.op=5 then(Ov++(ew++bQ d.a))++(ew++bQ d.b)
 else JI++Hv d.vs d.ws
theorem uK (n:Int) (h:I64 n):(bQ n).length<=21:=Lib.itoa_length_le n h.1 h.2
theorem ac8:∀(vs ws:uD) (i:Nat) (v w:Int),vs[i]? =some v->ws[i]? =some w->Hv (vs.take (i+1)) (ws.take (i+1))=Hv (vs.take i) (ws.take i)++(((ew++bQ v)++nt)++bQ w)
 |v::vs,w::ws,0,_,_,h1,h2=>by
  simp at h1 h2;subst h1 h2;simp[Hv]
 |v::vs,w::ws,i+1,v',w',h1,h2=>by
  have:=ac8 vs ws i v' w' (by simpa using h1) (by simpa using h2)
  simp only[take_succ_cons,Hv]at this⊢
  rw[this];simp only[append_assoc]
 |[],_,_,_,_,h1,_=>by simp at h1
 |_::_,[],_,_,_,_,h2=>by simp at h2
theorem aaN:∀(vs ws:uD) (i:Nat),(∀v∈vs,I64 v)->(∀w∈ws,I64 w)->(Hv (vs.take i) (ws.take i)).length<=44*i
 |vs,ws,0,_,_=>by simp[Hv]
 |[],ws,i+1,_,_=>by simp[Hv]
 |_::_,[],i+1,_,_=>by simp[Hv]
 |v::vs,w::ws,i+1,h1,h2=>by
  have ih:=aaN vs ws i (fun x hx=>h1 x (by simp[hx])) (fun x hx=>h2 x (by simp[hx]))
  have a:=uK v (h1 v (by simp))
  have b:=uK w (h2 w (by simp))
  simp only[take_succ_cons,Hv,length_append]
  simp only[wd,length_map,length_cons,length_nil]at*
  omega
theorem Xl (b:Bs) (n:Int) (h:I64 n) (hb:b.length<=1000):((((ew++bQ n).length:Nat):Int)<=9223372036854775807)/\((((b++(ew++bQ n)).length:Nat):Int)<=9223372036854775807)/\(b++(ew++bQ n)).length<=b.length+22:=by
 have:=uK n h
 simp only[length_append]
 simp only[wd,length_map,length_cons,length_nil]
 omega
theorem r5:∃k,aF=k+1+1+1+1:=⟨aF-4,by unfold aF;omega⟩
theorem w11:IntKind.i64.wrap 1=1:=by decide
theorem aFh:IntKind.i64.wrap (0+1)=1:=by decide
theorem Jv:((1:Nat):Int)=1:=rfl
theorem YH:((3:Nat):Int)=3:=rfl
theorem ady (d:oO) (h:d.ok):iT.F d.cs=some [.s (bs d.tx)]:=by
 obtain⟨h0,hc⟩:=h
 obtain⟨op,a,b,n,vs,ws⟩:=d
 rw[oO.aA]at hc
 rw[afK,oO.aA]
 unfold oO.ok0 at h0
 unfold oO.tx
 simp only at h0 hc⊢
 obtain⟨k,hk⟩:=r5
 rcases h0 with⟨rfl,-,-,-,-,ha⟩|⟨rfl,-,-,-,ha,hb,-⟩|⟨rfl,-,-,-,ha,hb⟩|⟨rfl,-,-,hn,ha,hb,-⟩|⟨rfl,-,-,-,hl,h1,h2,hv,hw⟩
 ·have ia:=ha.i64 (by decide) (by decide)
  have g1:=df a ia
  obtain⟨c1,c2,c3⟩:=Xl RX a ia (by simp[wd])
  simp only[pu,pT,sx,hc,hk,bO,g1,c1,c2,length_cons,length_nil,aFh,Jv,av,reduceToNat,Nat.reduceAdd,reduceEq,Int.reduceLT,reduceLE]
 ·have ia:=ha.i64 (by decide) (by decide)
  have ib:=hb.i64 (by decide) (by decide)
  have g1:=df a ia
  have g2:=df b ib
  obtain⟨c1,c2,c3⟩:=Xl Oy a ia (by simp[wd])
  obtain⟨d1,d2,d3⟩:=Xl (Oy++(ew++bQ a)) b ib (by simp[wd]at c3⊢;omega)
  simp only[pu,pT,sx,hc,hk,bO,g1,g2,c1,c2,d1,d2,length_cons,length_nil,Jv,nq,Int.reduceAdd,w11,w12,av,reduceToNat,Nat.reduceAdd,reduceEq,Int.reduceLT,reduceLE]
 ·have ia:=ha.i64 (by decide) (by decide)
  have ib:=hb.i64 (by decide) (by decide)
  have g1:=df a ia
  have g2:=df b ib
  obtain⟨c1,c2,c3⟩:=Xl Ov a ia (by simp[wd])
  obtain⟨d1,d2,d3⟩:=Xl (Ov++(ew++bQ a)) b ib (by simp[wd]at c3⊢;omega)
  simp only[pu,pT,sx,hc,hk,bO,g1,g2,c1,c2,d1,d2,length_cons,length_nil,Jv,nq,Int.reduceAdd,w11,w12,av,reduceToNat,Nat.reduceAdd,reduceEq,Int.reduceLT,reduceLE]
 ·have ia:=ha.i64 (by decide) (by decide)
  have ib:=hb.i64 (by decide) (by decide)
  have inn:=hn.i64 (by decide) (by decide)
  have g1:=df a ia
  have g2:=df b ib
  have g3:=df n inn
  obtain⟨b1,b2,b3⟩:=Xl Ld n inn (by simp[wd])
  obtain⟨c1,c2,c3⟩:=Xl (Ld++(ew++bQ n)) a ia (by simp[wd]at b3⊢;omega)
  obtain⟨d1,d2,d3⟩:=Xl ((Ld++(ew++bQ n))++(ew++bQ a)) b ib (by simp[wd]at b3 c3⊢;omega)
  simp only[pu,pT,sx,hc,hk,bO,g1,g2,g3,b1,b2,c1,c2,d1,d2,length_cons,length_nil,Jv,nq,YH,Int.reduceAdd,w11,w12,w23,av,reduceToNat,Nat.reduceAdd,reduceEq,Int.reduceLT,reduceLE]
 ·have hv':∀v∈vs,I64 v:=fun v hx=>(hv v hx).i64 (by decide) (by decide)
  have hw':∀v∈ws,I64 v:=fun v hx=>(hw v hx).i64 (by decide) (by decide)
  have c0:(((JI).length:Nat):Int)<=140737488355328:=by simp[wd]
  simp only[pu,pT,hc,aa3,Ry,c0,av,Nat.reduceAdd,reduceEq]
  refine cu (fun i=>[.i (i:Int),cf (JI++Hv (vs.take i) (ws.take i))]) vs.length (by simp[Hv]) (by omega) (fun i hi rec=> ?_) (fun rec=> ?_)
  ·obtain⟨v,hv1⟩:=aV hi
   obtain⟨w,hw1⟩:=aV (xs:=ws) (i:=i) (by omega)
   have bN:(i:Int)<vs.length:=by omega
   have hi2:(i:Int)<ws.length:=by omega
   have iv:=hv' v (aM hv1)
   have iw:=hw' w (aM hw1)
   have g1:=df v iv
   have g2:=df w iw
   have l1:=uK v iv
   have l2:=uK w iw
   have tl:=aaN vs ws i hv' hw'
   have n1:(((ew++bQ v).length:Nat):Int)<=9223372036854775807:=by simp[wd];omega
   have n2:((((ew++bQ v)++nt).length:Nat):Int)<=9223372036854775807:=by simp[wd];omega
   have n3:(((((ew++bQ v)++nt)++bQ w).length:Nat):Int)<=9223372036854775807:=by simp[wd];omega
   have n4:((((JI++Hv (vs.take i) (ws.take i))++(((ew++bQ v)++nt)++bQ w)).length:Nat):Int)<=140737488355328:=by
    simp only[length_append];simp only[wd,length_map,length_cons,length_nil]at*;omega
   have e1:(JI++Hv (vs.take i) (ws.take i))++(((ew++bQ v)++nt)++bQ w)=JI++Hv (vs.take (i+1)) (ws.take (i+1)):=by
    rw[ac8 vs ws i v w hv1 hw1];simp only[append_assoc]
   rw[e1]at n4
   simp only[ay hv1,ay hw1,bN,hi2,sx,g1,g2,n1,n2,n3,aa3,Y7,amF,n4,e1,aJ (k:=i) (by omega),av,Nat.reduceAdd]
  ·have e1:∀x,(JI++x:Bs)≠[]:=fun x h=>by simp[wd]at h
   have lw:ws.length=vs.length:=hl.symm
   simp only[Int.lt_irrefl,aqo _ (e1 _),aqp,take_length,av]
   rw[<-hl.symm,take_length]
theorem Jl (c:UInt8):tM.F [.i (c.toNat:Int)]=some [.b (Xe c)]:=by
 rw[adO]
 have h1:((97:Int)<=(c.toNat:Int))↔97<=c.toNat:=by omega
 have h2:((c.toNat:Int)<=122)↔c.toNat<=122:=by omega
 simp only[HD,Xe,h1,h2,av,Nat.reduceAdd]
 by_cases h:97<=c.toNat<;>simp[h]
theorem Jk (c:UInt8):wQ.F [.i (c.toNat:Int)]=some [.b (dgB c)]:=by
 rw[afM]
 have h1:((48:Int)<=(c.toNat:Int))↔48<=c.toNat:=by omega
 have h2:((c.toNat:Int)<=57)↔c.toNat<=57:=by omega
 simp only[K2,dgB,h1,h2,av,Nat.reduceAdd]
 by_cases h:48<=c.toNat<;>simp[h]
theorem agf (c:UInt8):Gd.F [.i (c.toNat:Int)]=some [.b (Jf c)]:=by
 rw[afN]
 have h1:((c.toNat:Int)=95)↔c.toNat=95:=by omega
 simp only[K3,XN,XO,Jl,Jk,Jf,h1,av,Nat.reduceAdd]
 cases Xe c<;>cases dgB c<;>simp
theorem acS:∀(a b:Bs) (acc:Nat),Lib.parseUint10 acc (a++b)=match Lib.parseUint10 acc a with| .ok v=>Lib.parseUint10 v b|e=>e
 |[],b,acc=>rfl
 |c::a,b,acc=>by
  simp only[cons_append,Lib.parseUint10]
  split
  ·split
   ·rfl
   ·split
    ·rfl
    ·exact acS a b _
  ·rfl
theorem S0 {d:Nat} (h:d<10):(UInt8.ofNat (48+d)).toNat=48+d:=by
 rw[UInt8.toNat_ofNat'];omega
theorem alx:∀(u:Nat),u<=1000000000000->Lib.parseUint10 0 (Lib.decDigits u)= .ok u:=by
 intro u
 induction u using Nat.strongRecOn with
 |_ u ih=>
  intro hu
  rw[Lib.decDigits]
  split
  ·rename_i h
   have:=S0 h
   simp only[Lib.parseUint10,this]
   rw[if_pos (by omega),if_neg (by omega),if_neg (by omega)]
   congr 1
   omega
  ·rename_i h
   have h1:=ih (u/10) (by omega) (by omega)
   have:=S0 (d:=u%10) (by omega)
   rw[acS,h1]
   simp only[Lib.parseUint10,this]
   rw[if_pos (by omega),if_neg (by omega),if_neg (by omega)]
   congr 1
   omega
theorem SZ:∀(u:Nat),(∀c∈Lib.decDigits u,dgB c=true)/\Lib.decDigits u≠[]:=by
 intro u
 induction u using Nat.strongRecOn with
 |_ u ih=>
  rw[Lib.decDigits]
  split
  ·rename_i h
   have:=S0 h
   refine⟨fun c hc=> ?_,by simp⟩
   rcases mem_singleton.1 hc with rfl
   simp[dgB];omega
  ·rename_i h
   have:=S0 (d:=u%10) (by omega)
   obtain⟨h1,h2⟩:=ih (u/10) (by omega)
   refine⟨fun c hc=> ?_,by simp⟩
   rcases mem_append.1 hc with hc|hc
   ·exact h1 c hc
   ·rcases mem_singleton.1 hc with rfl
    simp[dgB];omega
theorem Jn {n:Int} (h:0<=n):bQ n=Lib.decDigits n.toNat:=by
 unfold bQ Lib.itoa
 rw[if_neg (by omega)]
theorem ao2 {n:Int} (h:n<0):bQ n=rS++bQ (-n):=by
 rw[Jn (by omega:0<= -n)]
 unfold bQ Lib.itoa
 rw[if_pos h]
 have:n.natAbs=(-n).toNat:=by omega
 rw[this];rfl
theorem ao3 (n:Int) (h0:0<=n) (h1:n<=1000000000000):DP.F [.s (bs (bQ n))]=some [.i n,.b true]:=by
 obtain⟨d1,d2⟩:=SZ n.toNat
 have hp:=alx n.toNat (by omega)
 have ha:Lib.atoiAll (bQ n)= .ok n:=by
  rw[Jn h0]
  cases hd:Lib.decDigits n.toNat with
  |nil=>exact absurd hd d2
  |cons c r=>
   rw[hd]at hp d1
   have hc:=d1 c (by simp)
   simp only[dgB,Bool.and_eq_true,decide_eq_true_eq]at hc
   unfold Lib.atoiAll
   simp only
   have e1:¬c.toNat=45:=by omega
   have e2:¬(c.toNat=43\/c.toNat=45):=by omega
   rw[if_neg e2]
   have e3:Lib.parseMag (c::r)= .ok n.toNat:=by
    unfold Lib.parseMag
    rw[if_neg (by simp),hp]
   rw[e3]
   simp only[e1,false_and,if_false,not_false_eq_true,true_and]
   rw[if_neg (by omega)]
   congr 1
   omega
 have hF:B5.F [.s (bs (bQ n))]=some [.i n,.b true]:=by
  have hF:B5.F=aaq:=by unfold B5;rfl
  rw[hF]
  unfold aaq
  simp only[aq5,ha]
  have:=uK n (by unfold I64;omega)
  exact if_pos ⟨by omega,by omega,rfl,by show(bQ n).length<=_;omega⟩
 have hn:¬n<0:=by omega
 rw[adM]
 simp only[HB,Vl,hF,hn,av,Nat.reduceAdd]
theorem Jw (a p:Bs):nS.F [.s (bs a),.s (bs p)]=some [.b (decide (a.take p.length=p))]:=by
 have h1:kA.F [.s (bs a),.s (bs p)]=some [.b (decide (a.take p.length=p))]:=by
  rw[Ii]
  by_cases c:(p.length:Int)<=(a.length:Int)
  ·have es:U3.ev .Uo (.s (bs a)) (.i 0) (.i (p.length:Int))= .s (bs (a.take p.length)):=by
    rw[ai7 a 0 (p.length:Int) (by omega)];rfl
   simp only[jJ,c,es,av,Nat.reduceAdd]
  ·have:¬(a.take p.length=p):=by
    intro h
    have:=congrArg List.length h
    simp at this
    omega
   simp only[jJ,c,this,av,Nat.reduceAdd]
 rw[Pf]
 simp only[tw,Jb,h1,av,Nat.reduceAdd]
def Jz:xm:=[YI,rS,JG,Ws,Wt,UA,wz6,axB,cI,cj,rf,nt,ack]
def alU:xm:=[wz5,wz7,Yk]
theorem aos:∀w∈Jz,∃a:UInt8,w=[a]/\0<=Lib.indexByte atz a/\Xe a=false/\dgB a=false:=by
 unfold Jz
 simp only[forall_mem_cons]
 exact⟨⟨UInt8.ofNat _,rfl,by decide,by decide,by decide⟩,⟨UInt8.ofNat _,rfl,by decide,by decide,by decide⟩,⟨UInt8.ofNat _,rfl,by decide,by decide,by decide⟩,⟨UInt8.ofNat _,rfl,by decide,by decide,by decide⟩,⟨UInt8.ofNat _,rfl,by decide,by decide,by decide⟩,⟨UInt8.ofNat _,rfl,by decide,by decide,by decide⟩,⟨UInt8.ofNat _,rfl,by decide,by decide,by decide⟩,⟨UInt8.ofNat _,rfl,by decide,by decide,by decide⟩,⟨UInt8.ofNat _,rfl,by decide,by decide,by decide⟩,⟨UInt8.ofNat _,rfl,by decide,by decide,by decide⟩,⟨UInt8.ofNat _,rfl,by decide,by decide,by decide⟩,⟨UInt8.ofNat _,rfl,by decide,by decide,by decide⟩,⟨UInt8.ofNat _,rfl,by decide,by decide,by decide⟩,fun w hw=>by cases hw⟩
theorem aot (w:Bs) (hw:w∈Jz) (p:Bs):0<=Lib.indexByte atz ((w++p).getD 0 0)/\(w++p).length=p.length+1/\Xe ((w++p).getD 0 0)=false/\dgB ((w++p).getD 0 0)=false:=by
 obtain⟨a,rfl,h1,h2,h3⟩:=aos w hw
 exact⟨h1,by simp,h2,h3⟩
theorem asz (w p:Bs) (hw:w∈Jz) (hp:p.getD 0 0≠61):EM.F [.s (bs (w++p))]=some [.i 1]:=by
 obtain⟨h1,h2,_,_⟩:=aot w hw p
 have pf:∀c:UInt8,c∈[33,60,62]->¬((w++p).take 2=[c,61]):=by
  intro c _ h
  have hl:w.length=1:=by
   have:=h2
   simp at this
   omega
  obtain⟨a,rfl⟩:=length_eq_one_iff.1 hl
  cases p with
  |nil=>simp at h
  |cons b p=>
   simp at h
   simp at hp
   exact hp h.2
 have g1:=Jw (w++p) wz5
 have g2:=Jw (w++p) wz7
 have g3:=Jw (w++p) Yk
 have e1:¬((w++p).take (wz5).length=wz5):=pf 33 (by simp)
 have e2:¬((w++p).take (wz7).length=wz7):=pf 60 (by simp)
 have e3:¬((w++p).take (Yk).length=Yk):=pf 62 (by simp)
 have e4:¬(w++p=wd []):=by
  intro h
  have:=congrArg List.length h
  rw[h2]at this
  simp[wd]at this
 have e5:(0:Int)<(((w++p).length:Nat):Int):=by rw[h2];omega
 have gi:lc.F [.s (bs atz),.i (((w++p).getD 0 0).toNat:Int)]=some [.i (Lib.indexByte atz ((w++p).getD 0 0))]:=by
  have hF:lc.F=aes:=by unfold lc;rfl
  rw[hF]
  have hb:((((w++p).getD 0 0).toNat:Int)).toNat.toUInt8=(w++p).getD 0 0:=by
   simp
  show some [Sc.i (Lib.indexByte _ ((((w++p).getD 0 0).toNat:Int)).toNat.toUInt8)]=_
  rw[hb];rfl
 rw[ZB]
 simp only[wZ,xR,ZT,g1,g2,g3,e1,e2,e3,e4,e5,gi,h1,av,Nat.reduceAdd]
theorem asA (w p:Bs) (hw:w∈alU):EM.F [.s (bs (w++p))]=some [.i 2]:=by
 have g1:=Jw (w++p) wz5
 have g2:=Jw (w++p) wz7
 have g3:=Jw (w++p) Yk
 unfold alU at hw
 simp only[mem_cons,not_mem_nil,or_false]at hw
 rw[ZB]
 rcases hw with rfl|rfl|rfl
 ·have e1:((wz5++p).take (wz5).length=wz5):=by simp
  simp only[wZ,xR,g1,eq_true e1,av,Nat.reduceAdd]
 ·have e1:¬((wz7++p).take (wz5).length=wz5):=by simp[wd]
  have e2:((wz7++p).take (wz7).length=wz7):=by simp
  simp only[wZ,xR,g1,g2,e1,eq_true e2,av,Nat.reduceAdd]
 ·have e1:¬((Yk++p).take (wz5).length=wz5):=by simp[wd]
  have e2:¬((Yk++p).take (wz7).length=wz7):=by simp[wd]
  have e3:((Yk++p).take (Yk).length=Yk):=by simp
  simp only[wZ,xR,g1,g2,g3,e1,e2,eq_true e3,av,Nat.reduceAdd]
inductive Atom:Bs->ff->Prop where
 |word (w:Bs) (h0:w≠[]) (h1:Xe (w.getD 0 0)=true) (h2:∀c∈w,Jf c=true):Atom w (wT w)
 |num (n:Int) (h0:0<=n) (h1:n<=1000000000000):Atom (bQ n) (nT n)
 |sgn (w:Bs) (h:w∈Jz\/w∈alU):Atom w (sT w)
def Um (t:ff) (p:Bs):Prop:=p=[]\/((t.kind=3->p.getD 0 0≠61)/\(t.kind≠3->Jf (p.getD 0 0)=false))
theorem apX (w p:Bs):U3.ev .Uo (.s (bs (w++p))) (.i 0) (.i (w.length:Int))= .s (bs w):=by
 rw[ai7 (w++p) 0 (w.length:Int) (by simp)];simp
theorem iS {w p:Bs}{i:Nat} (h:i<w.length):(w++p).getD i 0=w.getD i 0:=by
 simp[getD_eq_getElem?_getD,getElem?_append_left h]
theorem F9 {w p:Bs}{i:Nat} (h:w.length<=i):(w++p).getD i 0=p.getD (i-w.length) 0:=by
 simp[getD_eq_getElem?_getD,getElem?_append_right h]
theorem Ez {w:Bs}{i:Nat} (h:i<w.length):w.getD i 0∈w:=by
 rw[getD_eq_getElem?_getD,getElem?_eq_getElem h];simp
theorem am6 {c:UInt8} (h:dgB c=true):Jf c=true:=by simp[Jf,h]
theorem ayB {c:UInt8} (h:dgB c=true):Xe c=false:=by
 simp only[dgB,Bool.and_eq_true,decide_eq_true_eq]at h
 simp[Xe];omega
theorem atw (w p:Bs) (t:ff) (ha:Atom w t) (hs:Um t p) (hl:(w++p).length<=20000):Ge.F [.s (bs (w++p))]=some [.i t.kind,.s (bs t.text),.i t.n,.i 0,.i (w.length:Int)]:=by
 have FE:wd []=([]:Bs):=rfl
 have es:=apX w p
 have hwl:w.length<=(w++p).length:=by simp
 have aAd:(w.length:Int)<=(((w++p).length:Nat):Int):=by omega
 rw[afO]
 cases ha with
 |word _ h0 h1 h2=>
  have hp:=length_pos_iff.2 h0
  have e0:(0:Int)<(((w++p).length:Nat):Int):=by omega
  have g0:(w++p).getD 0 0=w.getD 0 0:=iS hp
  have hs':p=[]\/Jf (p.getD 0 0)=false:=hs.imp id fun h=>h.2 (by simp[wT])
  simp only[tX,vE,Jl,e0,g0,h1,av,Nat.reduceAdd]
  refine cu (fun i=>[.i (i:Int)]) w.length rfl (by omega) (fun i hi rec=> ?_) (fun rec=> ?_)
  ·have bN:(i:Int)<(((w++p).length:Nat):Int):=by omega
   have gi:(w++p).getD i 0=w.getD i 0:=iS hi
   have ih:=h2 _ (Ez hi)
   simp only[bN,LH,agf,gi,ih,aJ (k:=i) (by omega),av,Nat.reduceAdd]
  ·rcases hs' with rfl|hs'
   ·have hlen:(w++[]).length=w.length:=by simp
    rw[hlen]
    rw[append_nil]at es
    simp only[append_nil,Int.lt_irrefl,Int.le_refl,es,av]
    simp[wT]
   ·by_cases hpe:p=[]
    ·subst hpe
     have hlen:(w++[]).length=w.length:=by simp
     rw[hlen]
     rw[append_nil]at es
     simp only[append_nil,Int.lt_irrefl,Int.le_refl,es,av]
     simp[wT]
    ·have hpp:=length_pos_iff.2 hpe
     have bN:(w.length:Int)<(((w++p).length:Nat):Int):=by rw[length_append];omega
     have gi:(w++p).getD w.length 0=p.getD 0 0:=by rw[F9 (Nat.le_refl _)];simp
     simp only[bN,aAd,LH,agf,gi,hs',es,av,Nat.reduceAdd]
     simp[wT]
 |num n h0 h1=>
  obtain⟨d1,d2⟩:=SZ n.toNat
  rw[<-Jn h0]at d1 d2
  have hp:=length_pos_iff.2 d2
  have e0:(0:Int)<(((bQ n++p).length:Nat):Int):=by omega
  have g0:(bQ n++p).getD 0 0=(bQ n).getD 0 0:=iS hp
  have q0:=d1 _ (Ez hp)
  have q1:=ayB q0
  have gn:=ao3 n h0 h1
  have hs':p=[]\/Jf (p.getD 0 0)=false:=hs.imp id fun h=>h.2 (by simp[nT])
  simp only[tX,vE,Cw,Jl,Jk,e0,g0,q0,q1,av,Nat.reduceAdd]
  refine cu (fun i=>[.i (i:Int)]) (bQ n).length rfl (by omega) (fun i hi rec=> ?_) (fun rec=> ?_)
  ·have bN:(i:Int)<(((bQ n++p).length:Nat):Int):=by omega
   have gi:(bQ n++p).getD i 0=(bQ n).getD i 0:=iS hi
   have ih:=d1 _ (Ez hi)
   simp only[bN,Jk,gi,ih,aJ (k:=i) (by omega),av,Nat.reduceAdd]
  ·by_cases hpe:p=[]
   ·subst hpe
    have hlen:(bQ n++[]).length=(bQ n).length:=by simp
    rw[hlen]
    rw[append_nil]at es
    simp only[append_nil,Int.lt_irrefl,Int.le_refl,es,LI,gn,FE,av,Nat.reduceAdd]
    simp[nT]
   ·have hpp:=length_pos_iff.2 hpe
    have bN:((bQ n).length:Int)<(((bQ n++p).length:Nat):Int):=by rw[length_append];omega
    have gi:(bQ n++p).getD (bQ n).length 0=p.getD 0 0:=by rw[F9 (Nat.le_refl _)];simp
    have hd:dgB (p.getD 0 0)=false:=by
     have:=hs'.resolve_left hpe
     cases hc:dgB (p.getD 0 0)with
     |false=>rfl
     |true=>rw[am6 hc]at this;cases this
    simp only[bN,aAd,Jk,gi,hd,es,LI,gn,FE,av,Nat.reduceAdd]
    simp[nT]
 |sgn _ h=>
  rcases h with h|h
  ·obtain⟨i1,i2,i3,i4⟩:=aot w h p
   have LM:w.length=1:=by simp at i2;omega
   have aDQ:p.getD 0 0≠61:=by
    rcases hs with rfl|hs
    ·simp
    ·exact hs.1 (by simp[sT])
   have g1:=asz w p h aDQ
   have e0:(0:Int)<(((w++p).length:Nat):Int):=by omega
   have e1:(1:Int)<=(((w++p).length:Nat):Int):=by omega
   have WY:U3.ev .Uo (.s (bs (w++p))) (.i 0) (.i 1)= .s (bs w):=by rw[LM]at es;exact es
   simp only[tX,vE,Cw,LJ,Jl,Jk,e0,e1,i3,i4,g1,WY,av,Nat.reduceAdd,reduceLE]
   simp[sT,LM]
  ·have g1:=asA w p h
   have hw2:w.length=2/\Xe ((w++p).getD 0 0)=false/\dgB ((w++p).getD 0 0)=false:=by
    unfold alU at h
    simp only[mem_cons,not_mem_nil,or_false]at h
    rcases h with rfl|rfl|rfl<;>exact⟨by simp[wd],by show Xe (UInt8.ofNat _)=false;decide,by show dgB (UInt8.ofNat _)=false;decide⟩
   obtain⟨hl2,i3,i4⟩:=hw2
   have e0:(0:Int)<(((w++p).length:Nat):Int):=by omega
   have e1:(2:Int)<=(((w++p).length:Nat):Int):=by omega
   have WY:U3.ev .Uo (.s (bs (w++p))) (.i 0) (.i 2)= .s (bs w):=by rw[hl2]at es;exact es
   simp only[tX,vE,Cw,LJ,Jl,Jk,e0,e1,i3,i4,g1,WY,av,Nat.reduceAdd,reduceLE]
   simp[sT,hl2]
theorem vS {w:Bs}{t:ff} (ha:Atom w t):w≠[]/\∀p:Bs,((w++p).getD 0 0)≠10/\((w++p).getD 0 0)≠32/\((w++p).getD 0 0)≠9/\((w++p).getD 0 0)≠35:=by
 have key:∀c:UInt8,Jf c=true->c≠10/\c≠32/\c≠9/\c≠35:=by
  intro c hc
  refine⟨?_,?_,?_,?_⟩<;>(rintro rfl;revert hc;decide)
 cases ha with
 |word _ h0 h1 h2=>
  refine⟨h0,fun p=> ?_⟩
  rw[iS (length_pos_iff.2 h0)]
  exact key _ (h2 _ (Ez (length_pos_iff.2 h0)))
 |num n h0 h1=>
  obtain⟨d1,d2⟩:=SZ n.toNat
  rw[<-Jn h0]at d1 d2
  refine⟨d2,fun p=> ?_⟩
  rw[iS (length_pos_iff.2 d2)]
  exact key _ (am6 (d1 _ (Ez (length_pos_iff.2 d2))))
 |sgn _ h=>
  rcases h with h|h
  ·have:∀w∈Jz,w≠[]/\∀p:Bs,((w++p).getD 0 0)=w.getD 0 0/\w.getD 0 0≠10/\w.getD 0 0≠32/\w.getD 0 0≠9/\w.getD 0 0≠35:=by
    intro w hw
    have h2:∀w∈Jz,w.getD 0 0≠10/\w.getD 0 0≠32/\w.getD 0 0≠9/\w.getD 0 0≠35:=by decide
    obtain⟨a,rfl,_⟩:=aos w hw
    exact⟨by simp,fun p=>⟨rfl,h2 _ hw⟩⟩
   refine⟨(this w h).1,fun p=> ?_⟩
   obtain⟨e,h2⟩:=(this w h).2 p
   rw[e];exact h2
  ·unfold alU at h
   simp only[mem_cons,not_mem_nil,or_false]at h
   rcases h with rfl|rfl|rfl<;>exact⟨by simp[wd],fun p=>by show(UInt8.ofNat _≠10/\UInt8.ofNat _≠32/\UInt8.ofNat _≠9/\UInt8.ofNat _≠35);decide⟩
theorem ahC {w:Bs}{t:ff} (ha:Atom w t):∀c∈w,c.toNat<128:=by
 have key:∀c:UInt8,Jf c=true->c.toNat<128:=by
  intro c hc
  simp only[Jf,Xe,dgB,Bool.or_eq_true,Bool.and_eq_true,decide_eq_true_eq]at hc
  omega
 cases ha with
 |word _ h0 h1 h2=>exact fun c hc=>key c (h2 c hc)
 |num n h0 h1=>
  obtain⟨d1,d2⟩:=SZ n.toNat
  rw[<-Jn h0]at d1
  exact fun c hc=>key c (am6 (d1 c hc))
 |sgn _ h=>
  have h1:∀w∈Jz,∀c∈w,c.toNat<128:=by decide
  have h2:∀w∈alU,∀c∈w,c.toNat<128:=by decide
  rcases h with h|h
  ·exact h1 w h
  ·exact h2 w h
def SG (l:i7):Bs:=(cI++dE (l.map aj.tx) j9)++cj
theorem ac7:∀l:i7,(∀k∈l,k.ok/\k.sz<=60)->((l.map aj.tx).map List.length).sum<=2400*l.length:=by
 intro l
 induction l with
 |nil=>intro _;simp
 |cons a r ih=>
  intro h
  have h1:=RV a (h a (by simp)).1
  have W6:=(h a (by simp)).2
  have h2:=ih fun k hk=>h k (by simp[hk])
  simp only[map_cons,sum_cons,length_cons]
  omega
theorem au0 (l:i7) (h:∀x∈l,x.ok/\x.sz<=60) (hl:l.length<=10):yg.F [ae aj.cs l]=some [.s (bs (SG l))]:=by
 rw[adX]
 unfold SG
 simp only[HJ,av,Nat.reduceAdd]
 have hj:=qn j9 (l.map aj.tx)
 have hj2:=ac7 l h
 have h2l:(j9).length=2:=by simp[wd]
 rw[h2l,length_map]at hj
 have hjl:(dE (l.map aj.tx) j9).length<=1000000:=by omega
 refine cu (fun i=>[am ((l.take i).map aj.tx),.i (i:Int)]) l.length rfl (by omega) (fun i hi rec=> ?_) (fun rec=> ?_)
 ·obtain⟨x,hx⟩:=aV hi
  have hm:=aM hx
  have bN:(i:Int)<l.length:=by omega
  have g1:=aeZ x (h x hm).1 (by have:=(h x hm).2;omega)
  simp only[aj.aA x]at g1
  have e1:=ac9 l i x hx
  have e2:(((am ((l.take i).map aj.tx)).list++[Sc.s (bs x.tx)]).length:Int)<=8796093022208:=by
   simp[am];omega
  simp only[VZ,map_map]at e1 e2
  simp only[ay hx,aj.aA x,bN,VH,g1,aJ (k:=i) (by omega),e1,e2,map_map,av,Nat.reduceAdd]
 ·have g2:=aac (l.map aj.tx) j9 (by simp;omega) (by omega)
  have n2:(((cI++dE (l.map aj.tx) j9).length:Nat):Int)<=9223372036854775807:=by
   simp only[length_append];simp only[wd,length_map,length_cons,length_nil]at hjl⊢;omega
  have n3:((((cI++dE (l.map aj.tx) j9)++cj).length:Nat):Int)<=9223372036854775807:=by
   simp only[length_append];simp only[wd,length_map,length_cons,length_nil]at hjl⊢;omega
  simp only[Int.lt_irrefl,take_length,XZ,g2,n2,n3,av,Nat.reduceAdd]
def Yf (op:Int) (nm pm:Bs) (e f:aj) (args:i7) (d:oO) (flag:Bool):xm:=
 if op=1 then[aqD,nm,UA,e.tx]
 else if op=2 then[aqv,nm,ahg,pm,d.tx]
 else if op=5 then[aqx,e.tx]
 else if op=6 then(if flag then[acj,nm,e.tx,aa5,f.tx,UC]else[acj,nm,e.tx,aa5,f.tx])
 else if op=7 then[aqB,nm,e.tx]
 else if op=8 then[aqA,e.tx,aqy,nm]
 else if op=9 then[aqw,pm,ahg,nm]
 else if op=10 then[aqC,nm]
 else if op=11 then[aqG,nm]
 else if op=12 then[aqE,nm,e.tx]
 else if op=13 then[amf,(pm++ack)++nm,SG args,ach,e.tx]
 else if op=14 then[amg,nm,SG args,ach,e.tx]
 else if op=15 then[aqz,nm,e.tx]
 else if op=16 then[La,nm,e.tx]
 else if op=17 then[aqu,nm,e.tx]
 else[aqF]
def UU (dp:Nat) (word:Bs) (e:aj) (bl:List Ln) (ne:Bool) (cl:List Ln):List Ln:=
 if ne then⟨dp,[word,e.tx]⟩::(bl++[⟨dp,[ep]⟩])else⟨dp,[word,e.tx]⟩::(bl++(⟨dp,[Ou]⟩::(cl++[⟨dp,[ep]⟩])))
def stN (dp:Nat) (op:Int) (nm pm:Bs) (e f:aj) (args:i7) (d:oO) (flag:Bool) (bl:List Ln) (ne:Bool) (cl:List Ln):List Ln:=
 if op=3 then UU dp MA e bl ne cl else if op=4 then UU dp Wx e bl ne cl else[⟨dp,Yf op nm pm e f args d flag⟩]
mutual
def ax.ln:Nat->ax->List Ln
 |dp,.mk op nm pm e f args d flag b c=>stN dp op nm pm e f args d flag (ax.vY (dp+1) b) c.isEmpty (ax.vY (dp+1) c)
def ax.vY:Nat->kb->List Ln
 |_,[]=>[]
 |dp,k::r=>k.ln dp++ax.vY dp r
end
theorem ax.aoL (dp:Nat):∀s:ax,s.ln dp=stN dp s.op s.nm s.pm s.e s.f s.args s.d s.flag (ax.vY (dp+1) s.body) s.fG.isEmpty (ax.vY (dp+1) s.fG)
 | .mk _ _ _ _ _ _ _ _ _ _=>by rw[ax.ln];rfl
theorem ax.aeA (dp:Nat):∀a b:kb,ax.vY dp (a++b)=ax.vY dp a++ax.vY dp b
 |[],b=>by simp[ax.vY]
 |x::a,b=>by simp[ax.vY,ax.aeA dp a b]
theorem ax.agi (dp:Nat){l:kb}{i:Nat}{x:ax} (h:l[i]? =some x):ax.vY dp (l.take (i+1))=ax.vY dp (l.take i)++x.ln dp:=by
 rw[<-fN h,ax.aeA];simp[ax.vY]
theorem xd {op:Int}{u:Use} (h:Dr op=some u):1<=op/\op<=18:=by
 refine Classical.byContradiction fun hc=> ?_
 have:Dr op=none:=by
  unfold Dr
  repeat(rw[if_neg (by omega)])
 rw[this]at h;cases h
theorem ahF (word:Bs) (x:ax) (k:Nat) (B:Bs) (dp:Nat) (hdp:dp<=1000000) (he:x.e.ok/\x.e.sz<=60)
 (hb:∀B:Bs,B.length+(bF (ax.vY (dp+1) x.body)).length<=Yl->bb k 138 [cf B,.i ((dp+1:Nat):Int),ae ax.cs x.body]=some [cf (B++bF (ax.vY (dp+1) x.body)),.i ((dp+1:Nat):Int)])
 (hc:∀B:Bs,B.length+(bF (ax.vY (dp+1) x.fG)).length<=Yl->bb k 138 [cf B,.i ((dp+1:Nat):Int),ae ax.cs x.fG]=some [cf (B++bF (ax.vY (dp+1) x.fG)),.i ((dp+1:Nat):Int)])
 (hB:B.length+(bF (UU dp word x.e (ax.vY (dp+1) x.body) x.fG.isEmpty (ax.vY (dp+1) x.fG))).length<=Yl) (hl:x.fG.length<1000000):
 bb (k+1) 229 ([cf B,.i (dp:Int),.s (bs word)]++x.cs)=some [cf (B++bF (UU dp word x.e (ax.vY (dp+1) x.body) x.fG.isEmpty (ax.vY (dp+1) x.fG))),.i (dp:Int)]:=by
 have g1:=aeZ x.e he.1 (by omega)
 rw[aj.aA]at g1
 have w1:IntKind.i64.wrap ((dp:Int)+1)=((dp+1:Nat):Int):=aJ (by omega)
 have w2:IntKind.i64.wrap (((dp+1:Nat):Int)-1)=(dp:Int):=by rw[cE (by omega) (by omega)];omega
 rw[Kd,ax.aA]
 by_cases c:x.fG=[]
 ·have c1:x.fG.isEmpty=true:=by rw[c];rfl
  have c2:¬((0:Int)<(x.fG.length:Int)):=by rw[c];simp
  rw[c1]at hB⊢
  unfold UU at hB⊢
  simp only[if_true,lR,sG,sH,append_nil,length_append,<-append_assoc]at hB⊢
  have l1:=eU B dp [word,x.e.tx] (by omega) (by simp)
  have l2:=hb (B++Dl ⟨dp,[word,x.e.tx]⟩) (by rw[length_append];omega)
  have l3:=eU ((B++Dl ⟨dp,[word,x.e.tx]⟩)++bF (ax.vY (dp+1) x.body)) dp [ep] (by simp only[length_append];omega) (by simp)
  simp only[am,map_cons,map_nil]at l1 l3
  simp only[lI,bg,aN,g1,l1,l2,l3,w1,w2,c2,av,Nat.reduceAdd]
 ·have c1:x.fG.isEmpty=false:=by simpa using c
  have c2:(0:Int)<(x.fG.length:Int):=by have:=length_pos_iff.2 c;omega
  rw[c1]at hB⊢
  unfold UU at hB⊢
  simp only[Bool.false_eq_true,if_false,lR,sG,sH,append_nil,length_append,<-append_assoc]at hB⊢
  have l1:=eU B dp [word,x.e.tx] (by omega) (by simp)
  have l2:=hb (B++Dl ⟨dp,[word,x.e.tx]⟩) (by rw[length_append];omega)
  have l3:=eU ((B++Dl ⟨dp,[word,x.e.tx]⟩)++bF (ax.vY (dp+1) x.body)) dp [Ou] (by simp only[length_append];omega) (by simp)
  have l4:=hc (((B++Dl ⟨dp,[word,x.e.tx]⟩)++bF (ax.vY (dp+1) x.body))++Dl ⟨dp,[Ou]⟩) (by simp only[length_append];omega)
  have l5:=eU ((((B++Dl ⟨dp,[word,x.e.tx]⟩)++bF (ax.vY (dp+1) x.body))++Dl ⟨dp,[Ou]⟩)++bF (ax.vY (dp+1) x.fG)) dp [ep] (by simp only[length_append];omega) (by simp)
  simp only[am,map_cons,map_nil]at l1 l3 l5
  simp only[lI,bg,aN,g1,l1,l2,l3,l4,l5,w1,w2,c2,av,Nat.reduceAdd]
theorem al0 (x:ax) (k:Nat) (B:Bs) (dp:Nat) (hx:x.okN)
 (qM:∀word:Bs,x.e.ok/\x.e.sz<=60->B.length+(bF (UU dp word x.e (ax.vY (dp+1) x.body) x.fG.isEmpty (ax.vY (dp+1) x.fG))).length<=Yl->bb k 229 ([cf B,.i (dp:Int),.s (bs word)]++x.cs)=some [cf (B++bF (UU dp word x.e (ax.vY (dp+1) x.body) x.fG.isEmpty (ax.vY (dp+1) x.fG))),.i (dp:Int)])
 (hB:B.length+(bF (x.ln dp)).length<=Yl):
 bb (k+1) 190 ([cf B,.i (dp:Int)]++x.cs)=some [cf (B++bF (x.ln dp)),.i (dp:Int)]:=by
 obtain⟨u,hu,hf,hp⟩:=hx
 have hr:=xd hu
 rw[ax.aoL]at hB⊢
 rw[Me]
 rw[ax.aA]at qM⊢
 unfold ax.parts at hp
 obtain⟨p1,p2,p3,p4,p5,p6,p7⟩:=hp
 generalize x.op=op at*
 generalize x.nm=nm at*
 generalize x.pm=pm at*
 generalize x.e=e at*
 generalize x.f=f at*
 generalize x.args=args at*
 generalize x.d=d at*
 generalize x.flag=flag at*
 simp only[cons_append,nil_append]at qM
 have ge:u.e=true->lA.F [.i e.op,.s (bs e.nm),.i e.n,ae aj.cs e.ks]=some [.s (bs e.tx)]:=fun h=>by
  have:=aeZ e (p3 h).1 (by have:=(p3 h).2;omega)
  rwa [aj.aA]at this
 have gf:u.f=true->lA.F [.i f.op,.s (bs f.nm),.i f.n,ae aj.cs f.ks]=some [.s (bs f.tx)]:=fun h=>by
  have:=aeZ f (p4 h).1 (by have:=(p4 h).2;omega)
  rwa [aj.aA]at this
 have gd:u.d=true->iT.F [.i d.op,.i d.a,.i d.b,.i d.n,bY d.vs,bY d.ws]=some [.s (bs d.tx)]:=fun h=>ady d (p7 h)
 have ga:=au0 args p6 (by omega)
 unfold stN at hB⊢
 rcases(by omega:op=1\/op=2\/op=3\/op=4\/op=5\/op=6\/op=7\/op=8\/op=9\/op=10\/op=11\/op=12\/op=13\/op=14\/op=15\/op=16\/op=17\/op=18)with rfl|rfl|rfl|rfl|rfl|rfl|rfl|rfl|rfl|rfl|rfl|rfl|rfl|rfl|rfl|rfl|rfl|rfl
 all_goals(simp only[Dr,reduceEq,if_true,if_false,Option.some.injEq]at hu;subst hu)
 ·simp only[Yf,Dh,Nat.reduceAdd,reduceEq]at hB⊢
  rw[dX]at hB⊢
  have g1:=ge rfl
  have l1:=eU B dp [aqD,nm,UA,e.tx] hB (by simp)
  simp only[am,map_cons,map_nil]at l1
  simp only[aR,aN,l1,bg,g1,av,Nat.reduceAdd,reduceEq]
 ·simp only[Yf,Dh,Nat.reduceAdd,reduceEq]at hB⊢
  rw[dX]at hB⊢
  have g1:=gd rfl
  have l1:=eU B dp [aqv,nm,ahg,pm,d.tx] hB (by simp)
  simp only[am,map_cons,map_nil]at l1
  simp only[aR,aN,l1,EQ,g1,av,Nat.reduceAdd,reduceEq]
 ·simp only[Dh,Nat.reduceAdd,reduceEq]at hB⊢
  have l1:=qM MA (p3 rfl) hB
  simp only[aR,l1,av,Nat.reduceAdd,reduceEq]
 ·simp only[Dh,Nat.reduceAdd,reduceEq]at hB⊢
  have l1:=qM Wx (p3 rfl) hB
  simp only[aR,l1,av,Nat.reduceAdd,reduceEq]
 ·simp only[Yf,Dh,Nat.reduceAdd,reduceEq]at hB⊢
  rw[dX]at hB⊢
  have g1:=ge rfl
  have l1:=eU B dp [aqx,e.tx] hB (by simp)
  simp only[am,map_cons,map_nil]at l1
  simp only[aR,aN,l1,bg,g1,av,Nat.reduceAdd,reduceEq]
 ·have g1:=ge rfl
  have g2:=gf rfl
  cases flag
  ·simp only[Yf,Dh,Nat.reduceAdd,reduceEq]at hB⊢
   rw[dX]at hB⊢
   have l1:=eU B dp [acj,nm,e.tx,aa5,f.tx] hB (by simp)
   simp only[am,map_cons,map_nil]at l1
   simp only[aR,bg,aN,g1,g2,l1,av,Nat.reduceAdd,reduceEq]
  ·simp only[Yf,Dh,Nat.reduceAdd,reduceEq]at hB⊢
   rw[dX]at hB⊢
   have l1:=eU B dp [acj,nm,e.tx,aa5,f.tx,UC] hB (by simp)
   simp only[am,map_cons,map_nil]at l1
   have c6:(((6:Nat):Int))=6:=rfl
   simp only[aR,bg,aN,g1,g2,l1,length_cons,length_nil,c6,av,Nat.reduceAdd,reduceEq,reduceLE]
 ·simp only[Yf,Dh,Nat.reduceAdd,reduceEq]at hB⊢
  rw[dX]at hB⊢
  have g1:=ge rfl
  have l1:=eU B dp [aqB,nm,e.tx] hB (by simp)
  simp only[am,map_cons,map_nil]at l1
  simp only[aR,aN,l1,bg,g1,av,Nat.reduceAdd,reduceEq]
 ·simp only[Yf,Dh,Nat.reduceAdd,reduceEq]at hB⊢
  rw[dX]at hB⊢
  have g1:=ge rfl
  have l1:=eU B dp [aqA,e.tx,aqy,nm] hB (by simp)
  simp only[am,map_cons,map_nil]at l1
  simp only[aR,aN,l1,bg,g1,av,Nat.reduceAdd,reduceEq]
 ·simp only[Yf,Dh,Nat.reduceAdd,reduceEq]at hB⊢
  rw[dX]at hB⊢
  have l1:=eU B dp [aqw,pm,ahg,nm] hB (by simp)
  simp only[am,map_cons,map_nil]at l1
  simp only[aR,aN,l1,av,Nat.reduceAdd,reduceEq]
 ·simp only[Yf,Dh,Nat.reduceAdd,reduceEq]at hB⊢
  rw[dX]at hB⊢
  have l1:=eU B dp [aqC,nm] hB (by simp)
  simp only[am,map_cons,map_nil]at l1
  simp only[aR,aN,l1,av,Nat.reduceAdd,reduceEq]
 ·simp only[Yf,Dh,Nat.reduceAdd,reduceEq]at hB⊢
  rw[dX]at hB⊢
  have l1:=eU B dp [aqG,nm] hB (by simp)
  simp only[am,map_cons,map_nil]at l1
  simp only[aR,aN,l1,av,Nat.reduceAdd,reduceEq]
 ·simp only[Yf,Dh,Nat.reduceAdd,reduceEq]at hB⊢
  rw[dX]at hB⊢
  have g1:=ge rfl
  have l1:=eU B dp [aqE,nm,e.tx] hB (by simp)
  simp only[am,map_cons,map_nil]at l1
  simp only[aR,aN,l1,bg,g1,av,Nat.reduceAdd,reduceEq]
 ·simp only[Yf,Dh,Nat.reduceAdd,reduceEq]at hB⊢
  rw[dX]at hB⊢
  have hn1:=dF (p1 rfl)
  have X7:=dF (p2 rfl)
  have n1:(((pm++ack).length:Nat):Int)<=9223372036854775807:=by simp only[length_append];simp only[wd,length_map,length_cons,length_nil];omega
  have n2:((((pm++ack)++nm).length:Nat):Int)<=9223372036854775807:=by simp only[length_append];simp only[wd,length_map,length_cons,length_nil];omega
  have g1:=ge rfl
  have l1:=eU B dp [amf,(pm++ack)++nm,SG args,ach,e.tx] hB (by simp)
  simp only[am,map_cons,map_nil]at l1
  simp only[aR,aN,l1,bg,g1,sN,ga,n1,n2,av,Nat.reduceAdd,reduceEq]
 ·simp only[Yf,Dh,Nat.reduceAdd,reduceEq]at hB⊢
  rw[dX]at hB⊢
  have g1:=ge rfl
  have l1:=eU B dp [amg,nm,SG args,ach,e.tx] hB (by simp)
  simp only[am,map_cons,map_nil]at l1
  simp only[aR,aN,l1,bg,g1,sN,ga,av,Nat.reduceAdd,reduceEq]
 ·simp only[Yf,Dh,Nat.reduceAdd,reduceEq]at hB⊢
  rw[dX]at hB⊢
  have g1:=ge rfl
  have l1:=eU B dp [aqz,nm,e.tx] hB (by simp)
  simp only[am,map_cons,map_nil]at l1
  simp only[aR,aN,l1,bg,g1,av,Nat.reduceAdd,reduceEq]
 ·simp only[Yf,Dh,Nat.reduceAdd,reduceEq]at hB⊢
  rw[dX]at hB⊢
  have g1:=ge rfl
  have l1:=eU B dp [La,nm,e.tx] hB (by simp)
  simp only[am,map_cons,map_nil]at l1
  simp only[aR,aN,l1,bg,g1,av,Nat.reduceAdd,reduceEq]
 ·simp only[Yf,Dh,Nat.reduceAdd,reduceEq]at hB⊢
  rw[dX]at hB⊢
  have g1:=ge rfl
  have l1:=eU B dp [aqu,nm,e.tx] hB (by simp)
  simp only[am,map_cons,map_nil]at l1
  simp only[aR,aN,l1,bg,g1,av,Nat.reduceAdd,reduceEq]
 ·simp only[Yf,Dh,Nat.reduceAdd,reduceEq]at hB⊢
  rw[dX]at hB⊢
  have l1:=eU B dp [aqF] hB (by simp)
  simp only[am,map_cons,map_nil]at l1
  simp only[aR,aN,l1,av,Nat.reduceAdd,reduceEq]
theorem asL:∀(l:kb) (k dp:Nat) (B:Bs),3*ax.im l+1<=k->ax.im l<1000000->dp+ax.im l<=1000000->ax.R1 l->B.length+(bF (ax.vY dp l)).length<=Yl->bb k 138 [cf B,.i (dp:Int),ae ax.cs l]=some [cf (B++bF (ax.vY dp l)),.i (dp:Int)]:=by
 refine ax.X8 fun l ih k dp B hk hb hdp dI hB=> ?_
 obtain⟨k,rfl⟩:∃j,k=j+1:=⟨k-1,by omega⟩
 have hln:=ax.pk l
 rw[Ke]
 simp only[pE,av,Nat.reduceAdd]
 refine cu (fun i=>[.i (i:Int),cf (B++bF (ax.vY dp (l.take i))),.i (dp:Int)]) l.length (by simp[ax.vY,sH]) (by omega) (fun i hi rec=> ?_) (fun rec=> ?_)
 ·obtain⟨x,hx⟩:=aV hi
  have hm:=aM hx
  have bN:(i:Int)<l.length:=by omega
  obtain⟨b1,b2⟩:=ax.vw hm
  obtain⟨o1,o2,o3⟩:=(ax.vZ x).1 ((ax.vJ l).1 dI x hm)
  have hsx:=ax.OM hm
  have hse:=ax.dR x
  obtain⟨k,rfl⟩:∃j,k=j+1+1:=⟨k-2,by omega⟩
  have ail:bF (ax.vY dp l)=bF (ax.vY dp (l.take i))++(bF (x.ln dp)++bF (ax.vY dp (l.drop (i+1)))):=by
   have:ax.vY dp l=ax.vY dp (l.take (i+1))++ax.vY dp (l.drop (i+1)):=by rw[<-ax.aeA,take_append_drop]
   rw[this,ax.agi dp hx,sG,sG,append_assoc]
  have hB':(B++bF (ax.vY dp (l.take i))).length+(bF (x.ln dp)).length<=Yl:=by
   rw[ail]at hB
   simp only[length_append]at hB⊢
   omega
  have hle:=ax.pk x.fG
  have g:=al0 x (k+1) (B++bF (ax.vY dp (l.take i))) dp o1 (fun word he hBB=>ahF word x k _ dp (by omega) he
   (fun B' hB'=>ih x.body b1 k (dp+1) B' (by omega) (by omega) (by omega) o2 hB')
   (fun B' hB'=>ih x.fG b2 k (dp+1) B' (by omega) (by omega) (by omega) o3 hB') hBB (by omega)) hB'
  rw[append_assoc,<-sG,<-ax.agi dp hx]at g
  simp only[ax.aA x,cons_append,nil_append]at g
  simp only[ay hx,ax.aA x,bN,g,aJ (k:=i) (by omega),av,Nat.reduceAdd]
 ·simp only[Int.lt_irrefl,take_length,av]
theorem asK (l:kb) (dp:Nat) (B:Bs) (hb:ax.im l<10000) (hd:dp<1000) (dI:ax.R1 l) (hB:B.length+(bF (ax.vY dp l)).length<=Yl):mr.F [cf B,.i (dp:Int),ae ax.cs l]=some [cf (B++bF (ax.vY dp l)),.i (dp:Int)]:=by
 rw[Jh]
 exact asL l _ dp B (by unfold aF;omega) (by omega) (by omega) dI hB
def bi {α:Type} (f:α->List Ln) (xs:List α):List Ln:=(xs.map f).flatten
theorem TS {α:Type} (f:α->List Ln){xs:List α}{i:Nat}{x:α} (h:xs[i]? =some x):bi f (xs.take (i+1))=bi f (xs.take i)++f x:=by
 rw[<-fN h];simp[bi]
theorem ab7 {α:Type} (f:α->List Ln){xs:List α}{i:Nat}{x:α} (h:xs[i]? =some x):bi f xs=bi f (xs.take i)++(f x++bi f (xs.drop (i+1))):=by
 have:bi f xs=bi f (xs.take (i+1))++bi f (xs.drop (i+1)):=by
  unfold bi
  rw[<-flatten_append,<-map_append,take_append_drop]
 rw[this,TS f h,append_assoc]
theorem l7 {α:Type} (f:α->List Ln) (xs:List α){g:fF->fF}{v:aP}{r:Option aP} (B:Bs) (dp:Nat) (hv:v=[.i 0,cf B,.i (dp:Int)]) (hl:xs.length<=1000000) (hB:B.length+(bF (bi f xs)).length<=Yl)
 (hs:∀(i:Nat) (x:α) (C:Bs) (rec:fF),xs[i]? =some x->C.length+(bF (f x)).length<=Yl->g rec [.i (i:Int),cf C,.i (dp:Int)]=rec [.i ((i+1:Nat):Int),cf (C++bF (f x)),.i (dp:Int)])
 (hf:∀rec,g rec [.i (xs.length:Int),cf (B++bF (bi f xs)),.i (dp:Int)]=r):dz g aF v=r:=by
 refine cu (fun i=>[.i (i:Int),cf (B++bF (bi f (xs.take i))),.i (dp:Int)]) xs.length (by rw[hv];simp[bi,sH]) (by omega) (fun i hi rec=> ?_) (fun rec=>by rw[take_length];exact hf rec)
 obtain⟨x,hx⟩:=aV hi
 rw[hs i x _ rec hx (by
  rw[ab7 f hx,sG,sG]at hB
  simp only[length_append]at hB⊢
  omega),append_assoc,<-sG,<-TS f hx]
def My (w:Bs) (v:fh):xm:=[w,v.nm,kD v.ty,UA,HP v.ty v.n]
theorem ahd (w:Bs) (vs:List fh) (B:Bs) (dp:Nat) (h:∀v∈vs,v.ok) (hl:vs.length<=1000000) (hB:B.length+(bF (bi (fun v=>[⟨dp,My w v⟩]) vs)).length<=Yl):fm.F [cf B,.i (dp:Int),.s (bs w),ae fh.cs vs]=some [cf (B++bF (bi (fun v=>[⟨dp,My w v⟩]) vs)),.i (dp:Int)]:=by
 rw[J5]
 simp only[oM,av,Nat.reduceAdd]
 refine l7 (fun v=>[⟨dp,My w v⟩]) vs B dp rfl hl hB (fun i x C rec hx hC=> ?_) (fun rec=> ?_)
 ·have bN:(i:Int)<vs.length:=by have:=bp hx;omega
  rw[dX]at hC⊢
  have l1:=eU C dp (My w x) hC (by simp[My])
  have g1:=akD x.ty x.n (h x (aM hx)).2.2.i64
  simp only[My,am,map_cons,map_nil]at l1⊢
  simp only[ay hx,fh.cs,bN,Fu,Fv,Ft,ait,g1,l1,aJ (k:=i) (by have:=bp hx;omega),av,Nat.reduceAdd]
 ·simp only[Int.lt_irrefl,av]
theorem N3 (w:Bs) (vs:xm) (B:Bs) (dp:Nat) (hl:vs.length<=1000000) (hB:B.length+(bF (bi (fun v=>[⟨dp,[w,v]⟩]) vs)).length<=Yl):mo.F [cf B,.i (dp:Int),.s (bs w),am vs]=some [cf (B++bF (bi (fun v=>[⟨dp,[w,v]⟩]) vs)),.i (dp:Int)]:=by
 rw[L5]
 simp only[pC,av,Nat.reduceAdd]
 refine l7 (fun v=>[⟨dp,[w,v]⟩]) vs B dp rfl hl hB (fun i x C rec hx hC=> ?_) (fun rec=> ?_)
 ·have bN:(i:Int)<vs.length:=by have:=bp hx;omega
  rw[dX]at hC⊢
  have l1:=eU C dp [w,x] hC (by simp)
  simp only[am,map_cons,map_nil]at l1
  simp only[ay hx,bN,G5,l1,aJ (k:=i) (by have:=bp hx;omega),av,Nat.reduceAdd]
 ·simp only[Int.lt_irrefl,av]
def chB (c:QQ):Bs:=(bQ c.at_++nt)++bQ c.gU
def QC (r:oP):xm:=if r.shift=[]then[zm,r.nm,bQ r.gU]else([zm,r.nm,bQ r.gU,Ow]++r.shift.map chB)++[Wv,bQ r.oh]
def PA (r:oP):xm:=if r.fs=[]then QC r else QC r++[UB,r.fs,aa6,r.up.tx,Yi,r.down.tx]
theorem agX (W:xm):am W= .l (W.map fun x=> .s (bs x)):=rfl
theorem aiJ (d:dL) (r:oP) (hr:r.ok d) (B:Bs) (dp:Nat) (hB:B.length+(Dl ⟨dp,PA r⟩).length<=Yl):jB.F ([cf B,.i (dp:Int)]++r.cs)=some [cf (B++Dl ⟨dp,PA r⟩),.i (dp:Int)]:=by
 obtain⟨h1,h2,h3,h4⟩:=hr
 have hw:wd []=([]:Bs):=rfl
 have gu:=df r.gU (h2.i64 (by decide) (by decide))
 have hwl:(PA r).length<=1000000:=by
  have hs:r.shift.length<=20:=by
   unfold oP.sched at h3
   rcases h3 with⟨h,_⟩|⟨_,h,_⟩
   ·rw[h];simp
   ·exact h
  unfold PA QC
  repeat' split
  all_goals(simp<;>omega)
 have l1:=eU B dp (PA r) hB hwl
 rw[GK,oP.aA]
 have fin:∀W:xm,W.length<=1000->PA r=(if r.fs=[]then W else W++[UB,r.fs,aa6,r.up.tx,Yi,r.down.tx])->(r.fs≠[]->iT.F [.i r.up.op,.i r.up.a,.i r.up.b,.i r.up.n,bY r.up.vs,bY r.up.ws]=some [.s (bs r.up.tx)]/\iT.F [.i r.down.op,.i r.down.a,.i r.down.b,.i r.down.n,bY r.down.vs,bY r.down.ws]=some [.s (bs r.down.tx)])->True:=fun _ _ _ _=>trivial
 have gd:r.fs≠[]->iT.F [.i r.up.op,.i r.up.a,.i r.up.b,.i r.up.n,bY r.up.vs,bY r.up.ws]=some [.s (bs r.up.tx)]/\iT.F [.i r.down.op,.i r.down.a,.i r.down.b,.i r.down.n,bY r.down.vs,bY r.down.ws]=some [.s (bs r.down.tx)]:=fun rP=>by
  unfold oP.fault at h4
  rcases h4 with⟨h,_⟩|⟨_,_,h5,h6⟩
  ·exact absurd h rP
  ·exact⟨ady r.up h5,ady r.down h6⟩
 unfold oP.sched at h3
 rcases h3 with⟨s1,s2⟩|⟨s1,s2,s3,s4⟩
 ·have c0:¬((0:Int)<(r.shift.length:Int)):=by rw[s1];simp
  unfold PA QC at l1⊢
  rw[if_pos s1]at l1⊢
  by_cases hf:r.fs=[]
  ·rw[if_pos hf]at l1⊢
   rw[agX]at l1
   simp only[fv,lu,gX,gu,c0,hw,hf,av,Nat.reduceAdd]
   simp only[map_cons,map_nil]at l1
   rw[l1]
   simp only[Dh,Nat.reduceAdd]
  ·rw[if_neg hf]at l1⊢
   rw[agX]at l1
   obtain⟨d1,d2⟩:=gd hf
   have n9:(((9:Nat):Int))<=8796093022208:=by decide
   simp only[fv,lu,gX,pU,gu,c0,hw,hf,d1,d2,length_append,length_cons,length_nil,n9,av,Nat.reduceAdd]
   simp only[map_cons,map_nil,Dh]at l1
   rw[l1]
   simp only[Dh,Nat.reduceAdd]
 ·have c0:(0:Int)<(r.shift.length:Int):=by have:=length_pos_iff.2 s1;omega
  have n4:(((4:Nat):Int))<=8796093022208:=by decide
  have gc:=df r.oh (s3.i64 (by decide) (by decide))
  unfold PA QC at l1⊢
  rw[if_neg s1]at l1⊢
  simp only[fv,lu,gu,c0,length_append,length_cons,length_nil,n4,av,Nat.reduceAdd]
  refine cu (fun i=>[am ([zm,r.nm,bQ r.gU,Ow]++(r.shift.take i).map chB),.i (i:Int)]) r.shift.length (by simp[am]) (by omega) (fun i hi rec=> ?_) (fun rec=> ?_)
  ·obtain⟨x,hx⟩:=aV hi
   have bN:(i:Int)<r.shift.length:=by omega
   obtain⟨q1,q2⟩:=s4 x (aM hx)
   have ia:I64 x.at_:=by unfold vg at q1 s3;unfold I64;omega
   have ib:=q2.i64 (by decide) (by decide)
   have g1:=df x.at_ ia
   have g2:=df x.gU ib
   have m1:=uK x.at_ ia
   have m2:=uK x.gU ib
   have n1:(((bQ x.at_++nt).length:Nat):Int)<=9223372036854775807:=by simp[wd];omega
   have n2:((((bQ x.at_++nt)++bQ x.gU).length:Nat):Int)<=9223372036854775807:=by simp[wd];omega
   have e1:am ([zm,r.nm,bQ r.gU,Ow]++(r.shift.take (i+1)).map chB)= .l (([zm,r.nm,bQ r.gU,Ow]++(r.shift.take i).map chB).map (fun x=>Sc.s (bs x))++[.s (bs ((bQ x.at_++nt)++bQ x.gU))]):=by
    rw[<-fN hx];simp[am,chB]
   rw[e1]
   simp only[ay hx,QQ.cs,bN,g1,g2,n1,n2,aJ (k:=i) (by omega),av,Nat.reduceAdd]
   rw[if_pos (by simp;omega)]
  ·by_cases hf:r.fs=[]
   ·rw[if_pos hf]at l1⊢
    have e1:am ((([zm,r.nm,bQ r.gU,Ow]++r.shift.map chB))++[Wv,bQ r.oh])= .l (([zm,r.nm,bQ r.gU,Ow]++r.shift.map chB).map (fun x=>Sc.s (bs x))++[.s (bs Wv)]++[.s (bs (bQ r.oh))]):=by simp[am]
    rw[e1]at l1
    simp only[map_cons,cons_append,nil_append]at l1
    simp only[Int.lt_irrefl,take_length,gX,gc,hw,hf,l1,av,Nat.reduceAdd]
    rw[if_pos (by simp;omega)]
   ·rw[if_neg hf]at l1⊢
    obtain⟨d1,d2⟩:=gd hf
    have e1:am (((([zm,r.nm,bQ r.gU,Ow]++r.shift.map chB))++[Wv,bQ r.oh])++[UB,r.fs,aa6,r.up.tx,Yi,r.down.tx])= .l (([zm,r.nm,bQ r.gU,Ow]++r.shift.map chB).map (fun x=>Sc.s (bs x))++[.s (bs Wv)]++[.s (bs (bQ r.oh))]++[.s (bs UB)]++[.s (bs r.fs)]++[.s (bs aa6)]++[.s (bs r.up.tx)]++[.s (bs Yi)]++[.s (bs r.down.tx)]):=by simp[am]
    rw[e1]at l1
    simp only[map_cons,cons_append,nil_append]at l1
    simp only[Int.lt_irrefl,take_length,gX,pU,gc,hw,hf,d1,d2,l1,av,Nat.reduceAdd]
    rw[if_pos (by simp;omega),if_pos (by simp;omega)]
def teW (first:Bool) (t:rR):xm:=
 let c:=if t.jM<0 then 0-t.jM else t.jM
 let s:=if t.jM<0 then rS else YI
 let g:=if first then(if t.jM<0 then rS else wd [])else wd []
 (if first then[]else[s])++(if c=1 then[g++t.what,t.nm]else[g++bQ c,JG,t.what,t.nm])
def Wj:List rR->xm
 |[]=>[]
 |t::r=>teW true t++(r.map (teW false)).flatten
def laW (l:zC):xm:=([FO,l.nm,nt]++Wj l.dK)++[UA,bQ l.total]
theorem Wk {ts:List rR}{i:Nat}{t:rR} (h:ts[i]? =some t):Wj (ts.take (i+1))=Wj (ts.take i)++teW (decide (i=0)) t:=by
 cases ts with
 |nil=>simp at h
 |cons a r=>
  cases i with
  |zero=>simp at h;subst h;simp[Wj]
  |succ i=>
   have h:r[i]? =some t:=by simpa using h
   simp only[take_succ_cons,Wj]
   rw[<-fN h]
   simp
theorem ats (b:Bool) (t:rR):(teW b t).length<=5:=by
 unfold teW
 cases b<;>(simp only;repeat' split)<;>simp
theorem aaQ (ts:List rR):∀i,i<=ts.length->(Wj (ts.take i)).length<=5*i:=by
 intro i
 induction i with
 |zero=>intro _;simp[Wj]
 |succ i ih=>
  intro h
  obtain⟨t,ht⟩:=aV (xs:=ts) (i:=i) (by omega)
  rw[Wk ht,length_append]
  have:=ih (by omega)
  have:=ats (decide (i=0)) t
  omega
theorem aAq (d:dL) (l:zC) (hl:l.ok d) (B:Bs) (dp:Nat) (hB:B.length+(Dl ⟨dp,laW l⟩).length<=Yl):nQ.F ([cf B,.i (dp:Int)]++l.cs)=some [cf (B++Dl ⟨dp,laW l⟩),.i (dp:Int)]:=by
 obtain⟨h1,h2,h3,h4,h5⟩:=hl
 have av8:∀t∈l.dK,t.what.length<=10:=fun t ht=>by
  have:=(h4 t ht).1
  unfold aaS at this
  simp only[mem_cons,not_mem_nil,or_false]at this
  rcases this with h|h|h|h|h|h|h<;>(rw[h];simp[wd])
 have gt:=df l.total h5.i64
 have tl:=aaQ l.dK l.dK.length (Nat.le_refl _)
 rw[take_length]at tl
 have l1:=eU B dp (laW l) hB (by unfold laW;simp;omega)
 have k1:¬(wd []=YI):=by decide
 have k2:¬(rS=YI):=by decide
 rw[Pc]
 unfold zC.cs
 simp only[tr,av,Nat.reduceAdd]
 refine cu (fun i=>[am ([FO,l.nm,nt]++Wj (l.dK.take i)),.i (i:Int)]) l.dK.length (by simp[am,Wj]) (by omega) (fun i hi rec=> ?_) (fun rec=> ?_)
 ·obtain⟨x,hx⟩:=aV hi
  have bN:(i:Int)<l.dK.length:=by omega
  have hx2:=(h4 x (aM hx)).2.2
  have hwl:=av8 x (aM hx)
  have til:=aaQ l.dK i (by omega)
  have ic:I64 x.jM:=hx2.1.i64 (by decide) (by decide)
  have icn:I64 (0-x.jM):=by have:=hx2.1;unfold vg at this;unfold I64;omega
  have g1:=df x.jM ic
  have g2:=df (0-x.jM) icn
  have wn:IntKind.i64.wrap (0-x.jM)=0-x.jM:=cE icn.1 icn.2
  have m1:=uK x.jM ic
  have m2:=uK _ icn
  have n1:(((wd []++bQ x.jM).length:Nat):Int)<=9223372036854775807:=by simp[wd];omega
  have n2:(((wd []++bQ (0-x.jM)).length:Nat):Int)<=9223372036854775807:=by simp only[length_append];simp only[wd,length_map,length_nil];omega
  have n3:(((rS++bQ (0-x.jM)).length:Nat):Int)<=9223372036854775807:=by simp only[length_append];simp only[wd,length_map,length_cons,length_nil];omega
  have n4:(((wd []++x.what).length:Nat):Int)<=9223372036854775807:=by simp[wd];omega
  have n5:(((rS++x.what).length:Nat):Int)<=9223372036854775807:=by simp[wd];omega
  have hs:=aJ (k:=i) (by omega)
  rw[Wk hx]
  unfold teW
  by_cases c1:x.jM<0
  ·by_cases c2:0-x.jM=1
   ·by_cases c3:i=0
    ·have c3':¬((0:Int)<(i:Int)):=by omega
     simp only[ay hx,rR.cs,bN,c1,c3',k2,c2,w11,n5,hs,av]
     rw[if_pos (by simp;omega)]
     simp[am,c3]
    ·have c3':(0:Int)<(i:Int):=by omega
     simp only[ay hx,rR.cs,bN,c1,c3',k1,c2,w11,n4,hs,av]
     rw[if_pos (by simp;omega),if_pos (by simp;omega)]
     simp[am,c3]
   ·by_cases c3:i=0
    ·have c3':¬((0:Int)<(i:Int)):=by omega
     simp only[ay hx,rR.cs,bN,c1,c3',k2,wn,c2,iF,g2,n3,hs,av,Nat.reduceAdd]
     rw[if_pos (by simp;omega)]
     simp[am,c3]
    ·have c3':(0:Int)<(i:Int):=by omega
     simp only[ay hx,rR.cs,bN,c1,c3',k1,wn,c2,iF,g2,n2,hs,av,Nat.reduceAdd]
     rw[if_pos (by simp;omega),if_pos (by simp;omega)]
     simp[am,c3]
  ·by_cases c2:x.jM=1
   ·by_cases c3:i=0
    ·have c3':¬((0:Int)<(i:Int)):=by omega
     simp only[ay hx,rR.cs,bN,c3',c2,n4,hs,av,Int.reduceLT]
     rw[if_pos (by simp;omega)]
     simp[am,c3]
    ·have c3':(0:Int)<(i:Int):=by omega
     simp only[ay hx,rR.cs,bN,c3',k1,c2,n4,hs,av,Int.reduceLT]
     rw[if_pos (by simp;omega),if_pos (by simp;omega)]
     simp[am,c3]
   ·by_cases c3:i=0
    ·have c3':¬((0:Int)<(i:Int)):=by omega
     simp only[ay hx,rR.cs,bN,c1,c3',c2,iF,g1,n1,hs,av,Nat.reduceAdd]
     rw[if_pos (by simp;omega)]
     simp[am,c3]
    ·have c3':(0:Int)<(i:Int):=by omega
     simp only[ay hx,rR.cs,bN,c1,c3',k1,c2,iF,g1,n1,hs,av,Nat.reduceAdd]
     rw[if_pos (by simp;omega),if_pos (by simp;omega)]
     simp[am,c3]
 ·have e1:am (laW l)= .l (([FO,l.nm,nt]++Wj l.dK).map (fun x=>Sc.s (bs x))++[.s (bs UA)]++[.s (bs (bQ l.total))]):=by simp[am,laW]
  rw[e1]at l1
  simp only[map_cons,cons_append,nil_append]at l1
  simp only[Int.lt_irrefl,take_length,iF,Kt,gt,l1,av,Nat.reduceAdd]
  rw[if_pos (by simp;omega)]
def rI (d:dL) (rt:Bs):List io:=match d.nh.findIdx? (fun r:jv=>decide (r.nm=rt))with|some j=>(d.nh[j]?.map (·.params)).getD []|none=>[]
def ik (ps:List io) (ns:uD):xm:=zipWith (fun f n=>HP f.ty n) ps ns
def saW (ps:List io) (s:xB):xm:=if s.every=0 then[JH,s.rt,(cI++dE (ik ps s.args) j9)++cj,Uz,bQ s.at_]else[JH,s.rt,(cI++dE (ik ps s.args) j9)++cj,Uz,bQ s.at_,aci,bQ s.every,aji,bQ s.til]
theorem T8 {d:dL}{rt:Bs}{j:Nat}{r:jv} (h1:cN (fun r:jv=>decide (r.nm=rt)) d.nh=j) (h2:d.nh[j]? =some r):rI d rt=r.params:=by
 unfold cN at h1
 unfold rI
 cases hf:d.nh.findIdx? (fun r:jv=>decide (r.nm=rt))with
 |none=>rw[hf]at h1;simp at h1
 |some i=>
  rw[hf]at h1
  have:i=j:=by simp at h1;omega
  subst this
  simp[h2]
theorem ajc (n:Int):(pI n).length<=5:=by unfold pI;split<;>simp[wd]
theorem RW (t n:Int) (h:I64 n):(HP t n).length<=21:=by
 unfold HP
 split
 ·have:=ajc n;omega
 ·exact uK n h
theorem asI (d:dL) (s:xB) (hd:d.lbN) (hs:s.ok d) (hp:∀r∈d.nh,r.params.length<=6) (B:Bs) (dp:Nat) (hB:B.length+(Dl ⟨dp,saW (rI d s.rt) s⟩).length<=Yl):jb.F ([cf B,.i (dp:Int)]++(d.cs++s.cs))=some [cf (B++Dl ⟨dp,saW (rI d s.rt) s⟩),.i (dp:Int)]:=by
 obtain⟨⟨j,r,e1,e2,e3,e4,e5⟩,h2,h3,h4,h5⟩:=hs
 have hx:=N7 d hd s.rt
 rw[e1]at hx
 rw[T8 e1 e2]at hB⊢
 have pK:=hp r (aM e2)
 have hal:s.args.length<=6:=by omega
 have hj:=bp e2
 have W8:(j:Int)<d.nh.length:=by omega
 have i2:=h2.i64 (by decide) (by decide)
 have i3:=h3.i64 (by decide) (by decide)
 have i4:=h4.i64 (by decide) (by decide)
 have g2:=df s.at_ i2
 have g3:=df s.every i3
 have g4:=df s.til i4
 have l1:=eU B dp (saW r.params s) hB (by unfold saW;split<;>simp)
 have zl:(ik r.params s.args).length=s.args.length:=by unfold ik;rw[length_zipWith];omega
 have aI7:((ik r.params s.args).map List.length).sum<=21*6:=by
  have key:∀(ps:List io) (ns:uD),(∀(i:Nat) (f:io) (n:Int),ps[i]? =some f->ns[i]? =some n->z8 f.ty n)->((ik ps ns).map List.length).sum<=21*ns.length:=by
   intro ps
   induction ps with
   |nil=>intro ns _;simp[ik]
   |cons f ps ih=>
    intro ns h
    cases ns with
    |nil=>simp[ik]
    |cons n ns=>
     have h1:=ih ns fun i f' n' a b=>h (i+1) f' n' (by simpa using a) (by simpa using b)
     have h2:=RW f.ty n (h 0 f n (by simp) (by simp)).i64
     simp only[ik,zipWith_cons_cons,map_cons,sum_cons,length_cons]at h1⊢
     omega
  have:=key r.params s.args e5
  omega
 have hj1:=qn j9 (ik r.params s.args)
 have h2l:(j9).length=2:=by simp[wd]
 rw[h2l,zl]at hj1
 have hjl:(dE (ik r.params s.args) j9).length<=1000:=by omega
 have n2:(((cI++dE (ik r.params s.args) j9).length:Nat):Int)<=9223372036854775807:=by
  simp only[length_append];simp only[wd,length_map,length_cons,length_nil]at hjl⊢;omega
 have n3:((((cI++dE (ik r.params s.args) j9)++cj).length:Nat):Int)<=9223372036854775807:=by
  simp only[length_append];simp only[wd,length_map,length_cons,length_nil]at hjl⊢;omega
 have gj:=aac (ik r.params s.args) j9 (by omega) (by omega)
 unfold dL.cs xB.cs at*
 simp only[cons_append,nil_append]at hx⊢
 rw[L6]
 simp only[pD,Fr,hx,W8,av,Nat.reduceAdd]
 refine cu (fun i=>[am ((ik r.params s.args).take i),.i (i:Int)]) s.args.length (by simp[am]) (by omega) (fun i hi rec=> ?_) (fun rec=> ?_)
 ·obtain⟨n,hn⟩:=aV hi
  obtain⟨f,hf⟩:=aV (xs:=r.params) (i:=i) (by omega)
  have bN:(i:Int)<s.args.length:=by omega
  have hi2:(i:Int)<r.params.length:=by omega
  have g1:=akD f.ty n (e5 i f n hf hn).i64
  have e6:(ik r.params s.args)[i]? =some (HP f.ty n):=by
   unfold ik;rw[getElem?_zipWith,hf,hn]
  rw[show(ik r.params s.args).take (i+1)=(ik r.params s.args).take i++[HP f.ty n]from(fN e6).symm]
  simp only[ay hn,ay e2,jv.cs,ay hf,io.cs,bN,hi2,G6,g1,aJ (k:=i) (by omega),av,Nat.reduceAdd]
  rw[if_pos (by simp;omega)]
  simp[am]
 ·rw[<-zl,take_length]
  by_cases c:s.every=0
  ·unfold saW at l1⊢
   rw[if_pos c]at l1⊢
   simp only[am,map_cons,map_nil]at l1
   simp only[Int.lt_irrefl,zl,vb,u7,u6,gj,n2,n3,g2,c,l1,av,Nat.reduceAdd]
  ·unfold saW at l1⊢
   rw[if_neg c]at l1⊢
   simp only[am,map_cons,map_nil]at l1
   simp only[Int.lt_irrefl,zl,vb,u7,u6,gj,n2,n3,g2,g3,g4,c,l1,av,Nat.reduceAdd]
   rw[if_pos (by simp)]
def Ys (f:io):Bs:=(f.nm++ew)++kD f.ty
def roL (dp:Nat) (r:jv):List Ln:=⟨dp,[Fe,r.nm,(cI++dE (r.params.map Ys) j9)++cj]⟩::(bi (fun f=>[⟨dp+1,[PC,f.nm,kD f.ty]⟩]) r.locals++(ax.vY (dp+1) r.body++[⟨dp,[ep]⟩]))
theorem Jj (t:Int):(kD t).length<=4:=by unfold kD;repeat' split
                                        all_goals simp[wd]
theorem axa (r:jv) (hr:r.ok) (B:Bs) (dp:Nat) (hd:dp<100) (hB:B.length+(bF (roL dp r)).length<=Yl):kt.F ([cf B,.i (dp:Int)]++r.cs)=some [cf (B++bF (roL dp r)),.i (dp:Int)]:=by
 obtain⟨h1,h2,h3,h4,h5⟩:=hr
 have w1:IntKind.i64.wrap ((dp:Int)+1)=((dp+1:Nat):Int):=aJ (by omega)
 have w2:IntKind.i64.wrap (((dp+1:Nat):Int)-1)=(dp:Int):=by rw[cE (by omega) (by omega)];omega
 have avv:∀f∈r.params,(Ys f).length<=29:=fun f hf=>by
  have a:=dF (h3 f (mem_append_left _ hf)).1
  have b:=Jj f.ty
  simp only[Ys,length_append];simp only[wd,length_map,length_cons,length_nil];omega
 have avy:∀l:List io,(∀f∈l,(Ys f).length<=29)->((l.map Ys).map List.length).sum<=29*l.length:=by
  intro l
  induction l with
  |nil=>intro _;simp
  |cons a r ih=>
   intro h
   have h1:=h a (by simp)
   have h2:=ih fun k hk=>h k (by simp[hk])
   simp only[map_cons,sum_cons,length_cons]
   omega
 have hj1:=qn j9 (r.params.map Ys)
 have hj2:=avy r.params avv
 have h2l:(j9).length=2:=by simp[wd]
 rw[h2l,length_map]at hj1
 have hjl:(dE (r.params.map Ys) j9).length<=1000:=by omega
 have n2:(((cI++dE (r.params.map Ys) j9).length:Nat):Int)<=9223372036854775807:=by
  simp only[length_append];simp only[wd,length_map,length_cons,length_nil]at hjl⊢;omega
 have n3:((((cI++dE (r.params.map Ys) j9)++cj).length:Nat):Int)<=9223372036854775807:=by
  simp only[length_append];simp only[wd,length_map,length_cons,length_nil]at hjl⊢;omega
 have gj:=aac (r.params.map Ys) j9 (by simp;omega) (by omega)
 unfold roL at hB⊢
 simp only[lR,sG,sH,append_nil,length_append,<-append_assoc]at hB⊢
 have l1:=eU B dp [Fe,r.nm,(cI++dE (r.params.map Ys) j9)++cj] (by omega) (by simp)
 simp only[am,map_cons,map_nil]at l1
 rw[Ie]
 unfold jv.cs
 simp only[nF,av,Nat.reduceAdd]
 refine cu (fun i=>[am ((r.params.take i).map Ys),.i (i:Int)]) r.params.length (by simp[am]) (by omega) (fun i hi rec=> ?_) (fun rec=> ?_)
 ·obtain⟨f,hf⟩:=aV hi
  have bN:(i:Int)<r.params.length:=by omega
  have a:=dF (h3 f (mem_append_left _ (aM hf))).1
  have b:=Jj f.ty
  have m1:(((f.nm++ew).length:Nat):Int)<=9223372036854775807:=by simp[wd];omega
  have m2:((((f.nm++ew)++kD f.ty).length:Nat):Int)<=9223372036854775807:=by simp[wd];omega
  rw[show(r.params.take (i+1)).map Ys=(r.params.take i).map Ys++[(f.nm++ew)++kD f.ty]by rw[<-fN hf];simp[Ys]]
  simp only[ay hf,io.cs,bN,m1,m2,sB,ait,aJ (k:=i) (by omega),av,Nat.reduceAdd]
  rw[if_pos (by simp;omega)]
  simp[am]
 simp only[Int.lt_irrefl,take_length,EB,EA,gj,n2,n3,l1,w1,av,Nat.reduceAdd]
 refine l7 (fun f=>[⟨dp+1,[PC,f.nm,kD f.ty]⟩]) r.locals _ (dp+1) rfl (by omega) (by simp only[length_append];omega) (fun i x C rec hx hC=> ?_) (fun rec=> ?_)
 ·have bN:(i:Int)<r.locals.length:=by have:=bp hx;omega
  rw[dX]at hC⊢
  have l2:=eU C (dp+1) [PC,x.nm,kD x.ty] hC (by simp)
  simp only[am,map_cons,map_nil]at l2
  simp only[ay hx,io.cs,bN,sB,ait,l2,aJ (k:=i) (by have:=bp hx;omega),av,Nat.reduceAdd]
 ·have l3:=asK r.body (dp+1) ((B++Dl ⟨dp,[Fe,r.nm,(cI++dE (r.params.map Ys) j9)++cj]⟩)++bF (bi (fun f=>[⟨dp+1,[PC,f.nm,kD f.ty]⟩]) r.locals)) (by omega) (by omega) h4 (by simp only[length_append];omega)
  have l4:=eU (((B++Dl ⟨dp,[Fe,r.nm,(cI++dE (r.params.map Ys) j9)++cj]⟩)++bF (bi (fun f=>[⟨dp+1,[PC,f.nm,kD f.ty]⟩]) r.locals))++bF (ax.vY (dp+1) r.body)) dp [ep] (by simp only[length_append];omega) (by simp)
  simp only[am,map_cons,map_nil]at l4
  simp only[Int.lt_irrefl,DK,l3,l4,w2,av,Nat.reduceAdd]
def siV (d:dL):List Ln:=bi (fun v=>[⟨2,My AZ v⟩]) d.vars
def siR (d:dL):List Ln:=bi (fun r=>[⟨2,PA r⟩]) d.res
def soW (x:xg):xm:=[MC,x.nm,bQ x.room,rJ x.KN]
def siS (d:dL):List Ln:=bi (fun x=>[⟨2,soW x⟩]) d.cU
def beW (x:CO):xm:=[Mz,x.nm,bQ x.length,bQ x.step]
def siB (d:dL):List Ln:=bi (fun x=>[⟨2,beW x⟩]) d.kX
def OV (w:Bs) (xs:xm):List Ln:=bi (fun v=>[⟨2,[w,v]⟩]) xs
def siT (d:dL):List Ln:=bi (roL 2) d.nh
def siA (d:dL):List Ln:=bi (fun s=>[⟨2,saW (rI d s.rt) s⟩]) d.starts
def siL (d:dL):List Ln:=bi (fun l=>[⟨2,laW l⟩]) d.laws
def Cd (d:dL):List Ln:=⟨1,[Ox,d.nm]⟩::(siV d++(siR d++(siS d++(siB d++(OV Ww d.fc++(OV PD d.cd++(OV RY d.de++(OV La d.levels++(OV Wu d.counts++(siT d++(siA d++(siL d++[⟨1,[ep]⟩]))))))))))))
theorem asj (d:dL) (hd:d.ok) (hl:d.lbN) (B:Bs) (hB:B.length+(bF (Cd d)).length<=Yl):j0.F ([cf B,.i 1]++d.cs)=some [cf (B++bF (Cd d)),.i 1]:=by
 have VR:∀s∈d.starts,∀C:Bs,C.length+(Dl ⟨2,saW (rI d s.rt) s⟩).length<=Yl->jb.F ([cf C,.i 2]++(d.cs++s.cs))=some [cf (C++Dl ⟨2,saW (rI d s.rt) s⟩),.i 2]:=fun s hs C hC=>asI d s hl (hd.a s hs) (fun r hr=>(hd.t r hr).2.1) C 2 hC
 have w1:IntKind.i64.wrap (1+1)=2:=by decide
 have w2:IntKind.i64.wrap (2-1)=1:=by decide
 have w1':IntKind.i64.wrap 2=2:=by decide
 have w2':IntKind.i64.wrap 1=1:=by decide
 unfold Cd at hB⊢
 simp only[lR,sG,sH,append_nil,length_append,<-append_assoc]at hB⊢
 obtain⟨a1,a2,a3,a4,a5,a6,a7,a8,a9,a10,a11,a12⟩:=hl
 have b1:=hd.vl
 have b2:=hd.rl
 have b3:=hd.sl
 have b4:=hd.bl
 have b5:=hd.l1
 have b6:=hd.l2
 have b7:=hd.l3
 have b8:=hd.l4
 have b9:=hd.l5
 have b10:=hd.tl
 have b11:=hd.al
 have b12:=hd.ll
 generalize hB0:B++Dl ⟨1,[Ox,d.nm]⟩=B0
 have aGO:B0.length=B.length+(Dl ⟨1,[Ox,d.nm]⟩).length:=by rw[<-hB0,length_append]
 have l1:=eU B 1 [Ox,d.nm] (by omega) (by simp)
 rw[hB0]at l1
 have l2:=ahd AZ d.vars B0 2 hd.v (by omega) (by show _+(bF (siV d)).length<=_;omega)
 have e2:bi (fun v=>[⟨2,My AZ v⟩]) d.vars=siV d:=rfl
 rw[e2]at l2
 simp only[am,map_cons,map_nil,Jv,nq]at l1 l2
 unfold dL.cs at VR⊢
 simp only[cons_append,nil_append]at VR⊢
 rw[Nr]
 simp only[qZ,I3,I4,l1,l2,w1',Int.reduceAdd,av,Nat.reduceAdd]
 refine l7 (fun r=>[⟨2,PA r⟩]) d.res (B0++bF (siV d)) 2 rfl (by omega) (by show _+(bF (siR d)).length<=_;simp only[length_append];omega) (fun i x C rec hx hC=> ?_) (fun rec=> ?_)
 ·have bN:(i:Int)<d.res.length:=by have:=bp hx;omega
  rw[dX]at hC⊢
  have q1:=aiJ d x (hd.r x (aM hx)) C 2 hC
  simp only[oP.aA,cons_append,nil_append,nq]at q1
  simp only[ay hx,oP.aA,bN,I5,nq,q1,aJ (k:=i) (by have:=bp hx;omega),av,Nat.reduceAdd]
 have e3:bi (fun r=>[⟨2,PA r⟩]) d.res=siR d:=rfl
 rw[e3]
 simp only[Int.lt_irrefl,av]
 refine l7 (fun x=>[⟨2,soW x⟩]) d.cU (B0++bF (siV d)++bF (siR d)) 2 rfl (by omega) (by show _+(bF (siS d)).length<=_;simp only[length_append];omega) (fun i x C rec hx hC=> ?_) (fun rec=> ?_)
 ·have bN:(i:Int)<d.cU.length:=by have:=bp hx;omega
  rw[dX]at hC⊢
  have ho:=hd.s x (aM hx)
  have g1:=df x.room (ho.2.1.i64 (by decide) (by decide))
  have q1:=eU C 2 (soW x) hC (by simp[soW])
  simp only[soW,am,map_cons,map_nil,nq]at q1⊢
  simp only[ay hx,xg.cs,bN,wO,I6,g1,apf,q1,aJ (k:=i) (by have:=bp hx;omega),av,Nat.reduceAdd]
 have e4:bi (fun x=>[⟨2,soW x⟩]) d.cU=siS d:=rfl
 rw[e4]
 simp only[Int.lt_irrefl,av]
 refine l7 (fun x=>[⟨2,beW x⟩]) d.kX (B0++bF (siV d)++bF (siR d)++bF (siS d)) 2 rfl (by omega) (by show _+(bF (siB d)).length<=_;simp only[length_append];omega) (fun i x C rec hx hC=> ?_) (fun rec=> ?_)
 ·have bN:(i:Int)<d.kX.length:=by have:=bp hx;omega
  rw[dX]at hC⊢
  have ho:=hd.b x (aM hx)
  have g1:=df x.length (ho.2.1.i64 (by decide) (by decide))
  have g2:=df x.step (ho.2.2.i64 (by decide) (by decide))
  have q1:=eU C 2 (beW x) hC (by simp[beW])
  simp only[beW,am,map_cons,map_nil,nq]at q1⊢
  simp only[ay hx,CO.cs,bN,wO,g1,g2,q1,aJ (k:=i) (by have:=bp hx;omega),av,Nat.reduceAdd]
 have e5:bi (fun x=>[⟨2,beW x⟩]) d.kX=siB d:=rfl
 rw[e5]
 have p1:=N3 Ww d.fc (B0++bF (siV d)++bF (siR d)++bF (siS d)++bF (siB d)) 2 (by omega) (by show _+(bF (OV Ww d.fc)).length<=_;simp only[length_append];omega)
 have f1:bi (fun v=>[⟨2,[Ww,v]⟩]) d.fc=OV Ww d.fc:=rfl
 rw[f1]at p1
 generalize hB1:(B0++bF (siV d)++bF (siR d)++bF (siS d)++bF (siB d))++bF (OV Ww d.fc)=B1 at*
 have aGP:B1.length=B0.length+(bF (siV d)).length+(bF (siR d)).length+(bF (siS d)).length+(bF (siB d)).length+(bF (OV Ww d.fc)).length:=by rw[<-hB1];simp only[length_append]
 have p2:=N3 PD d.cd B1 2 (by omega) (by show _+(bF (OV PD d.cd)).length<=_;omega)
 have f2:bi (fun v=>[⟨2,[PD,v]⟩]) d.cd=OV PD d.cd:=rfl
 rw[f2]at p2
 have p3:=N3 RY d.de (B1++bF (OV PD d.cd)) 2 (by omega) (by show _+(bF (OV RY d.de)).length<=_;simp only[length_append];omega)
 have f3:bi (fun v=>[⟨2,[RY,v]⟩]) d.de=OV RY d.de:=rfl
 rw[f3]at p3
 have p4:=N3 La d.levels (B1++bF (OV PD d.cd)++bF (OV RY d.de)) 2 (by omega) (by show _+(bF (OV La d.levels)).length<=_;simp only[length_append];omega)
 have f4:bi (fun v=>[⟨2,[La,v]⟩]) d.levels=OV La d.levels:=rfl
 rw[f4]at p4
 have p5:=N3 Wu d.counts (B1++bF (OV PD d.cd)++bF (OV RY d.de)++bF (OV La d.levels)) 2 (by omega) (by show _+(bF (OV Wu d.counts)).length<=_;simp only[length_append];omega)
 have f5:bi (fun v=>[⟨2,[Wu,v]⟩]) d.counts=OV Wu d.counts:=rfl
 rw[f5]at p5
 simp only[nq]at p1 p2 p3 p4 p5
 simp only[Int.lt_irrefl,nq,I7,p1,p2,p3,p4,p5,av,Nat.reduceAdd]
 generalize hB2:B1++bF (OV PD d.cd)++bF (OV RY d.de)++bF (OV La d.levels)++bF (OV Wu d.counts)=B2 at*
 have aGR:B2.length=B1.length+(bF (OV PD d.cd)).length+(bF (OV RY d.de)).length+(bF (OV La d.levels)).length+(bF (OV Wu d.counts)).length:=by rw[<-hB2];simp only[length_append]
 refine l7 (roL 2) d.nh B2 2 rfl (by omega) (by show _+(bF (siT d)).length<=_;omega) (fun i x C rec hx hC=> ?_) (fun rec=> ?_)
 ·have bN:(i:Int)<d.nh.length:=by have:=bp hx;omega
  have q1:=axa x (hd.t x (aM hx)).2 C 2 (by omega) hC
  simp only[jv.cs,cons_append,nil_append,nq]at q1
  simp only[ay hx,jv.cs,bN,I8,nq,q1,aJ (k:=i) (by have:=bp hx;omega),av,Nat.reduceAdd]
 have e6:bi (roL 2) d.nh=siT d:=rfl
 rw[e6]
 simp only[Int.lt_irrefl,av]
 refine l7 (fun s=>[⟨2,saW (rI d s.rt) s⟩]) d.starts (B2++bF (siT d)) 2 rfl (by omega) (by show _+(bF (siA d)).length<=_;simp only[length_append];omega) (fun i x C rec hx hC=> ?_) (fun rec=> ?_)
 ·have bN:(i:Int)<d.starts.length:=by have:=bp hx;omega
  rw[dX]at hC⊢
  have q1:=VR x (aM hx) C hC
  simp only[xB.cs]at q1
  simp only[ay hx,xB.cs,bN,I9,nq,q1,aJ (k:=i) (by have:=bp hx;omega),av,Nat.reduceAdd]
 have e7:bi (fun s=>[⟨2,saW (rI d s.rt) s⟩]) d.starts=siA d:=rfl
 rw[e7]
 simp only[Int.lt_irrefl,av]
 refine l7 (fun l=>[⟨2,laW l⟩]) d.laws (B2++bF (siT d)++bF (siA d)) 2 rfl (by omega) (by show _+(bF (siL d)).length<=_;simp only[length_append];omega) (fun i x C rec hx hC=> ?_) (fun rec=> ?_)
 ·have bN:(i:Int)<d.laws.length:=by have:=bp hx;omega
  rw[dX]at hC⊢
  have q1:=aAq d x (hd.l x (aM hx)) C 2 hC
  simp only[zC.cs,cons_append,nil_append,nq]at q1
  simp only[ay hx,zC.cs,bN,Ja,nq,q1,aJ (k:=i) (by have:=bp hx;omega),av,Nat.reduceAdd]
 have e8:bi (fun l=>[⟨2,laW l⟩]) d.laws=siL d:=rfl
 rw[e8]
 have l3:=eU (B2++bF (siT d)++bF (siA d)++bF (siL d)) 1 [ep] (by simp only[length_append];omega) (by simp)
 simp only[am,map_cons,map_nil,Jv]at l3
 simp only[Int.lt_irrefl,nq,w2',Int.reduceSub,l3,av,Nat.reduceAdd]
def moL (m:kL):List Ln:=⟨0,[Yj,m.nm]⟩::(bi (fun v=>[⟨1,My Lc v⟩]) m.params++(bi (fun l:HR=>[⟨1,[MB,l.from_,l.aJL,bQ l.ue]⟩]) m.iH++(bi Cd m.sites++[⟨0,[ep]⟩])))
def kL.tx (m:kL):Bs:=bF (moL m)
theorem aws (l:Ln):Dl l≠[]:=by
 unfold Dl
 intro h
 simp[wd]at h
theorem asi (m:kL) (hm:m.ok) (hl:m.lb) (hc:fQ.F m.cs=some [.i 0]) (hB:m.tx.length<=Yl):qu.F m.cs=if 20000<m.tx.length then some [.s (bs []),.i 6]else some [.s (bs m.tx),.i 0]:=by
 have hw:wd []=([]:Bs):=rfl
 have w1':IntKind.i64.wrap 1=1:=by decide
 have w0':IntKind.i64.wrap 0=0:=by decide
 have zc:((0:Nat):Int)=0:=rfl
 have rP:m.tx≠[]:=by
  unfold kL.tx moL
  rw[lR]
  intro h
  exact aws _ (append_eq_nil_iff.1 h).1
 unfold kL.tx at hB rP⊢
 unfold moL at hB rP⊢
 simp only[lR,sG,sH,append_nil,length_append,<-append_assoc]at hB rP⊢
 have b1:=hm.pl
 have b2:=hm.sl
 have b3:=hm.ll
 have l1:=eU [] 0 [Yj,m.nm] (by simp only[length_nil];omega) (by simp)
 have l2:=ahd Lc m.params (Dl ⟨0,[Yj,m.nm]⟩) 1 hm.p (by omega) (by omega)
 simp only[am,map_cons,map_nil,Jv,zc,ahH,nil_append]at l1 l2
 have Z8:∀d∈m.sites,∀C:Bs,C.length+(bF (Cd d)).length<=Yl->j0.F ([cf C,.i 1]++d.cs)=some [cf (C++bF (Cd d)),.i 1]:=fun d hd C hC=>asj d (hm.s d hd).2 (hl.2.2.2 d hd).1 C hC
 rw[Qm]
 unfold kL.cs at hc⊢
 simp only[za,I0,VD,VE,hc,l1,l2,w1',Int.reduceAdd,av,Nat.reduceAdd]
 refine l7 (fun l:HR=>[⟨1,[MB,l.from_,l.aJL,bQ l.ue]⟩]) m.iH _ 1 rfl (by omega) (by simp only[length_append];omega) (fun i x C rec hx hC=> ?_) (fun rec=> ?_)
 ·have bN:(i:Int)<m.iH.length:=by have:=bp hx;omega
  rw[dX]at hC⊢
  have g1:=df x.ue ((hm.l x (aM hx)).2.2.i64 (by decide) (by decide))
  have q1:=eU C 1 [MB,x.from_,x.aJL,bQ x.ue] hC (by simp)
  simp only[am,map_cons,map_nil,Jv]at q1
  simp only[ay hx,HR.cs,bN,VF,Jv,g1,q1,aJ (k:=i) (by have:=bp hx;omega),av,Nat.reduceAdd]
 simp only[Int.lt_irrefl,av]
 refine l7 Cd m.sites _ 1 rfl (by omega) (by simp only[length_append];omega) (fun i x C rec hx hC=> ?_) (fun rec=> ?_)
 ·have bN:(i:Int)<m.sites.length:=by have:=bp hx;omega
  have q1:=Z8 x (aM hx) C hC
  simp only[dL.cs,cons_append,nil_append]at q1
  simp only[ay hx,dL.cs,bN,VG,Jv,q1,aJ (k:=i) (by have:=bp hx;omega),av,Nat.reduceAdd]
 generalize hT:Dl ⟨0,[Yj,m.nm]⟩++bF (bi (fun v=>[⟨1,My Lc v⟩]) m.params)++bF (bi (fun l:HR=>[⟨1,[MB,l.from_,l.aJL,bQ l.ue]⟩]) m.iH)++bF (bi Cd m.sites)=X at*
 have hXl:X.length=(Dl ⟨0,[Yj,m.nm]⟩).length+(bF (bi (fun v=>[⟨1,My Lc v⟩]) m.params)).length+(bF (bi (fun l:HR=>[⟨1,[MB,l.from_,l.aJL,bQ l.ue]⟩]) m.iH)).length+(bF (bi Cd m.sites)).length:=by rw[<-hT];simp only[length_append]
 have l3:=eU X 0 [ep] (by omega) (by simp)
 simp only[am,map_cons,map_nil,zc]at l3
 simp only[Int.lt_irrefl,Jv,w0',Int.reduceSub,l3,Ry,aqp,aqo _ rP,hw,av,Nat.reduceAdd]
 have at2:((20000:Int)<(((X++Dl ⟨0,[ep]⟩).length:Nat):Int))↔20000<(X++Dl ⟨0,[ep]⟩).length:=by omega
 have arz:(X++Dl ⟨0,[ep]⟩).length=(Dl ⟨0,[Yj,m.nm]⟩).length+(bF (bi (fun v=>[⟨1,My Lc v⟩]) m.params)).length+(bF (bi (fun l:HR=>[⟨1,[MB,l.from_,l.aJL,bQ l.ue]⟩]) m.iH)).length+(bF (bi Cd m.sites)).length+(Dl ⟨0,[ep]⟩).length:=by rw[length_append];omega
 by_cases c:20000<(X++Dl ⟨0,[ep]⟩).length
 ·rw[if_pos (by omega),if_pos (by omega)]
 ·rw[if_neg (by omega),if_neg (by omega)]
def ff.at (line:Nat) (t:ff):RZ:=⟨t.kind,t.text,t.n,line⟩
def Hr (i nx line:Nat) (out:pO) (full:Bool):aP:=[.b false,.b false,.i (nx:Int),.i (i:Int),.i (line:Int),ae RZ.cs out,.b full]
structure aqU (s:Bs) (g:fF->fF):Prop where
 skip:∀i nx line out full rec,i<nx->i<s.length->g rec (Hr i nx line out full)=rec (Hr (i+1) nx line out full)
 nl:∀i nx line out full rec,nx<=i->i<s.length->s.getD i 0=10->out.length<=100000->line<=100000->g rec (Hr i nx line out full)=rec (Hr (i+1) nx (line+1) (if full then out++[dS.at line]else out) false)
 blank:∀i nx line out full rec,nx<=i->i<s.length->s.getD i 0=32->g rec (Hr i nx line out full)=rec (Hr (i+1) nx line out full)
 tok:∀i nx line out full rec w t p,nx<=i->s.drop i=w++p->i<s.length->Atom w t->Um t p->out.length<=100000->g rec (Hr i nx line out full)=rec (Hr (i+1) (i+w.length) line (out++[t.at line]) true)
 fin:∀nx line out full rec,out.length<=100000->g rec (Hr s.length nx line out full)=some [ae RZ.cs ((if full then out++[dS.at line]else out)++[enT.at line]),.i 0,.i 0]
theorem aiV (out:pO) (t:RZ):Sc.l ((out.map fun x=>Sc.l x.cs)++[Sc.l t.cs])=ae RZ.cs (out++[t]):=by simp[ae]
theorem aqk (s:Bs) (hl:s.length<=20000) (ha:∀c∈s,c.toNat<128):∃g,aqU s g/\tL.F [.s (bs s)]=dz g aF (Hr 0 0 1 [] false):=by
 have FE:wd []=([]:Bs):=rfl
 rw[adN]
 have c1:¬((20000:Int)<(s.length:Int)):=by omega
 have c2:(s.length:Int)<=9223372036854775806:=by omega
 have hA:∀i,i<s.length->((s.getD i 0).toNat:Int)<128:=fun i hi=>by have:=ha _ (Ez hi);omega
 have nc:∀i:Nat,(0:Int)<=(i:Int):=fun i=>natCast_nonneg i
 simp only[HC,c1,av,Nat.reduceAdd]
 refine⟨_,⟨?_,?_,?_,?_,?_⟩,rfl⟩
 ·intro i nx line out full rec h1 h2
  have hi:(i:Int)<(s.length:Int):=by omega
  have hx:(i:Int)<(nx:Int):=by omega
  have hs:=aJ (k:=i) (by omega)
  unfold Hr
  simp only[c2,hi,hx,nc,hA i h2,hs,av]
 ·intro i nx line out full rec h1 h2 h3 h4 h5
  have hi:(i:Int)<(s.length:Int):=by omega
  have hx:¬((i:Int)<(nx:Int)):=by omega
  have hs:=aJ (k:=i) (by omega)
  have hs2:=aJ (k:=line) (by omega)
  have h3':((s.getD i 0).toNat:Int)=10:=by rw[h3];rfl
  have hlen:((((out.map fun x=>Sc.l x.cs)++[Sc.l (dS.at line).cs]).length:Nat):Int)<=3518437208883:=by simp;omega
  have e4:[Sc.i 4,Sc.s (bs []),Sc.i 0,Sc.i (line:Int)]=(dS.at line).cs:=rfl
  unfold Hr
  cases full
  ·simp only[c2,hi,hx,nc,hs,hs2,h3',FE,av,reduceEq,Int.reduceLT]
  ·simp only[c2,hi,hx,nc,hs,hs2,h3',FE,e4,hlen,aiV,av,reduceEq,Int.reduceLT]
 ·intro i nx line out full rec h1 h2 h3
  have hi:(i:Int)<(s.length:Int):=by omega
  have hx:¬((i:Int)<(nx:Int)):=by omega
  have hs:=aJ (k:=i) (by omega)
  have h3':((s.getD i 0).toNat:Int)=32:=by rw[h3];rfl
  unfold Hr
  simp only[c2,hi,hx,nc,hs,h3',av,reduceEq,Int.reduceLT]
 ·intro i nx line out full rec w t p h1 h2 h2' h3 h4 h5
  have hi:(i:Int)<(s.length:Int):=by omega
  have hx:¬((i:Int)<(nx:Int)):=by omega
  have hs:=aJ (k:=i) (by omega)
  obtain⟨rP,hf⟩:=vS h3
  obtain⟨f1,f2,f3,f4⟩:=hf p
  have hg:(w++p).getD 0 0=s.getD i 0:=by rw[<-h2];simp[getD_eq_getElem?_getD,getElem?_drop]
  rw[hg]at f1 f2 f3 f4
  have n1:¬(((s.getD i 0).toNat:Int)=10):=fun h=>f1 (UInt8.toNat_inj.1 (by have:(s.getD i 0).toNat=10:=by omega
                                                                           rw[this];rfl))
  have n2:¬(((s.getD i 0).toNat:Int)=32):=fun h=>f2 (UInt8.toNat_inj.1 (by have:(s.getD i 0).toNat=32:=by omega
                                                                           rw[this];rfl))
  have n3:¬(((s.getD i 0).toNat:Int)=9):=fun h=>f3 (UInt8.toNat_inj.1 (by have:(s.getD i 0).toNat=9:=by omega
                                                                          rw[this];rfl))
  have n4:¬(((s.getD i 0).toNat:Int)=35):=fun h=>f4 (UInt8.toNat_inj.1 (by have:(s.getD i 0).toNat=35:=by omega
                                                                           rw[this];rfl))
  have hwl:w.length+p.length=s.length-i:=by
   have:=congrArg List.length h2
   simp at this;omega
  have hwp:=length_pos_iff.2 rP
  have es:U3.ev .Uo (.s (bs s)) (.i (i:Int)) (.i (s.length:Int))= .s (bs (w++p)):=by
   rw[ai7 s (i:Int) (s.length:Int) (by simp),<-h2]
   simp
  have gt:=atw w p t h3 h4 (by rw[length_append];omega)
  have w0:¬((w.length:Int)=0):=by omega
  have hle:(i:Int)<=(s.length:Int):=by omega
  have hw2:IntKind.i64.wrap ((i:Int)+(w.length:Int))=((i+w.length:Nat):Int):=by rw[cE (by omega) (by omega)];omega
  have hlen:((((out.map fun x=>Sc.l x.cs)++[Sc.l (t.at line).cs]).length:Nat):Int)<=3518437208883:=by simp;omega
  have e4:[Sc.i t.kind,Sc.s (bs t.text),Sc.i t.n,Sc.i (line:Int)]=(t.at line).cs:=rfl
  unfold Hr
  simp only[c2,hi,hx,nc,hA i h2',hs,n1,n2,n3,n4,hle,Int.le_refl,es,Vm,gt,w0,hw2,e4,hlen,aiV,av,Nat.reduceAdd]
 ·intro nx line out full rec h5
  have e4:[Sc.i 4,Sc.s (bs []),Sc.i 0,Sc.i (line:Int)]=(dS.at line).cs:=rfl
  have e0:[Sc.i 0,Sc.s (bs []),Sc.i 0,Sc.i (line:Int)]=(enT.at line).cs:=rfl
  have hlen:((((out.map fun x=>Sc.l x.cs)++[Sc.l (dS.at line).cs]).length:Nat):Int)<=3518437208883:=by simp;omega
  have azT:((((out.map fun x=>Sc.l x.cs)++[Sc.l (enT.at line).cs]).length:Nat):Int)<=3518437208883:=by simp;omega
  have azU:(((((out.map fun x=>Sc.l x.cs)++[Sc.l (dS.at line).cs])++[Sc.l (enT.at line).cs]).length:Nat):Int)<=3518437208883:=by simp;omega
  unfold Hr
  cases full
  ·simp only[c2,Int.lt_irrefl,nc,FE,e0,azT,aiV,av]
  ·simp only[c2,Int.lt_irrefl,nc,FE,e4,e0,hlen,azU,av]
   simp[ae]
inductive Lx:Bs->ba->Option ff->Prop where
 |nil:Lx [] [] none
 |tok (w:Bs) (t:ff) (h:Atom w t):Lx w [t] (some t)
 |sp:Lx ew [] none
 |cat (a b:Bs) (ta tb:ba) (la lb:Option ff) (h1:Lx a ta la) (h2:Lx b tb lb) (h3:b≠[]) (h4:∀t,la=some t->Um t b):Lx (a++b) (ta++tb) lb
theorem Lx.len {a:Bs}{ts:ba}{l:Option ff} (h:Lx a ts l):ts.length<=a.length:=by
 induction h with
 |nil=>simp
 |tok w t h=>
  have:=length_pos_iff.2 (vS h).1
  simp only[length_cons,length_nil];omega
 |sp=>simp
 |cat a b ta tb la lb h1 h2 h3 h4 i1 i2=>simp only[length_append];omega
theorem Lx.amG {a:Bs}{ts:ba}{l:Option ff} (h:Lx a ts l):∀c∈a,c.toNat<128:=by
 induction h with
 |nil=>intro c hc;cases hc
 |tok w t h=>exact ahC h
 |sp=>decide
 |cat a b ta tb la lb h1 h2 h3 h4 i1 i2=>intro c hc;exact(mem_append.1 hc).elim (i1 c) (i2 c)
theorem alT {t:ff}{b p:Bs} (h:Um t b) (hb:b≠[]):Um t (b++p):=by
 rcases h with h|h
 ·exact absurd h hb
 ·refine .inr ?_
  rw[iS (length_pos_iff.2 hb)]
  exact h
theorem agS {s:Bs}{g:fF->fF} (hg:aqU s g) (nx line:Nat) (out:pO) (full:Bool):∀(d i k:Nat),i+d<=nx->i+d<=s.length->dz g (k+d) (Hr i nx line out full)=dz g k (Hr (i+d) nx line out full)
 |0,i,k,_,_=>rfl
 |d+1,i,k,h1,h2=>by
  rw[show k+(d+1)=(k+d)+1 by omega,bO,hg.skip i nx line out full _ (by omega) (by omega),agS hg nx line out full d (i+1) k (by omega) (by omega),show i+1+d=i+(d+1)by omega]
theorem arZ {s:Bs}{g:fF->fF} (hg:aqU s g) (hsl:s.length<=20000){a:Bs}{ts:ba}{l:Option ff} (h:Lx a ts l):∀(pre p:Bs),s=(pre++a)++p->(∀t,l=some t->Um t p)->∀(nx line:Nat) (out:pO) (full:Bool),nx<=pre.length->out.length<=pre.length->∃nx',nx'<=pre.length+a.length/\∀k,dz g (k+a.length) (Hr pre.length nx line out full)=dz g k (Hr (pre.length+a.length) nx' line (out++ts.map (ff.at line)) (full|| !ts.isEmpty)):=by
 induction h with
 |nil=>
  intro pre p hs hp nx line out full h1 h2
  exact⟨nx,by simpa using h1,fun k=>by simp⟩
 |tok w t ha=>
  intro pre p hs hp nx line out full h1 h2
  have hl:=congrArg List.length hs
  simp only[length_append]at hl
  have hwp:=length_pos_iff.2 (vS ha).1
  have hd:s.drop pre.length=w++p:=by rw[hs,append_assoc,drop_left]
  refine⟨pre.length+w.length,Nat.le_refl _,fun k=> ?_⟩
  obtain⟨m,hm⟩:∃m,w.length=m+1:=⟨w.length-1,by omega⟩
  rw[hm,show k+(m+1)=(k+m)+1 by omega,bO,hg.tok pre.length nx line out full _ w t p h1 hd (by omega) ha (hp t rfl) (by omega),agS hg _ line _ _ m (pre.length+1) k (by omega) (by omega)]
  simp[hm,Nat.add_assoc,Nat.add_comm 1 m]
 |sp=>
  intro pre p hs hp nx line out full h1 h2
  have hl:=congrArg List.length hs
  have hb:s.getD pre.length 0=32:=by
   rw[hs,append_assoc,F9 (Nat.le_refl _)]
   simp[wd]
  simp[wd]at hl
  refine⟨nx,by omega,fun k=> ?_⟩
  show dz g (k+1) _=_
  rw[bO,hg.blank pre.length nx line out full _ h1 (by omega) hb]
  simp[wd]
 |cat a b ta tb la lb h1 h2 h3 h4 i1 i2=>
  intro pre p hs hp nx line out full q1 q2
  obtain⟨n1,m1,r1⟩:=i1 pre (b++p) (by rw[hs];simp only[append_assoc]) (fun t ht=>alT (h4 t ht) h3) nx line out full q1 q2
  have fU:=h1.len
  obtain⟨n2,m2,r2⟩:=i2 (pre++a) p (by rw[hs];simp only[append_assoc]) hp n1 line (out++ta.map (ff.at line)) (full|| !ta.isEmpty) (by rw[length_append];exact m1) (by simp only[length_append,length_map];omega)
  refine⟨n2,by simp only[length_append]at m2⊢;omega,fun k=> ?_⟩
  rw[length_append,show k+(a.length+b.length)=(k+b.length)+a.length by omega,r1,<-length_append,r2]
  simp only[length_append,map_append,append_assoc,Nat.add_assoc]
  congr 2
  cases full<;>cases ta<;>cases tb<;>simp
def Lw (w:Bs) (ts:ba):Prop:=w≠[]/\ts≠[]/\∃l,Lx w ts l
theorem axg (t:ff) (p:Bs):Um t (ew++p):=by
 refine .inr ⟨fun _=> ?_,fun _=> ?_⟩
 ·show(UInt8.ofNat 32)≠61;decide
 ·show Jf (UInt8.ofNat 32)=false;decide
theorem axf (t:ff) (p:Bs):Um t (wd [10]++p):=by
 refine .inr ⟨fun _=> ?_,fun _=> ?_⟩
 ·show(UInt8.ofNat 10)≠61;decide
 ·show Jf (UInt8.ofNat 10)=false;decide
inductive Bn:xm->ba->Prop where
 |one (w:Bs) (ts:ba) (h:Lw w ts):Bn [w] ts
 |cons (w:Bs) (ts:ba) (ws:xm) (us:ba) (h:Lw w ts) (h2:Bn ws us):Bn (w::ws) (ts++us)
theorem Bn.join {ws:xm}{ts:ba} (h:Bn ws ts):Lw (dE ws ew) ts:=by
 induction h with
 |one w ts h=>simpa[dE,Lib.join]using h
 |cons w ts ws us h h2 ih=>
  obtain⟨v,r,rfl⟩:∃v r,ws=v::r:=by cases h2<;>exact⟨_,_,rfl⟩
  have e:dE (w::v::r) ew=w++(ew++dE (v::r) ew):=by simp[dE,Lib.join,intercalate,intersperse]
  obtain⟨a1,a2,la,a3⟩:=h
  obtain⟨b1,b2,lb,b3⟩:=ih
  rw[e]
  refine⟨by simp[a1],by simp[a2],lb,?_⟩
  refine .cat w _ ts us la lb a3 (.cat ew _ [] us none lb .sp b3 b1 (fun t ht=>by cases ht)) (by simp[wd]) (fun t _=>axg t _)
theorem apw:∀dp:Nat,Lx (Lib.repeatL ew dp) [] none
 |0=> .nil
 |1=>by
  have:Lib.repeatL ew 1=ew:=by simp[Lib.repeatL]
  rw[this];exact .sp
 |dp+1+1=> .cat ew _ [] [] none none .sp (apw (dp+1)) (by simp[Lib.repeatL,wd]) (fun t ht=>by cases ht)
theorem aj5 {dp:Nat}{ws:xm}{ts:ba} (h:Bn ws ts):ts≠[]/\∃l,Lx (Lib.repeatL ew dp++dE ws ew) ts l:=by
 obtain⟨a1,a2,la,a3⟩:=h.join
 exact⟨a2,la,.cat _ _ [] ts none la (apw dp) a3 a1 (fun t ht=>by cases ht)⟩
inductive Lls:List Ln->List ba->Prop where
 |nil:Lls [] []
 |cons (l:Ln) (ts:ba) (ls:List Ln) (UG:List ba) (h:Bn l.ws ts) (h2:Lls ls UG):Lls (l::ls) (ts::UG)
theorem Lls.app {a b:List Ln}{ta tb:List ba} (h1:Lls a ta) (h2:Lls b tb):Lls (a++b) (ta++tb):=by
 induction h1 with
 |nil=>exact h2
 |cons l ts ls UG h _ ih=>exact .cons l ts _ _ h ih
theorem Lls.one {l:Ln}{ts:ba} (h:Bn l.ws ts):Lls [l] [ts]:= .cons l ts [] [] h .nil
def Y4 (UG:List ba):ba:=(UG.map fun ts=>ts++[dS]).flatten
theorem amC (a b:List ba):Y4 (a++b)=Y4 a++Y4 b:=by simp[Y4]
theorem UQ (a:ba) (b:List ba):Y4 (a::b)=a++(dS::Y4 b):=by simp[Y4]
def RZ.tok (t:RZ):ff:=⟨t.kind,t.text,t.n⟩
theorem aln {s:Bs}{g:fF->fF} (hg:aqU s g) (hsl:s.length<=20000){ls:List Ln}{UG:List ba} (h:Lls ls UG):∀(pre p:Bs),s=(pre++bF ls)++p->∀(nx line:Nat) (out:pO),nx<=pre.length->out.length<=pre.length->line<=pre.length+1->∃nx' aut awJ,nx'<=pre.length+(bF ls).length/\aut<=pre.length+(bF ls).length+1/\awJ.length<=pre.length+(bF ls).length/\awJ.map RZ.tok=out.map RZ.tok++Y4 UG/\∀k,dz g (k+(bF ls).length) (Hr pre.length nx line out false)=dz g k (Hr (pre.length+(bF ls).length) nx' aut awJ false):=by
 induction h with
 |nil=>
  intro pre p hs nx line out h1 h2 h3
  exact⟨nx,line,out,by simpa[sH]using h1,by simpa[sH]using h3,by simpa[sH]using h2,by simp[Y4],fun k=>by simp[sH]⟩
 |cons l ts ls UG hl _ ih=>
  intro pre p hs nx line out h1 h2 h3
  obtain⟨rP,la,hx⟩:=aj5 (dp:=l.deep) hl
  rw[lR]at hs
  have eB:Dl l=(Lib.repeatL ew l.deep++dE l.ws ew)++wd [10]:=rfl
  generalize hB:Lib.repeatL ew l.deep++dE l.ws ew=b at*
  obtain⟨n1,m1,r1⟩:=arZ hg hsl hx pre (wd [10]++(bF ls++p)) (by rw[hs,eB];simp only[append_assoc]) (fun t _=>axf t _) nx line out false h1 h2
  have hlen:=congrArg List.length hs
  have e1:(Dl l).length=b.length+1:=by rw[eB];simp[wd]
  simp only[length_append]at hlen
  have hnl:s.getD (pre.length+b.length) 0=10:=by
   rw[hs,eB]
   have:pre++(b++wd [10]++bF ls)++p=(pre++b)++(wd [10]++(bF ls++p)):=by simp only[append_assoc]
   rw[this,F9 (by simp)]
   simp[wd]
  have htl:=hx.len
  obtain⟨n2,l2,o2,q1,q2,q3,q4,q5⟩:=ih (pre++Dl l) p (by rw[hs];simp only[append_assoc]) n1 (line+1) ((out++ts.map (ff.at line))++[dS.at line]) (by simp only[length_append];omega) (by simp only[length_append,length_map,length_cons,length_nil];omega) (by simp only[length_append];omega)
  refine⟨n2,l2,o2,?_,?_,?_,?_,fun k=> ?_⟩
  ·simp only[lR,length_append]at q1⊢;omega
  ·simp only[lR,length_append]at q2⊢;omega
  ·simp only[lR,length_append]at q3⊢;omega
  ·rw[q4]
   simp only[map_append,map_map,map_cons,map_nil,UQ,append_assoc]
   congr 2
   have:(RZ.tok∘ff.at line)=id:=by funext t;rfl
   rw[this,map_id]
   try rfl
  ·rw[lR,length_append,e1,show k+(b.length+1+(bF ls).length)=((k+(bF ls).length)+1)+b.length by omega,r1,bO]
   have azF:(false|| !ts.isEmpty)=true:=by cases ts with|nil=>exact absurd rfl rP|cons _ _=>rfl
   rw[azF,hg.nl (pre.length+b.length) n1 line _ true _ (by omega) (by omega) hnl (by simp only[length_append,length_map];omega) (by omega)]
   simp only[if_true]
   have:=q5 k
   simp only[length_append,e1]at this
   rw[show pre.length+b.length+1=pre.length+(b.length+1)by omega,this]
   congr 2
   omega
theorem aqj {ls:List Ln}{UG:List ba} (h:Lls ls UG) (hl:(bF ls).length<=20000) (ha:∀c∈bF ls,c.toNat<128):∃L:pO,L.map RZ.tok=Y4 UG++[enT]/\L.length<=40000/\tL.F [.s (bs (bF ls))]=some [ae RZ.cs L,.i 0,.i 0]:=by
 obtain⟨g,hg,e⟩:=aqk (bF ls) hl ha
 obtain⟨nx,line,out,q1,q2,q3,q4,q5⟩:=aln hg hl h [] [] (by simp) 0 1 [] (by simp) (by simp) (by simp)
 simp only[length_nil,Nat.zero_add]at q1 q2 q3 q5
 obtain⟨k,hk⟩:∃k,aF=(k+1)+(bF ls).length:=⟨aF-(bF ls).length-1,by unfold aF;omega⟩
 refine⟨out++[enT.at line],?_,?_,?_⟩
 ·rw[map_append,q4];rfl
 ·simp only[length_append,length_cons,length_nil];omega
 ·rw[e,hk,q5,bO,hg.fin nx line out false _ (by omega)]
  simp
def Lq (w:Bs) (ts:ba):Prop:=w≠[]/\ts≠[]/\w.getD 0 0≠61/\∃l,Lx w ts l
theorem Lq.lw {w:Bs}{ts:ba} (h:Lq w ts):Lw w ts:=⟨h.1,h.2.1,h.2.2.2⟩
def CG (b:Bs):Prop:=b≠[]/\b.getD 0 0≠61/\Jf (b.getD 0 0)=false
theorem CG.ok {b:Bs} (h:CG b) (t:ff):Um t b:= .inr ⟨fun _=>h.2.1,fun _=>h.2.2⟩
theorem CG.app {b:Bs} (h:CG b) (p:Bs):CG (b++p):=by
 have:=length_pos_iff.2 h.1
 refine⟨by simp[h.1],?_,?_⟩
 ·rw[iS this];exact h.2.1
 ·rw[iS this];exact h.2.2
theorem Lq.any {a b:Bs}{ta tb:ba} (h1:Lq a ta) (h2:∃l,Lx b tb l) (hb:CG b):Lq (a++b) (ta++tb):=by
 obtain⟨a1,a2,a3,la,a4⟩:=h1
 obtain⟨lb,b4⟩:=h2
 refine⟨by simp[a1],by simp[a2],?_,lb,.cat a b ta tb la lb a4 b4 hb.1 fun t _=>hb.ok t⟩
 rw[iS (length_pos_iff.2 a1)];exact a3
theorem Lq.sgn {s b:Bs}{tb:ba} (hs:s∈Jz) (h61:s.getD 0 0≠61) (h2:Lq b tb):Lq (s++b) (sT s::tb):=by
 obtain⟨b1,b2,b3,lb,b4⟩:=h2
 have ha:Atom s (sT s):= .sgn s (.inl hs)
 have rP:=(vS ha).1
 refine⟨by simp[rP],by simp,?_,lb,.cat s b [sT s] tb _ lb (.tok s _ ha) b4 b1 fun t ht=> ?_⟩
 ·rw[iS (length_pos_iff.2 rP)];exact h61
 ·cases ht
  exact .inr ⟨fun _=>b3,fun h=>absurd rfl h⟩
theorem Lq.axj {s b:Bs}{tb:ba} (hs:s∈Jz) (h61:s.getD 0 0≠61) (h2:∃l,Lx b tb l) (hb:CG b):Lq (s++b) (sT s::tb):=by
 have ha:Atom s (sT s):= .sgn s (.inl hs)
 have rP:=(vS ha).1
 exact Lq.any (ta:=[sT s]) ⟨rP,by simp,h61,_,.tok s _ ha⟩ h2 hb
theorem aiW:CG ew:=⟨by simp[wd],by show UInt8.ofNat 32≠61;decide,by show Jf (UInt8.ofNat 32)=false;decide⟩
theorem Lq.sp {a b:Bs}{ta tb:ba} (h1:Lq a ta) (h2:∃l,Lx b tb l) (hb:b≠[]):Lq ((a++ew)++b) (ta++tb):=by
 have h3:=h1.any ⟨none,.sp⟩ aiW
 obtain⟨a1,a2,a3,la,a4⟩:=h1
 obtain⟨lb,b4⟩:=h2
 refine⟨by simp[a1],by simp[a2],?_,lb,?_⟩
 ·rw[append_assoc,iS (length_pos_iff.2 a1)];exact a3
 ·have e:Lx (a++ew) (ta++[]) none:= .cat a _ ta [] la none a4 .sp (by simp[wd]) fun t _=>aiW.ok t
  rw[append_nil]at e
  exact .cat _ b ta tb none lb e b4 hb fun t ht=>by cases ht
theorem F3 {w:Bs} (h0:w≠[]) (h1:Xe (w.getD 0 0)=true) (h2:∀c∈w,Jf c=true):Lq w [wT w]:=by
 refine⟨h0,by simp,fun h=> ?_,_,.tok w _ (.word w h0 h1 h2)⟩
 rw[h]at h1;revert h1;decide
theorem Name.lq {w:Bs} (h:Name w):Lq w [wT w]:=F3 h.1 h.2.2.1 h.2.2.2.1
theorem akY {u:Nat}:(Lib.decDigits u).getD 0 0≠61:=by
 obtain⟨d1,d2⟩:=SZ u
 have:=d1 _ (Ez (length_pos_iff.2 d2))
 intro h
 rw[h]at this;revert this;decide
def ng (n:Int):ba:=if n<0 then[sT rS,nT (-n)]else[nT n]
theorem OQ {n:Int} (h0:0<=n) (h:n<=1000000000000):Lq (bQ n) [nT n]:=by
 have ha:Atom (bQ n) (nT n):= .num n h0 h
 refine⟨(vS ha).1,by simp,?_,_,.tok _ _ ha⟩
 rw[Jn h0];exact akY
theorem aeJ {n:Int} (h:ld n):Lq (bQ n) (ng n):=by
 unfold ld at h
 unfold ng
 split
 ·rename_i hn
  rw[ao2 hn]
  exact Lq.sgn (by simp[Jz]) (by show UInt8.ofNat 45≠61;decide) (OQ (by omega) (by omega))
 ·exact OQ (by omega) (by omega)
theorem ag9 (n:Int):Lq (pI n) (RU n):=by
 unfold RU pI
 split
 ·exact F3 (by decide) (by decide) (by decide)
 ·exact F3 (by decide) (by decide) (by decide)
theorem akd:CG cj:=⟨by simp[wd],by show UInt8.ofNat 41≠61;decide,by show Jf (UInt8.ofNat 41)=false;decide⟩
theorem apc:∃l,Lx cj [sT cj] l:=⟨_,.tok _ _ (.sgn _ (.inl (by simp[Jz])))⟩
theorem T9 {t:Bs}{ts:ba} (h:Lq t ts):Lq ((cI++t)++cj) (sT cI::(ts++[sT cj])):=by
 have h1:=Lq.sgn (s:=cI) (by simp[Jz]) (by show UInt8.ofNat 40≠61;decide) h
 have h2:=h1.any apc akd
 simpa using h2
theorem aeK {op l:Int}{t:Bs}{ts:ba} (h:Lq t ts):Lq (rQ op l t) (lD op l ts):=by
 unfold rQ lD
 split
 ·exact T9 h
 ·exact h
theorem akT (p:Bs):CG (j9++p):=⟨by simp[wd],by show UInt8.ofNat 44≠61;decide,by show Jf (UInt8.ofNat 44)=false;decide⟩
theorem am2:Lx j9 [sT rf] none:=by
 have:j9=rf++ew:=by simp[wd]
 rw[this]
 have h:=Lx.cat rf ew [sT rf] [] _ none (.tok _ _ (.sgn _ (.inl (by simp[Jz])))) .sp (by simp[wd]) fun t ht=>aiW.ok t
 simpa using h
inductive Lqs:xm->List ba->Prop where
 |nil:Lqs [] []
 |cons {w:Bs}{t:ba}{ws:xm}{ts:List ba} (h:Lq w t) (h2:Lqs ws ts):Lqs (w::ws) (t::ts)
theorem aet:∀{ws:xm}{UG:List ba},ws≠[]->Lqs ws UG->Lq (dE ws j9) (bV UG)
 |[],_,h,_=>absurd rfl h
 |[w],[t],_,h=>by
  cases h with
  |cons h _=>simpa[dE,Lib.join,bV]using h
 |w::v::r,t::u::q,_,h=>by
  cases h with
  |cons h h2=>
   have ih:=aet (by simp) h2
   have e:dE (w::v::r) j9=w++(j9++dE (v::r) j9):=by simp[dE,Lib.join,intercalate,intersperse]
   rw[e]
   obtain⟨i1,i2,i3,l,i4⟩:=ih
   have:=h.any ⟨l,.cat j9 _ [sT rf] _ none l am2 i4 i1 fun t ht=>by cases ht⟩ (akT _)
   simpa[bV]using this
 |[_],[],_,h=>by cases h
 |[_],_::_::_,_,h=>by cases h with|cons _ h=>cases h
 |_::_::_,[],_,h=>by cases h
 |_::_::_,[_],_,h=>by cases h with|cons _ h=>cases h
theorem AX (op:Int):Lq (fE op) [wT (fE op)]:=by
 unfold fE
 repeat' split
 all_goals exact F3 (by decide) (by decide) (by decide)
theorem JX {w:Bs} (hw:Lq w [wT w]){t:Bs}{ts:ba} (h:Lq t ts):Lq (((w++cI)++t)++cj) (wT w::sT cI::(ts++[sT cj])):=by
 obtain⟨a1,a2,a3,l,a4⟩:=T9 h
 have:=hw.any ⟨l,a4⟩ (by
  have:CG cI:=⟨by simp[wd],by show UInt8.ofNat 40≠61;decide,by show Jf (UInt8.ofNat 40)=false;decide⟩
  rw[append_assoc]
  exact this.app _)
 simpa[append_assoc]using this
theorem awI {op:Int} (h:9<=op/\op<=19):(lf op).1≠[]/\∃l,Lx (lf op).1 [tS op] l:=by
 rcases(by omega:op=9\/op=10\/op=11\/op=12\/op=13\/op=14\/op=15\/op=16\/op=17\/op=18\/op=19)with rfl|rfl|rfl|rfl|rfl|rfl|rfl|rfl|rfl|rfl|rfl
 all_goals simp only[lf,tS,reduceEq,if_true,if_false,or_false,false_or,or_self]
 all_goals refine⟨by decide,_,.tok _ _ ?_⟩
 all_goals first|exact .sgn _ (.inl (by decide))|exact .sgn _ (.inr (by decide))|exact .word _ (by decide) (by decide) (by decide)
theorem akA:∀e:aj,e.ok->Lq e.tx e.tk:=by
 refine aj.ind fun op nm n ks ih dI=> ?_
 obtain⟨h1,h2⟩:=(aj.vZ _).1 dI
 have hk:∀x∈ks,Lq x.tx x.tk:=fun x hx=>ih x hx (h2 x hx)
 have eT:(aj.mk op nm n ks).tx=ft op nm n ks (ks.map aj.tx):=aj.aqn _
 have eK:(aj.mk op nm n ks).tk=wW op nm n ks (ks.map aj.tk):=aj.QI _
 rw[eT,eK]
 have W6:uJ op nm n ks.length:=h1
 unfold uJ at W6
 rcases W6 with⟨rfl,hn,-,-⟩|⟨rfl,hn,-,-⟩|⟨rfl,-,hn,-⟩|⟨rfl,-,-,-⟩|⟨q1,q2,-,-,hk1⟩|⟨q1,q2,-,-,pJ⟩|⟨q1,q2,-,hn,hk0⟩
 ·simp only[ft,wW,if_true]
  split
  ·have:=T9 (aeJ hn)
   rename_i aem
   unfold ng at this
   rw[if_pos aem]at this
   exact this
  ·rename_i aem
   have:=aeJ hn
   unfold ng at this
   rw[if_neg aem]at this
   exact this
 ·simp only[ft,wW,reduceEq,if_true,if_false]
  exact ag9 n
 ·simp only[ft,wW,reduceEq,if_true,if_false]
  exact hn.lq
 ·simp only[ft,wW,reduceEq,if_true,if_false]
  exact F3 (by decide) (by decide) (by decide)
 ·obtain⟨a,rfl⟩:∃a,ks=[a]:=by
   match ks,hk1 with
   |[a],_=>exact⟨a,rfl⟩
  have ha:=hk a (by simp)
  rcases(by omega:op=5\/op=6\/op=7\/op=8)with rfl|rfl|rfl|rfl
  ·simp only[ft,wW,reduceEq,or_self,if_true,if_false,na,map_cons,map_nil,getD_cons_zero]
   exact Lq.sgn (by simp[Jz]) (by show UInt8.ofNat 45≠61;decide) (aeK ha)
  ·simp only[ft,wW,reduceEq,or_self,if_true,if_false,na,map_cons,map_nil,getD_cons_zero]
   have e:(wd [110,111,116,32])=Uy++ew:=by simp[wd]
   rw[e]
   have ho:=aeK (op:=a.op) (l:=3) ha
   exact Lq.sp (ta:=[wT Uy]) (F3 (by decide) (by decide) (by decide)) ho.2.2.2 ho.1
  ·simp only[ft,wW,reduceEq,or_false,or_self,if_true,if_false,map_cons,map_nil,SP,reduceCtorEq,bV]
   have:dE [a.tx] j9=a.tx:=by simp[dE,Lib.join]
   rw[this]
   exact JX (AX 7) ha
  ·simp only[ft,wW,reduceEq,or_false,or_true,or_self,if_true,if_false,map_cons,map_nil,SP,reduceCtorEq,bV]
   have:dE [a.tx] j9=a.tx:=by simp[dE,Lib.join]
   rw[this]
   exact JX (AX 8) ha
 ·obtain⟨a,b,rfl⟩:∃a b,ks=[a,b]:=by
   match ks,pJ with
   |[a,b],_=>exact⟨a,b,rfl⟩
  have ha:=hk a (by simp)
  have hb:=hk b (by simp)
  by_cases h19:op<=19
  ·obtain⟨o1,lo,o2⟩:=awI ⟨q1,h19⟩
   have n1:¬op=1:=by omega
   have n2:¬op=2:=by omega
   have n3:¬op=3:=by omega
   have n4:¬op=4:=by omega
   have n5:¬op=5:=by omega
   have n6:¬op=6:=by omega
   have m7:¬op=7:=by omega
   have m8:¬op=8:=by omega
   have m20:¬op=20:=by omega
   have m21:¬op=21:=by omega
   have m22:¬op=22:=by omega
   have m23:¬op=23:=by omega
   have m24:¬op=24:=by omega
   simp only[ft,wW,n1,n2,n3,n4,n5,n6,m7,m8,m20,m21,m22,m23,m24,or_self,if_false,na,map_cons,map_nil,getD_cons_zero,getD_cons_succ]
   have hA:=aeK (op:=a.op) (l:=sF (lf op).2.1) ha
   have hB:=aeK (op:=b.op) (l:=oH (lf op).2.1) hb
   have h3:=Lq.sp hA ⟨lo,o2⟩ o1
   have h4:=Lq.sp h3 hB.2.2.2 hB.1
   have e:∀(x y:ba),(x++[tS op])++y=x++tS op::y:=fun x y=>by simp
   rw[e]at h4
   exact h4
  ·have hj:=aet (ws:=[a.tx,b.tx]) (UG:=[a.tk,b.tk]) (by simp) (.cons ha (.cons hb .nil))
   rcases(by omega:op=20\/op=21)with rfl|rfl
   ·simp only[ft,wW,reduceEq,or_false,or_true,or_self,if_true,if_false,map_cons,map_nil,SP,reduceCtorEq]
    exact JX (AX 20) hj
   ·simp only[ft,wW,reduceEq,or_false,or_true,or_self,if_true,if_false,map_cons,map_nil,SP,reduceCtorEq]
    exact JX (AX 21) hj
 ·have:ks=[]:=length_eq_zero_iff.1 hk0
  subst this
  rcases(by omega:op=22\/op=23\/op=24)with rfl|rfl|rfl
  all_goals simp only[ft,wW,reduceEq,or_false,or_true,or_self,if_true,if_false,map_nil,SP]
  ·exact JX (AX 22) hn.lq
  ·exact JX (AX 23) hn.lq
  ·exact JX (AX 24) hn.lq
theorem Bn.app {a b:xm}{ta tb:ba} (h1:Bn a ta) (h2:Bn b tb):Bn (a++b) (ta++tb):=by
 induction h1 with
 |one w ts h=>exact .cons w ts b tb h h2
 |cons w ts ws us h _ ih=>rw[append_assoc];exact .cons w ts _ _ h ih
theorem Bn.w {w:Bs}{ts:ba} (h:Lw w ts){ws:xm}{us:ba} (h2:Bn ws us):Bn (w::ws) (ts++us):= .cons w ts ws us h h2
theorem kwL {w:Bs} (h0:w≠[]) (h1:Xe (w.getD 0 0)=true) (h2:∀c∈w,Jf c=true):Lw w [wT w]:=(F3 h0 h1 h2).lw
theorem sgL {w:Bs} (h:w∈Jz):Lw w [sT w]:=⟨(vS (.sgn w (.inl h))).1,by simp,_,.tok w _ (.sgn w (.inl h))⟩
def LT (ls:List Ln) (T:ba):Prop:=∃UG,Lls ls UG/\Y4 UG=T
theorem LT.nil:LT [] []:=⟨[],.nil,rfl⟩
theorem LT.app {a b:List Ln}{ta tb:ba} (h1:LT a ta) (h2:LT b tb):LT (a++b) (ta++tb):=by
 obtain⟨x,x1,rfl⟩:=h1
 obtain⟨y,y1,rfl⟩:=h2
 exact⟨x++y,x1.app y1,amC x y⟩
theorem LT.cons {dp:Nat}{ws:xm}{ts:ba}{b:List Ln}{tb:ba} (h1:Bn ws ts) (h2:LT b tb):LT (⟨dp,ws⟩::b) (ts++dS::tb):=by
 obtain⟨y,y1,rfl⟩:=h2
 exact⟨ts::y,.cons ⟨dp,ws⟩ ts b y h1 y1,UQ ts y⟩
theorem LT.one {dp:Nat}{ws:xm}{ts:ba} (h1:Bn ws ts):LT [⟨dp,ws⟩] (ts++[dS]):=LT.cons h1 LT.nil
def aK {α:Type} (t:α->ba) (xs:List α):ba:=(xs.map t).flatten
theorem K7 {α:Type} (t:α->ba) (x:α) (xs:List α):aK t (x::xs)=t x++aK t xs:=rfl
theorem LT.of {α:Type}{f:α->List Ln}{t:α->ba}:∀{xs:List α},(∀x∈xs,LT (f x) (t x))->LT (bi f xs) (aK t xs)
 |[],_=>LT.nil
 |x::r,h=>(h x (by simp)).app (LT.of fun y hy=>h y (by simp[hy]))
def Mx:uD->uD->ba
 |v::vs,w::ws=>nT v::sT nt::nT w::Mx vs ws
 |_,_=>[]
def oO.tk (d:oO):ba:=
 if d.op=1 then[wT RX,nT d.a]
 else if d.op=2 then[wT Oy,nT d.a,nT d.b]
 else if d.op=4 then[wT Ld,nT d.n,nT d.a,nT d.b]
 else if d.op=5 then[wT Ov,nT d.a,nT d.b]
 else wT JI::Mx d.vs d.ws
theorem Lq.sp2 {a b:Bs}{ta tb:ba} (h1:Lq a ta) (h2:Lq b tb):Lq (a++(ew++b)) (ta++tb):=by
 have:=Lq.sp h1 h2.2.2.2 h2.1
 rwa [append_assoc]at this
theorem akS (p:Bs):CG (nt++p):=⟨by simp[wd],by show UInt8.ofNat 58≠61;decide,by show Jf (UInt8.ofNat 58)=false;decide⟩
theorem AK {a b n:Int} (h:vg a b n) (ha:0<=a) (hb:b<=1000000000000):Lq (bQ n) [nT n]:=by
 unfold vg at h;exact OQ (by omega) (by omega)
theorem afy {v w:Int} (hv:Lq (bQ v) [nT v]) (hw:Lq (bQ w) [nT w]):Lq ((bQ v++nt)++bQ w) [nT v,sT nt,nT w]:=by
 have h1:=Lq.sgn (s:=nt) (by simp[Jz]) (by show UInt8.ofNat 58≠61;decide) hw
 have:=hv.any h1.2.2.2 (akS _)
 rw[append_assoc]
 simpa using this
theorem aqc:∀(vs ws:uD),vs.length=ws.length->(∀v∈vs,vg 0 1000000000 v)->(∀w∈ws,vg 1 1000 w)->∀(a:Bs) (ta:ba),Lq a ta->Lq (a++Hv vs ws) (ta++Mx vs ws)
 |[],[],_,_,_,a,ta,h=>by simpa[Hv,Mx]using h
 |v::vs,w::ws,hl,hv,hw,a,ta,h=>by
  have h1:=afy (AK (hv v (by simp)) (by decide) (by decide)) (AK (hw w (by simp)) (by decide) (by decide))
  have h2:=Lq.sp2 h h1
  have ih:=aqc vs ws (by simpa using hl) (fun x hx=>hv x (by simp[hx])) (fun x hx=>hw x (by simp[hx])) _ _ h2
  have e1:a++Hv (v::vs) (w::ws)=(a++(ew++((bQ v++nt)++bQ w)))++Hv vs ws:=by
   simp only[Hv,append_assoc]
  have e2:ta++Mx (v::vs) (w::ws)=(ta++[nT v,sT nt,nT w])++Mx vs ws:=by simp[Mx]
  rw[e1,e2];exact ih
 |[],_::_,h,_,_,_,_,_=>by simp at h
 |_::_,[],h,_,_,_,_,_=>by simp at h
theorem Zs (d:oO) (h:d.ok):Lq d.tx d.tk:=by
 obtain⟨h0,_⟩:=h
 unfold oO.ok0 at h0
 unfold oO.tx oO.tk
 rcases h0 with⟨e,-,-,-,-,ha⟩|⟨e,-,-,-,ha,hb,-⟩|⟨e,-,-,-,ha,hb⟩|⟨e,-,-,hn,ha,hb,-⟩|⟨e,-,-,-,hl,h1,h2,hv,hw⟩
 ·simp only[e,if_true]
  exact Lq.sp2 (ta:=[wT RX]) (F3 (by decide) (by decide) (by decide)) (AK ha (by decide) (by decide))
 ·simp only[e,reduceEq,if_true,if_false]
  exact Lq.sp2 (ta:=[wT Oy,nT d.a]) (Lq.sp2 (ta:=[wT Oy]) (F3 (by decide) (by decide) (by decide)) (AK ha (by decide) (by decide))) (AK hb (by decide) (by decide))
 ·simp only[e,reduceEq,if_true,if_false]
  exact Lq.sp2 (ta:=[wT Ov,nT d.a]) (Lq.sp2 (ta:=[wT Ov]) (F3 (by decide) (by decide) (by decide)) (AK ha (by decide) (by decide))) (AK hb (by decide) (by decide))
 ·simp only[e,reduceEq,if_true,if_false]
  exact Lq.sp2 (ta:=[wT Ld,nT d.n,nT d.a]) (Lq.sp2 (ta:=[wT Ld,nT d.n]) (Lq.sp2 (ta:=[wT Ld]) (F3 (by decide) (by decide) (by decide)) (AK hn (by decide) (by decide))) (AK ha (by decide) (by decide))) (AK hb (by decide) (by decide))
 ·simp only[e,reduceEq,if_false]
  exact aqc d.vs d.ws hl hv hw _ [wT JI] (F3 (by decide) (by decide) (by decide))
def WM (l:i7):ba:=sT cI::(bV (l.map aj.tk)++[sT cj])
theorem aoQ:∀l:i7,(∀x∈l,x.ok)->Lqs (l.map aj.tx) (l.map aj.tk)
 |[],_=> .nil
 |x::r,h=> .cons (akA x (h x (by simp))) (aoQ r fun y hy=>h y (by simp[hy]))
theorem aty:Lq ((cI++dE [] j9)++cj) [sT cI,sT cj]:=by
 have:(cI++dE [] j9)++cj=cI++cj:=by simp[dE,Lib.join]
 rw[this]
 exact Lq.axj (by simp[Jz]) (by show UInt8.ofNat 40≠61;decide) apc akd
theorem V7 {ws:xm}{UG:List ba} (h:Lqs ws UG):Lq ((cI++dE ws j9)++cj) (sT cI::(bV UG++[sT cj])):=by
 by_cases c:ws=[]
 ·subst c
  cases h
  exact aty
 ·exact T9 (aet c h)
theorem aqZ (l:i7) (h:∀x∈l,x.ok):Lq (SG l) (WM l):=V7 (aoQ l h)
def stT (op:Int) (nm pm:Bs) (e f:aj) (args:i7) (d:oO) (flag:Bool):ba:=
 if op=1 then wT aqD::wT nm::sT UA::e.tk
 else if op=2 then wT aqv::wT nm::wT ahg::wT pm::d.tk
 else if op=5 then wT aqx::e.tk
 else if op=6 then wT acj::wT nm::(e.tk++wT aa5::(f.tk++if flag then[wT UC]else[]))
 else if op=7 then wT aqB::wT nm::e.tk
 else if op=8 then wT aqA::(e.tk++[wT aqy,wT nm])
 else if op=9 then[wT aqw,wT pm,wT ahg,wT nm]
 else if op=10 then[wT aqC,wT nm]
 else if op=11 then[wT aqG,wT nm]
 else if op=12 then wT aqE::wT nm::e.tk
 else if op=13 then wT amf::wT pm::sT ack::wT nm::(WM args++wT ach::e.tk)
 else if op=14 then wT amg::wT nm::(WM args++wT ach::e.tk)
 else if op=15 then wT aqz::wT nm::e.tk
 else if op=16 then wT La::wT nm::e.tk
 else if op=17 then wT aqu::wT nm::e.tk
 else[wT aqF]
def afp (word:Bs) (e:aj) (bt:ba) (ne:Bool) (ct:ba):ba:=
 wT word::(e.tk++dS::(bt++(if ne then[wT ep,dS]else wT Ou::dS::(ct++[wT ep,dS]))))
def aeU (op:Int) (nm pm:Bs) (e f:aj) (args:i7) (d:oO) (flag:Bool) (bt:ba) (ne:Bool) (ct:ba):ba:=
 if op=3 then afp MA e bt ne ct else if op=4 then afp Wx e bt ne ct else stT op nm pm e f args d flag++[dS]
mutual
def ax.tk:ax->ba
 | .mk op nm pm e f args d flag b c=>aeU op nm pm e f args d flag (ax.nJ b) c.isEmpty (ax.nJ c)
def ax.nJ:kb->ba
 |[]=>[]
 |k::r=>k.tk++ax.nJ r
end
theorem ax.QI:∀s:ax,s.tk=aeU s.op s.nm s.pm s.e s.f s.args s.d s.flag (ax.nJ s.body) s.fG.isEmpty (ax.nJ s.fG)
 | .mk _ _ _ _ _ _ _ _ _ _=>by rw[ax.tk];rfl
theorem avm {a b:Bs} (h1:Lq a [wT a]) (h2:Lq b [wT b]):Lq ((a++ack)++b) [wT a,sT ack,wT b]:=by
 have h3:=Lq.sgn (s:=ack) (by simp[Jz]) (by show UInt8.ofNat 46≠61;decide) h2
 have:=h1.any h3.2.2.2 ⟨by simp[wd],by show UInt8.ofNat 46≠61;decide,by show Jf (UInt8.ofNat 46)=false;decide⟩
 rw[append_assoc]
 simpa using this
theorem asE (s:ax) (h:s.okN):s.op≠3->s.op≠4->Bn (Yf s.op s.nm s.pm s.e s.f s.args s.d s.flag) (stT s.op s.nm s.pm s.e s.f s.args s.d s.flag):=by
 intro n3 n4
 obtain⟨u,hu,hf,p1,p2,p3,p4,p5,p6,p7⟩:=h
 have hr:=xd hu
 have he:u.e=true->Lw s.e.tx s.e.tk:=fun h=>(akA s.e (p3 h).1).lw
 have hff:u.f=true->Lw s.f.tx s.f.tk:=fun h=>(akA s.f (p4 h).1).lw
 have hd2:u.d=true->Lw s.d.tx s.d.tk:=fun h=>(Zs s.d (p7 h)).lw
 have hn:u.nm=true->Lq s.nm [wT s.nm]:=fun h=>(p1 h).lq
 have ho:u.pm=true->Lq s.pm [wT s.pm]:=fun h=>(p2 h).lq
 have ha:=(aqZ s.args fun x hx=>(p6 x hx).1).lw
 have kw:∀w:Bs,w≠[]->Xe (w.getD 0 0)=true->(∀c∈w,Jf c=true)->Lw w [wT w]:=fun w a b c=>kwL a b c
 generalize s.op=op at*
 rcases(by omega:op=1\/op=2\/op=5\/op=6\/op=7\/op=8\/op=9\/op=10\/op=11\/op=12\/op=13\/op=14\/op=15\/op=16\/op=17\/op=18)with rfl|rfl|rfl|rfl|rfl|rfl|rfl|rfl|rfl|rfl|rfl|rfl|rfl|rfl|rfl|rfl
 all_goals simp only[Dr,reduceEq,if_true,if_false,Option.some.injEq]at hu
 all_goals subst hu
 all_goals simp only[Yf,stT,reduceEq,if_true,if_false]
 ·exact .w (kw _ (by decide) (by decide) (by decide)) (.w (hn rfl).lw (.w (sgL (by decide)) (.one _ _ (he rfl))))
 ·exact .w (kw _ (by decide) (by decide) (by decide)) (.w (hn rfl).lw (.w (kw _ (by decide) (by decide) (by decide)) (.w (ho rfl).lw (.one _ _ (hd2 rfl)))))
 ·exact .w (kw _ (by decide) (by decide) (by decide)) (.one _ _ (he rfl))
 ·cases s.flag
  ·have:=Bn.w (kw acj (by decide) (by decide) (by decide)) (.w (hn rfl).lw (.w (he rfl) (.w (kw aa5 (by decide) (by decide) (by decide)) (.one _ _ (hff rfl)))))
   simpa using this
  ·have:=Bn.w (kw acj (by decide) (by decide) (by decide)) (.w (hn rfl).lw (.w (he rfl) (.w (kw aa5 (by decide) (by decide) (by decide)) (.w (hff rfl) (.one _ _ (kw UC (by decide) (by decide) (by decide)))))))
   simpa using this
 ·exact .w (kw _ (by decide) (by decide) (by decide)) (.w (hn rfl).lw (.one _ _ (he rfl)))
 ·exact .w (kw _ (by decide) (by decide) (by decide)) (.w (he rfl) (.w (kw _ (by decide) (by decide) (by decide)) (.one _ _ (hn rfl).lw)))
 ·exact .w (kw _ (by decide) (by decide) (by decide)) (.w (ho rfl).lw (.w (kw _ (by decide) (by decide) (by decide)) (.one _ _ (hn rfl).lw)))
 ·exact .w (kw _ (by decide) (by decide) (by decide)) (.one _ _ (hn rfl).lw)
 ·exact .w (kw _ (by decide) (by decide) (by decide)) (.one _ _ (hn rfl).lw)
 ·exact .w (kw _ (by decide) (by decide) (by decide)) (.w (hn rfl).lw (.one _ _ (he rfl)))
 ·have:=Bn.w (kw amf (by decide) (by decide) (by decide)) (.w (avm (ho rfl) (hn rfl)).lw (.w ha (.w (kw ach (by decide) (by decide) (by decide)) (.one _ _ (he rfl)))))
  simpa using this
 ·have:=Bn.w (kw amg (by decide) (by decide) (by decide)) (.w (hn rfl).lw (.w ha (.w (kw ach (by decide) (by decide) (by decide)) (.one _ _ (he rfl)))))
  simpa using this
 ·exact .w (kw _ (by decide) (by decide) (by decide)) (.w (hn rfl).lw (.one _ _ (he rfl)))
 ·exact .w (kw _ (by decide) (by decide) (by decide)) (.w (hn rfl).lw (.one _ _ (he rfl)))
 ·exact .w (kw _ (by decide) (by decide) (by decide)) (.w (hn rfl).lw (.one _ _ (he rfl)))
 ·exact .one _ _ (kw _ (by decide) (by decide) (by decide))
theorem aA5:∀(l:kb) (dp:Nat),ax.R1 l->LT (ax.vY dp l) (ax.nJ l):=by
 refine ax.X8 fun l ih dp dI=> ?_
 have key:∀x∈l,LT (x.ln dp) x.tk:=by
  intro x hx
  obtain⟨o1,o2,o3⟩:=(ax.vZ x).1 ((ax.vJ l).1 dI x hx)
  obtain⟨b1,b2⟩:=ax.vw hx
  have i1:=ih x.body b1 (dp+1) o2
  have i2:=ih x.fG b2 (dp+1) o3
  have hp:(x.op=3\/x.op=4)->x.e.ok:=by
   intro h
   obtain⟨u,hu,hf,p1,p2,p3,_⟩:=o1
   refine(p3 ?_).1
   rcases h with h|h<;>(rw[h]at hu;simp only[Dr,reduceEq,if_true,if_false,Option.some.injEq]at hu;subst hu;rfl)
  have blk:∀word:Bs,Lw word [wT word]->x.e.ok->LT (UU dp word x.e (ax.vY (dp+1) x.body) x.fG.isEmpty (ax.vY (dp+1) x.fG)) (afp word x.e (ax.nJ x.body) x.fG.isEmpty (ax.nJ x.fG)):=by
   intro word hw he
   have l1:=Bn.w hw (.one _ _ (akA x.e he).lw)
   have le:Bn [ep] [wT ep]:= .one _ _ (kwL (by decide) (by decide) (by decide))
   have ll:Bn [Ou] [wT Ou]:= .one _ _ (kwL (by decide) (by decide) (by decide))
   unfold UU afp
   cases x.fG.isEmpty
   ·have:=LT.cons (dp:=dp) l1 (i1.app (LT.cons (dp:=dp) ll (i2.app (LT.one (dp:=dp) le))))
    simpa using this
   ·have:=LT.cons (dp:=dp) l1 (i1.app (LT.one (dp:=dp) le))
    simpa using this
  rw[ax.aoL,ax.QI]
  unfold stN aeU
  by_cases h3:x.op=3
  ·rw[if_pos h3,if_pos h3]
   exact blk _ (kwL (by decide) (by decide) (by decide)) (hp (.inl h3))
  rw[if_neg h3,if_neg h3]
  by_cases h4:x.op=4
  ·rw[if_pos h4,if_pos h4]
   exact blk _ (kwL (by decide) (by decide) (by decide)) (hp (.inr h4))
  rw[if_neg h4,if_neg h4]
  exact LT.one (asE x o1 h3 h4)
 have fin:∀r:kb,(∀x∈r,LT (x.ln dp) x.tk)->LT (ax.vY dp r) (ax.nJ r):=by
  intro r
  induction r with
  |nil=>intro _;rw[ax.vY,ax.nJ];exact LT.nil
  |cons x r ih=>
   intro h
   rw[ax.vY,ax.nJ]
   exact(h x (by simp)).app (ih fun y hy=>h y (by simp[hy]))
 exact fin l key
end Go.Proofs.YtlklkgdaegncaaaGreatDoor
