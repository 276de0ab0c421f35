/-
  A part of the proof of TopIsolated: TdI, TdJ, Hb1, Hb2, Hm1, Hm2, Srt, Srt2, Hs1, Hs2, Hs3, Hw1, Hw2, Hw3, Ht, Hr, Hw4, Hw5, Hc, Hst, Hst2, Hst3, Hb3, Hd1, Hd2, Hd3, Hc2, As, Hs4, Hs5, Hs6, Hs7, Hs8, Hi1, Hi2, Ni1, Ni2.
-/
import Derived.Test.YtnfambhakdnncaaGreatDoorZ03
import Derived.KernelRfl
import Derived.Test.YtnfambhakdnncaaGreatDoorZ10
import Derived.Test.YtnfambhakdnncaaGreatDoorZ04
import Derived.Laws.MathBits
import Derived.Test.YtnfambhakdnncaaGreatDoorZ05
import Derived.Test.YtnfambhakdnncaaGreatDoorZ12
import Derived.Test.YtnfambhakdnncaaGreatDoorZ13
import Derived.Test.YtnfambhakdnncaaGreatDoorZ14
import Derived.Test.YtnfambhakdnncaaGreatDoorZ15
import Derived.Test.YtnfambhakdnncaaGreatDoorZ16
import Derived.Test.YtnfambhakdnncaaGreatDoorZ17
import Derived.Test.YtnfambhakdnncaaGreatDoorZ18
import Derived.Test.YtnfambhakdnncaaGreatDoorZ19
import Derived.Test.YtnfambhakdnncaaGreatDoorZ20
import Derived.Test.YtnfambhakdnncaaGreatDoorZ21
import Derived.Test.YtnfambhakdnncaaGreatDoorZ22
import Derived.Test.YtnfambhakdnncaaGreatDoorZ11
namespace Go.Proofs.YtnfambhakdnncaaGreatDoor
set_option linter.all false
set_option maxRecDepth 1000000
set_option maxHeartbeats 80000000
open List Nat Int Go.RowKit
structure Pm where
 len:Nat->Option Nat
 ix:Nat->Int->Prop
 FL:Int->Option Nat
 rv:Sc
def ixT(pm:Pm):Ty->Sc->Prop
 | .ae k,x=>am.tk k= .no/\∃z,x= .i z/\pm.ix k z|_,_=>False
def J0(pm:Pm)(r:Nat)(vs:ab):Prop:=
 if r=0 then ∃a x m,vs=[a,x]/\pm.FL a.int=some m/\x.list.length=m
 else if r=5 then ∀w∈am.rt,(vs.getD w.2.1 (.i 0)).int=w.2.2.1->ixT pm w.2.2.2.2 (vs.getD w.2.2.2.1 (.i 0))
 else if r=100 then ∃a x,vs=[a,x]/\∃y∈x.list,y.int=a.int
 else if r=101 then ∃a x,vs=[a,x]/\∃y∈x.list,(y.list.getD 0 (.i 0)).int=a.int
 else vs=[pm.rv]
def In(pm:Pm):Nat->Nat->Sc->Prop
 |0,k,x=>am.tk k= .no/\∃z,x= .i z/\pm.ix k z|n+1,k,x=>(am.tk k= .no/\∃z,x= .i z/\pm.ix k z)\/(am.tk k≠.no/\∃xs,x= .l xs/\xs.length<=am.cap k/\(∀L,pm.len k=some L->xs.length=L)/\∀y∈xs,cA am (In pm n) (J0 pm) k y)
def II(pm:Pm)(k:Nat)(x:Sc):Prop:=∃n,In pm n k x
abbrev JJ(pm:Pm)(N:Nat):Nat->ab->Prop:=Jm am.xP (J0 pm) N
section
variable{tb:Tb}{I I':Nat->Sc->Prop}{J:Nat->ab->Prop}
def DE(h:∀k x,I k x->I' k x):∀{u:Ty}{x:Sc},th I u x->th I' u x
 | .ae k,x,hx=>h k x hx| .any,_,h=>h| .int,_,h=>h| .nat,_,h=>h| .bool,_,h=>h| .str _,_,h=>h| .aV _,_,h=>h
def Bb(h:∀k x,I k x->I' k x):∀{us:List Ty}{xs:ab},fl I us xs->fl I' us xs
 |[],[],_=>trivial|_::_,_::_,hx=>⟨DE h hx.1,Bb h hx.2⟩|[],_::_,h=>h.elim|_::_,[],h=>h.elim
def zJ(h:∀k x,I k x->I' k x){k:Nat}{y:Sc}(hy:cA tb I J k y):cA tb I' J k y:=by
 unfold cA at hy⊢;split at hy
 ·exact hy
 ·exact DE h hy
 ·obtain⟨⟨c,h1,h2⟩,h3⟩:=hy;exact⟨⟨c,h1,Bb h h2⟩,h3⟩
end
section
variable{pm:Pm}
def adD:∀{n k:Nat}{x:Sc},In pm n k x->In pm (n+1) k x
 |0,k,x,h=> .inl h|n+1,k,x,h=>by
  rcases h with h|⟨h1,xs,h2,h3,h4,h5⟩
  ·exact .inl h
  ·exact .inr ⟨h1,xs,h2,h3,h4,fun y hy=>zJ (fun k x hx=>adD hx) (h5 y hy)⟩
def FN{n m k:Nat}{x:Sc}(hnm:n<=m)(h:In pm n k x):In pm m k x:=by
 induction hnm with|refl=>exact h|step _ ih=>exact adD ih
def Ou:∀{u:Ty}{x:Sc},th (II pm) u x->∃n,th (In pm n) u x
 | .ae k,x,⟨n,h⟩=>⟨n,h⟩| .any,_,h=>⟨0,h⟩| .int,_,h=>⟨0,h⟩| .nat,_,h=>⟨0,h⟩| .bool,_,h=>⟨0,h⟩| .str _,_,h=>⟨0,h⟩| .aV _,_,h=>⟨0,h⟩
def KI:∀{us:List Ty}{xs:ab},fl (II pm) us xs->∃n,fl (In pm n) us xs
 |[],[],_=>⟨0,trivial⟩|_::_,_::_,hx=>by obtain⟨n,hn⟩:=Ou hx.1;obtain⟨m,hm⟩:=KI hx.2;exact⟨max n m,DE (fun k x h=>FN (Nat.le_max_left n m) h) hn,Bb (fun k x h=>FN (Nat.le_max_right n m) h) hm⟩
 |[],_::_,h=>h.elim|_::_,[],h=>h.elim
def Xo{k:Nat}{y:Sc}(hy:cA am (II pm) (J0 pm) k y):∃n,cA am (In pm n) (J0 pm) k y:=by
 unfold cA at hy⊢;split at hy
 ·exact hy.elim
 ·exact Ou hy
 ·obtain⟨⟨c,h1,h2⟩,h3⟩:=hy;obtain⟨n,hn⟩:=KI h2;exact⟨n,⟨c,h1,hn⟩,h3⟩
def SI{k:Nat}:∀{xs:ab},(∀y∈xs,cA am (II pm) (J0 pm) k y)->∃n,∀y∈xs,cA am (In pm n) (J0 pm) k y
 |[],_=>⟨0,nofun⟩|x::xs,h=>by
  obtain⟨n,hn⟩:=Xo (h x (by simp));obtain⟨m,hm⟩:=SI (xs:=xs) fun y hy=>h y (by simp[hy]);refine⟨max n m,fun y hy=> ?_⟩;rcases bX.1 hy with rfl|hy
  ·exact zJ (fun k x h=>FN (Nat.le_max_left n m) h) hn
  ·exact zJ (fun k x h=>FN (Nat.le_max_right n m) h) (hm y hy)
def bO{k:Nat}{x:Sc}(hk:am.tk k≠.no):II pm k x↔∃xs,x= .l xs/\xs.length<=am.cap k/\(∀L,pm.len k=some L->xs.length=L)/\∀y∈xs,cA am (II pm) (J0 pm) k y:=by
 constructor
 ·rintro⟨n,h⟩;cases n with
  |zero=>exact absurd h.1 hk|succ n=>
   rcases h with h|⟨_,xs,h2,h3,h4,h5⟩
   ·exact absurd h.1 hk
   ·exact⟨xs,h2,h3,h4,fun y hy=>zJ (fun k x hx=>⟨n,hx⟩) (h5 y hy)⟩
 ·rintro⟨xs,h2,h3,h4,h5⟩;obtain⟨n,hn⟩:=SI h5;exact⟨n+1,.inr ⟨hk,xs,h2,h3,h4,hn⟩⟩
def m9{k:Nat}{x:Sc}(hk:am.tk k= .no):II pm k x↔∃z,x= .i z/\pm.ix k z:=by
 constructor
 ·rintro⟨n,h⟩;cases n with
  |zero=>exact h.2|succ n=>
   rcases h with h|h
   ·exact h.2
   ·exact absurd hk h.1
 ·intro h;exact⟨0,hk,h⟩
end
def Rl{α:Type}{d:List α}{k:Nat}:∀{t:List (Nat×List α)}{x:α},x∈lk d k t->x∈d\/∃e∈t,e.1=k/\x∈e.2
 |[],x,h=> .inl h|(j,a)::r,x,h=>by
  unfold lk at h;split at h
  ·rename_i hj;exact .inr ⟨(j,a),by simp,fh hj,h⟩
  ·rcases Rl h with h|⟨e,he,h⟩
   ·exact .inl h
   ·exact .inr ⟨e,by simp[he],h⟩
def Ix:∀k,∀q∈am.ma k,q.1<200:=by
 intro k q hq;rcases Rl (α:=Nat×bH) hq with h|⟨e,he,_,h⟩
 ·cases h
 ·revert q;have:∀e∈ZL,∀q∈e.2,q.1<200:=by decide
  intro q hq h;exact this e he q h
def Wv(k:Nat):Bool:= ! cT am k
theorem oK{k:Nat}(h:Wv k=true):am.tk k= .no:=by
 unfold Wv cT at h;cases hk:am.tk k with
 |no=>rfl|row cs=>rw[hk]at h;simp at h|vec u=>rw[hk]at h;simp at h
structure dG(pm:Pm):Prop where
 len:∀k,pm.len k≠none->k∈sj
 nat:∀e∈BA,Wv e.1=true->∀z,pm.ix e.1 z->0<=z
 isr:∀z,pm.ix jE z->pm.ix og z
 inr:∀q∈am.inr,∃L,pm.len q.2=some L/\∀z,pm.ix q.1 z->∃n:Nat,z=n/\n<L
 Vs:∀L,pm.len gq=some L->∀n:Nat,n<L->pm.ix og n
 FL:∀z L,pm.ix jE z->pm.len bQ=some L->pm.FL z=some L
 aC:∃L,pm.len bQ=some L
 rvl:pm.len gq=some pm.rv.list.length
 rvs:∀n:Nat,n<pm.rv.list.length->∃m:Nat,((pm.rv.list.getD n (.i 0)).list.getD 2 (.i 0)).int=m/\pm.FL n=some m
 ins:∀n:Nat,n<pm.rv.list.length->∀y∈((pm.rv.list.getD n (.i 0)).list.getD 3 (.i 0)).list,∀w∈am.rt,(y.list.getD w.2.1 (.i 0)).int=w.2.2.1->∃k,w.2.2.2.2= .ae k/\∃z,y.list.getD w.2.2.2.1 (.i 0)= .i z/\(k=eS->0<=z/\∃m:Nat,pm.FL n=some m/\z<m)/\(k≠eS->pm.ix k z)
 hand:∀n:Nat,n<pm.rv.list.length->∀y∈((pm.rv.list.getD n (.i 0)).list.getD 3 (.i 0)).list,(y.list.getD 0 (.i 0)).int=10->∀m,pm.FL n=some m->0<=(y.list.getD 2 (.i 0)).int/\(y.list.getD 2 (.i 0)).int<m
def aal(a b:Ty):Bool:=decide (a=b)||(match a,b with| .ae k,.int=>Wv k&&BA.any (fun e=>Nat.beq e.1 k)| .ae k,.nat=>Wv k&&BA.any (fun e=>Nat.beq e.1 k)|_,_=>false)
def ZT(j k:Nat):Bool:=match am.tk j,am.tk k with
 | .vec a,.vec b=>aal a b| .row az,.row bs=>iy aal az bs|_,_=>false
def anZ(k:Nat)(t:Ty):Bool:=match t with
 | .ae j=>(cT am k&&cT am j&&ble (am.cap k) (am.cap j)&&(am.ma j).isEmpty&& ! sj.contains j&&ZT k j)||(Nat.beq k jE&&Nat.beq j og)| .nat=>Wv k| .int=>Wv k|_=>false
theorem aan:∀e∈BA,∀t∈e.2,anZ e.1 t=true:=by decide+kernel
theorem abX:∀k∈sj,am.free k=false:=by decide+kernel
theorem T9:∀w∈am.rt,w.1=5/\Wv (match w.2.2.2.2 with| .ae k=>k|_=>0)=true:=by decide+kernel
theorem Vn:∀q∈am.inr,Wv q.1=true/\cT am q.2=true:=by decide+kernel
theorem sC:Wv jE=true/\Wv og=true/\cT am bQ=true/\cT am gq=true:=by decide+kernel
theorem ZF:∀c∈am.xP,∀d∈am.xP,c.1=d.1->c=d:=by decide+kernel
theorem Gl:∀c∈am.xP,c.1<100:=by decide+kernel
theorem ahF{k:Nat}{t:Ty}(h:t∈am.sup k):∃e∈BA,e.1=k/\t∈e.2:=by
 rcases Rl (α:=Ty) h with h|h
 ·cases h
 ·exact h
section
variable{pm:Pm}(h:dG pm){N:Nat}
theorem qW{I:Nat->Sc->Prop}{k:Nat}{y:Sc}:cA am I (J0 pm) k y↔cA am I (JJ pm N) k y:=by
 unfold cA;split
 ·exact Iff.rfl
 ·exact Iff.rfl
 ·constructor
  ·rintro⟨h1,h2⟩;exact⟨h1,fun q hq=>by have:=h2 q hq;show Jm _ _ _ _ _;unfold Jm;rw[aA (Ix _ q hq)];exact this⟩
  ·rintro⟨h1,h2⟩;exact⟨h1,fun q hq=>by have:Jm _ _ _ _ _:=h2 q hq;unfold Jm at this;rw[aA (Ix _ q hq)]at this;exact this⟩
include h
theorem Uk{a b:Ty}{x:Sc}(hs:aal a b=true)(hx:th (II pm) a x):th (II pm) b x:=by
 unfold aal at hs;rw[bY]at hs;rcases hs with hs|hs
 ·rw[<-fv hs];exact hx
 ·split at hs
  ·rename_i k;rw[aL]at hs;obtain⟨z,rfl,_⟩:=(m9 (oK hs.1)).1 hx;exact⟨z,rfl⟩
  ·rename_i k;rw[aL,fS]at hs;obtain⟨hn,e,he,hk⟩:=hs;have hk:=fh hk;subst hk;obtain⟨z,rfl,hz⟩:=(m9 (oK hn)).1 hx;have:=h.nat e he hn z hz;exact⟨z.toNat,by congr 1;omega⟩
  ·cases hs
theorem Um:∀{az bs:List Ty}{xs:ab},iy aal az bs=true->fl (II pm) az xs->fl (II pm) bs xs
 |[],[],[],_,_=>trivial|a::az,b::bs,x::xs,hs,hx=>by simp only[iy,aL]at hs;exact⟨Uk h hs.1 hx.1,Um hs.2 hx.2⟩
 |[],_::_,_,hs,_=>by simp[iy]at hs
 |_::_,[],_,hs,_=>by simp[iy]at hs
 |[],[],_::_,_,hx=>hx.elim|_::_,_::_,[],_,hx=>hx.elim
theorem Gp{j k:Nat}{y:Sc}(hs:ZT j k=true)(hE:am.ma k=[])(hy:cA am (II pm) (J0 pm) j y):cA am (II pm) (J0 pm) k y:=by
 unfold ZT at hs;unfold cA at hy⊢;split at hs
 ·rename_i a b h1 h2;rw[h1]at hy;rw[h2];exact Uk h hs hy
 ·rename_i az bs h1 h2;rw[h1]at hy;rw[h2];obtain⟨⟨c,e1,e2⟩,_⟩:=hy;exact⟨⟨c,e1,Um h hs e2⟩,fun q hq=>by rw[hE]at hq;cases hq⟩
 ·cases hs
theorem aao{k:Nat}{t:Ty}{x:Sc}(ht:t∈am.sup k)(hx:II pm k x):th (II pm) t x:=by
 obtain⟨e,he,hk,ht'⟩:=ahF ht;subst hk;clear ht;have hb:=aan e he t ht';clear ht';unfold anZ at hb;split at hb
 ·rename_i j;rw[bY]at hb;rcases hb with hb|hb
  ·simp only[aL]at hb;obtain⟨⟨⟨⟨⟨h1,h2⟩,h3⟩,h4⟩,h5⟩,h6⟩:=hb;obtain⟨xs,e1,e2,e3,e4⟩:=(bO (aj h1)).1 hx;refine(bO (aj h2)).2 ⟨xs,e1,bI e2 (oo h3),fun L hL=> ?_,fun y hy=>Gp h h6 (uO.1 h4) (e4 y hy)⟩;have:=h.len j (by rw[hL];simp);simp only[NC,contains_eq_mem,LB]at h5;exact absurd this h5
  ·rw[aL]at hb;have h1:=fh hb.1;have h2:=fh hb.2;rw[h1]at hx;rw[h2];obtain⟨z,hz,hi⟩:=(m9 (oK sC.1)).1 hx;exact(m9 (oK sC.2.1)).2 ⟨z,hz,h.isr z hi⟩
 ·obtain⟨z,rfl,hz⟩:=(m9 (oK hb)).1 hx;have:=h.nat e he hb z hz;exact⟨z.toNat,by congr 1;omega⟩
 ·obtain⟨z,rfl,_⟩:=(m9 (oK hb)).1 hx;exact⟨z,rfl⟩
 ·cases hb
theorem cY:Fa am (II pm) (JJ pm N) where
 list:=fun k x hk hx=>by obtain⟨xs,h1,h2,_,h4⟩:=(bO hk).1 hx;exact⟨xs,h1,h2,fun y hy=>qW.1 (h4 y hy)⟩
 free:=fun k xs hf hk hc he=>(bO hk).2 ⟨xs,rfl,hc,fun L hL=>(by have:=abX k (h.len k (by rw[hL];simp));rw[this]at hf;cases hf),fun y hy=>qW.2 (he y hy)⟩
 mu:=fun k xs n y hk hx hy=>by
  obtain⟨Se,h1,h2,h3,h4⟩:=(bO hk).1 hx;cases h1
  refine(bO hk).2 ⟨_,rfl,by rw[BO];exact h2,fun L hL=>by rw[BO];exact h3 L hL,fun z hz=> ?_⟩;rcases Ke hz with hz|rfl
  ·exact h4 z hz
  ·exact qW.2 hy
 sup:=fun k t x ht hx=>aao h ht hx
 inr:=fun q hq x y hx hy=>by obtain⟨h1,h2⟩:=Vn q hq;obtain⟨L,hL,hz⟩:=h.inr q hq;obtain⟨z,rfl,hi⟩:=(m9 (oK h1)).1 hx;obtain⟨n,rfl,hn⟩:=hz z hi;obtain⟨xs,rfl,_,h4,_⟩:=(bO (aj h2)).1 hy;exact⟨n,rfl,by rw[show(Sc.l xs).list=xs from rfl,h4 L hL];exact hn⟩
 Vs:=fun q hq n y hy hn=>by
  have hq:q=(og,gq):=by simpa[am]using hq
  subst hq;obtain⟨L,hL,_⟩:=h.inr (og,gq) (by decide+kernel);obtain⟨xs,rfl,_,h4,_⟩:=(bO (aj sC.2.2.2)).1 hy;have hn:n<xs.length:=hn;exact(m9 (oK sC.2.1)).2 ⟨n,rfl,h.Vs L hL n (by rw[h4 L hL]at hn;exact hn)⟩
 VI:=fun q hq xs hx=>by
  have hq:q=(0,[.ae jE,.ae bQ]):=by simpa[am]using hq
  subst hq;show Jm _ _ _ 0 _;unfold Jm;rw[aA (by omega)]
  match xs,hx with
  |[a,x],⟨h1,h2,_⟩=>
   obtain⟨z,rfl,hz⟩:=(m9 (oK sC.1)).1 h1;obtain⟨L,hL⟩:=h.aC;obtain⟨ys,rfl,_,h4,_⟩:=(bO (aj sC.2.2.1)).1 h2;show J0 pm 0 _;unfold J0;rw[aA rfl];exact⟨_,_,L,rfl,h.FL z L hz hL,h4 L hL⟩
 rt:=fun q hq xs hx he=>by
  obtain⟨h1,h2⟩:=T9 q hq;rw[h1]at hx;have hx:Jm _ _ _ 5 _:=hx;unfold Jm at hx;rw[aA (by omega)]at hx;unfold J0 at hx;rw[aE (by omega),aA rfl]at hx;have:=hx q hq he;unfold ixT at this;split at this
  ·rename_i k hk;rw[hk];obtain⟨hn,z,hz,hi⟩:=this;exact(m9 hn).2 ⟨z,hz,hi⟩
  ·exact this.elim
 less:=fun c hc o ho xs ys hy bi=>by
  have zM:=Gl c hc;have ho1:=Gl o ho;have hy:Jm _ _ _ (300+o.1) ys:=hy;show Jm _ _ _ (200+c.1) xs;unfold Jm at hy⊢;rw[aE (by omega)]at hy⊢;obtain⟨d,hd,h1|h1⟩:=hy
  ·have:=Gl d hd;omega
  ·have hdo:d=o:=ZF d hd o ho (by omega);subst hdo;exact⟨c,hc,.inl ⟨rfl,by omega⟩⟩
 mem:=fun a x hx=>by show Jm _ _ _ 100 _;unfold Jm;rw[aA (by omega)];unfold J0;rw[aE (by omega),aE (by omega),aA rfl];exact⟨a,x,rfl,hx⟩
 Vy:=fun a x hx=>by
  have hx:Jm _ _ _ 100 _:=hx;unfold Jm at hx;rw[aA (by omega)]at hx;unfold J0 at hx;rw[aE (by omega),aE (by omega),aA rfl]at hx;obtain⟨a',x',he,h⟩:=hx;cases he
  exact h
 id:=fun a x hx=>by show Jm _ _ _ 101 _;unfold Jm;rw[aA (by omega)];unfold J0;rw[aE (by omega),aE (by omega),aE (by omega),aA rfl];exact⟨a,x,rfl,hx⟩
end
def Sw(C:Int):T bZ:=(.loop [.nil,(.i 0)]
 (.ite (.o .lt (.v 4) (.u .len (.v 0)))
 (.aa (.o .le (.i 0) (.v 4)) (.aa (.o .lt (.v 4) (.u .len (.v 0))) (.aa (.o .le (.u .len (.o .app (.v 3) (.o .idx (.v 0) (.v 4)))) (.i C)) (.next 1 [(.o .app (.v 3) (.o .idx (.v 0) (.v 4))),(.o (.add .i64) (.v 4) (.i 1))]))))
 (.ah [(.v 3)])))
def NW(C:Int):T bZ:=
 (.loop [(.i 0),(.i 0)]
 (.ite (.o .lt (.v 2) (.u .len (.v 0)))
 (.aa (.o .le (.i 0) (.v 2)) (.aa (.o .lt (.v 2) (.u .len (.v 0))) (.ite (.o .lt (.o (.add .i64) (.v 1) (.u .len (.o .idx (.v 0) (.v 2)))) (.i 0))
 (.fail "op")
 (.next 0 [(.o (.add .i64) (.v 1) (.u .len (.o .idx (.v 0) (.v 2)))),(.o (.add .i64) (.v 2) (.i 1))]))))
 (.ite (.o .lt (.v 1) (.i 0))
 (.fail "op")
 (.ite (.o .lt (.i 0) (.o (.sub .i64) (.v 1) (.i 0)))
 (.aa (.o .le (.i 0) (.o (.sub .i64) (.v 1) (.i 0))) (.aa (.o .le (.o (.sub .i64) (.v 1) (.i 0)) (.i C)) (Sw C)))
 (Sw C)))))
theorem pZ:kF=NW 5864062014805:=rfl
theorem pY:∃C,kD=NW C/\10000000<C/\C<4611686018427387904:=⟨_,rfl,by decide,by decide⟩
theorem kG:∃C,mY=NW C/\10000000<C/\C<4611686018427387904:=⟨_,rfl,by decide,by decide⟩
theorem iS:∃C,kE=NW C/\10000000<C/\C<4611686018427387904:=⟨_,rfl,by decide,by decide⟩
def cat(xs:ab)(i:Nat):ab:=(xs.take i).flatMap Sc.list
theorem NX{xs:ab}{i:Nat}(h:i<xs.length):cat xs (i+1)=cat xs i++(xs.getD i (.i 0)).list:=by unfold cat;rw[take_add_one,cB h,flatMap_append];simp[cE,h]
theorem WY(xs:ab):∀{i j:Nat},i<=j->(cat xs i).length<=(cat xs j).length:=by
 intro i j h;unfold cat;have:xs.take i=(xs.take j).take i:=by rw[take_take];congr 1;omega
 rw[this];rw[<-Qd i (xs.take j),flatMap_append,Qd,fR];omega
theorem wrap64{z:Int}(h1:DZ<=z)(h2:z<vk):IntKind.i64.wrap z=z:=by have:=rW (ρ:=[]) (a:= .i z) (b:= .i 0) (by rw[Jb,Jb];omega) (by rw[Jb,Jb];omega);rw[Jb,Jb,Int.add_zero]at this;have e:((Ex.o (.add .i64) (.i z) (.i 0)).ev []).int=IntKind.i64.wrap (z+0):=rfl;rw[e,Int.add_zero]at this;exact this
section
variable(Γ:Nat->dK){C:Int}(hC:C<4611686018427387904){xs:ab}(hn:xs.length<=1000)(ht:((cat xs xs.length).length:Int)<=C)
include hC hn ht
theorem UI(a b:Sc)(k0:dK):bW ((Sw C).aF Γ [.l xs,a,b] [k0]) fun r=>r=[.l (cat xs xs.length)]:=by
 unfold Sw;rw[T.aF];refine dv (S:=Unit) (fun i _=>[.l (cat xs i),.i (i:Int)]) (fun _ _=>True) xs.length (s:=()) rfl (by omega) trivial ?_ ?_
 ·intro i _ rec hi _ hr;have h1:=NX hi;have h2:=WY xs (i:=i+1) (j:=xs.length) (by omega);have h3:(IntKind.i64.wrap ((i:Int)+1))=((i+1:Nat):Int):=by rw[wrap64]<;>((try simp only[DZ,vk]);omega)
  have h4:((cat xs i++(xs.getD i (.i 0)).list).length:Int)<=C:=by rw[<-h1];omega
  simp only[h3,h4,aT];rw[aA (by omega),aA (by omega),<-h1];exact hr () trivial
 ·intro s rec _;simp only[aT];simp[bW]
theorem WX:(NW C).aF Γ [.l xs] []=some [.l (cat xs xs.length)]:=by
 suffices h:bW ((NW C).aF Γ [.l xs] []) fun r=>r=[.l (cat xs xs.length)]by
  obtain⟨r,h1,rfl⟩:=h;exact h1
 unfold NW;rw[T.aF];refine dv (S:=Unit) (fun i _=>[.i ((cat xs i).length:Int),.i (i:Int)]) (fun _ _=>True) xs.length (s:=()) rfl (by omega) trivial ?_ ?_
 ·intro i _ rec hi _ hr;have h1:=NX hi;have h2:=WY xs (i:=i+1) (j:=xs.length) (by omega);have h3:(IntKind.i64.wrap ((i:Int)+1))=((i+1:Nat):Int):=by rw[wrap64]<;>((try simp only[DZ,vk]);omega)
  have h4:(IntKind.i64.wrap (((cat xs i).length:Int)+(xs.getD i (.i 0)).list.length))=((cat xs (i+1)).length:Int):=by rw[h1,fR,wrap64]<;>(rw[h1,fR]at h2;(try simp only[DZ,vk]);omega)
  simp only[h3,h4,aT];rw[aA (by omega),aA (by omega),aE (by omega)];exact hr () trivial
 ·intro s rec _;have h5:IntKind.i64.wrap (((cat xs xs.length).length:Int)-0)=((cat xs xs.length).length:Int):=by rw[wrap64]<;>((try simp only[DZ,vk]);omega)
  have:=UI Γ hC hn ht (.i ((cat xs xs.length).length:Int)) (.i (xs.length:Int)) rec;simp only[h5,aT];rw[aE (by omega),aE (by omega)];split
  ·exact this
  ·exact this
end
theorem abB{xs:ab}{m:Nat}(h:∀x∈xs,x.list.length<=m)(i:Nat):(cat xs i).length<=xs.length*m:=by
 have key:∀ys:ab,(∀x∈ys,x.list.length<=m)->(ys.flatMap Sc.list).length<=ys.length*m:=by
  intro ys hy;induction ys with
  |nil=>simp|cons y ys ih=>
   rw[AQ,fR,AM,succ_mul];have:=hy y (by simp);have:=ih fun x hx=>hy x (by simp[hx]);omega
 have:=key (xs.take i) fun x hx=>h x (vS hx);have h2:(xs.take i).length<=xs.length:=by rw[iW];omega
 exact bI this (fu m h2)
theorem abC{xs:ab}{i:Nat}{y:Sc}(h:y∈cat xs i):∃x∈xs,y∈x.list:=by obtain⟨x,hx,hy⟩:=xc.1 h;exact⟨x,vS hx,hy⟩
section
variable{pm:Pm}(hp:dG pm)(N:Nat)
include hp
theorem rM{key:Nat}{C:Int}{t:T bZ}(he:∀l,Gf key l=if l.length=1 then t.aF Gf l []else none)(ht:t=NW C)(h1:10000000<C)(h2:C<4611686018427387904){a:Ty}{o k q m c:Nat}(hq:q<=1000)(hm:q*m<=c)(zM:c<=10000000)(hko:am.tk o≠.no)(hf:am.free o=true)(hc:am.cap o=c)(ha:∀x,has am (II pm) (JJ pm N) a x->∃xs,x= .l xs/\∀y∈xs,II pm k y)(hk:am.tk k≠.no)(hkm:am.cap k<=m)(rQ:∀y,cA am (II pm) (JJ pm N) k y->cA am (II pm) (JJ pm N) o y):
 dQ am (II pm) (JJ pm N) Gf ⟨key,[a],[(.t (.o .le (.u .len (.v 0)) (.i (q:Int))) true)],[(.ae o)],[]⟩:=by
 intro xs hx gk
 match xs,hx with
 |[x],hx=>
  obtain⟨xs,rfl,hy⟩:=ha x hx.1;have hn:xs.length<=q:=by have:=gk (.t (.o .le (.u .len (.v 0)) (.i (q:Int))) true) (by simp);have:((xs.length:Int))<=q:=fv this;omega
  have hT:=cY hp (N:=N);have hyl:∀x∈xs,x.list.length<=m/\∀y∈x.list,cA am (II pm) (JJ pm N) k y:=by intro x hx;obtain⟨ys,rfl,h3,h4⟩:=hT.list k x hk (hy x hx);exact⟨bI h3 hkm,h4⟩
  have hl:(cat xs xs.length).length<=c:=bI (abB (fun x hx=>(hyl x hx).1) _) (bI (fu m hn) hm);refine⟨[.l (cat xs xs.length)],?_,⟨?_,trivial⟩,nofun⟩
  ·rw[he,ht];exact WX Gf h2 (by omega) (by omega)
  ·refine bA (t:= .ae o) (hT.free o _ hf hko (by rw[hc];exact hl) fun y hy=> ?_);obtain⟨x,hx,hy⟩:=abC hy;exact rQ y ((hyl x hx).2 y hy)
theorem Mr{k j:Nat}(hk:am.tk k= .vec (.ae j)):∀x,has am (II pm) (JJ pm N) (.ae k) x->∃xs,x= .l xs/\∀y∈xs,II pm j y:=by intro x hx;obtain⟨xs,rfl,_,h⟩:=(cY hp (N:=N)).list k x (by rw[hk];simp) hx;refine⟨xs,rfl,fun y hy=> ?_⟩;have:=h y hy;unfold cA at this;rw[hk]at this;exact this
theorem YM{k j:Nat}(hk:am.tk k= .vec (.ae j)):∀x,has am (II pm) (JJ pm N) (.aV k) x->∃xs,x= .l xs/\∀y∈xs,II pm j y:=by intro x hx;obtain⟨xs,rfl,h⟩:=hx;refine⟨xs,rfl,fun y hy=> ?_⟩;have:=h y hy;unfold cA at this;rw[hk]at this;exact this
theorem rN{k o:Nat}(h:am.tk k=am.tk o)(hr:am.ma k=am.ma o){y:Sc}(hy:cA am (II pm) (JJ pm N) k y):cA am (II pm) (JJ pm N) o y:=by unfold cA at hy⊢;rw[<-h,<-hr];exact hy
theorem rb:dQ am (II pm) (JJ pm N) Gf ff:=by exact rM hp N tf pZ (by decide) (by decide) (q:=4) (m:=1048576) (c:=4194304) (k:=109) (by decide) (by decide) (by decide) (aj (by decide+kernel)) (by decide+kernel) (by decide+kernel) (Mr hp N (by kernel_rfl)) (aj (by decide+kernel)) (by decide+kernel) (fun y hy=>rN hp N (by kernel_rfl) (by kernel_rfl) hy)
theorem qX:dQ am (II pm) (JJ pm N) Gf jo:=by obtain⟨C,h0,h1,h2⟩:=pY;exact rM hp N te h0 h1 h2 (q:=4) (m:=5000) (c:=4194304) (k:=361) (by decide) (by decide) (by decide) (aj (by decide+kernel)) (by decide+kernel) (by decide+kernel) (Mr hp N (by kernel_rfl)) (aj (by decide+kernel)) (by decide+kernel) (fun y hy=>rN hp N (by kernel_rfl) (by kernel_rfl) hy)
theorem uq:dQ am (II pm) (JJ pm N) Gf lg:=by obtain⟨C,h0,h1,h2⟩:=kG;exact rM hp N ng h0 h1 h2 (q:=4) (m:=1000) (c:=4000) (k:=Y1) (by decide) (by decide) (by decide) (aj (by decide+kernel)) (by decide+kernel) (by decide+kernel) (YM hp N (by kernel_rfl)) (aj (by decide+kernel)) (by decide+kernel) (fun y hy=>rN hp N (by kernel_rfl) (by kernel_rfl) hy)
theorem ur:dQ am (II pm) (JJ pm N) Gf lh:=by obtain⟨C,h0,h1,h2⟩:=kG;exact rM hp N ng h0 h1 h2 (q:=4) (m:=1048576) (c:=4194304) (k:=3) (by decide) (by decide) (by decide) (aj (by decide+kernel)) (by decide+kernel) (by decide+kernel) (Mr hp N (by kernel_rfl)) (aj (by decide+kernel)) (by decide+kernel) (fun y hy=>rN hp N (by kernel_rfl) (by kernel_rfl) hy)
theorem qY:dQ am (II pm) (JJ pm N) Gf jp:=by obtain⟨C,h0,h1,h2⟩:=iS;exact rM hp N kX h0 h1 h2 (q:=2) (m:=5000) (c:=10000) (k:=Y0) (by decide) (by decide) (by decide) (aj (by decide+kernel)) (by decide+kernel) (by decide+kernel) (YM hp N (by kernel_rfl)) (aj (by decide+kernel)) (by decide+kernel) (fun y hy=>rN hp N (by kernel_rfl) (by kernel_rfl) hy)
theorem qZ:dQ am (II pm) (JJ pm N) Gf jr:=by obtain⟨C,h0,h1,h2⟩:=iS;exact rM hp N kX h0 h1 h2 (q:=4) (m:=10000) (c:=4194304) (k:=88) (by decide) (by decide) (by decide) (aj (by decide+kernel)) (by decide+kernel) (by decide+kernel) (Mr hp N (by kernel_rfl)) (aj (by decide+kernel)) (by decide+kernel) (fun y hy=>rN hp N (by kernel_rfl) (by kernel_rfl) hy)
end
theorem PQ(x y:Sc):((U2.ev .eq x y).bool=true)=(x.int=y.int):=propext ⟨fun h=>by
 have h:(x.int==y.int)=true:=h;exact AO.1 h,fun h=>by
 show(x.int==y.int)=true;exact AO.2 h⟩
theorem zF{i:Nat}(h:i<4611686018427387904):IntKind.i64.wrap ((i:Int)+1)=((i+1:Nat):Int):=wrap64 (z:=((i+1:Nat):Int)) (by simp only[DZ];omega) (by simp only[vk];omega)
theorem Tv:∀{xs:ab},(∀y∈xs,∃z,y=Sc.i z)->∃zs:Dk,xs=zs.map Sc.i
 |[],_=>⟨[],rfl⟩|x::xs,h=>by obtain⟨z,rfl⟩:=h x (by simp);obtain⟨zs,rfl⟩:=Tv (xs:=xs) fun y hy=>h y (by simp[hy]);exact⟨z::zs,rfl⟩
theorem gH{xs:ab}{y:Sc}(h:y∈xs):∃i,i<xs.length/\xs.getD i (.i 0)=y:=by obtain⟨i,hi,e⟩:=mem_iff_getElem.1 h;exact⟨i,hi,by rw[cE,cB hi];exact e⟩
theorem Vl(v a:Sc)(hl:v.list.length<=10000000)(hm:∃y∈v.list,y.int=a.int):bW (ji.aF Gf [v,a] []) fun r=>∃n:Nat,r=[.i n]/\n<v.list.length:=by
 unfold ji;rw[T.aF];refine dv (S:=Unit) (fun i _=>[.i (i:Int)]) (fun i _=>∀j,j<i->(v.list.getD j (.i 0)).int≠a.int) v.list.length (s:=()) rfl (by omega) (fun j h=>by omega) ?_ ?_
 ·intro i _ rec hi hI hr;simp only[zF (show i<4611686018427387904 by omega),PQ,aT];rw[aA (by omega),aA (by omega)];split
  ·exact bW.some ⟨i,rfl,hi⟩
  ·rename_i vP;refine hr () fun j hj=> ?_;rcases qe.1 hj with hj|rfl
   ·exact hI j hj
   ·exact fun e=>vP e.symm
 ·intro s rec hI;obtain⟨y,hy,e⟩:=hm;obtain⟨i,hi,rfl⟩:=gH hy;exact absurd e (hI i hi)
theorem XD(v a:Sc)(hl:v.list.length<=10000000)(hm:∃y∈v.list,(y.list.getD 0 (.i 0)).int=a.int):bW (qJ.aF Gf [v,a] []) fun r=>∃n:Nat,r=[.i n]/\n<v.list.length:=by
 unfold qJ;rw[T.aF];refine dv (S:=Unit) (fun i _=>[.i (i:Int)]) (fun i _=>∀j,j<i->((v.list.getD j (.i 0)).list.getD 0 (.i 0)).int≠a.int) v.list.length (s:=()) rfl (by omega) (fun j h=>by omega) ?_ ?_
 ·intro i _ rec hi hI hr;simp only[zF (show i<4611686018427387904 by omega),PQ,aT];rw[aA (by omega),aA (by omega)];split
  ·exact bW.some ⟨i,rfl,hi⟩
  ·rename_i vP;refine hr () fun j hj=> ?_;rcases qe.1 hj with hj|rfl
   ·exact hI j hj
   ·exact fun e=>vP e
 ·intro s rec hI;obtain⟨y,hy,e⟩:=hm;obtain⟨i,hi,rfl⟩:=gH hy;exact absurd e (hI i hi)
section
variable{pm:Pm}(hp:dG pm)(N:Nat)
include hp
theorem vd:dQ am (II pm) (JJ pm N) Gf dt:=by
 intro xs hx gk
 match xs,hx with
 |[v,a],hx=>
  have hT:=cY hp (N:=N);obtain⟨ys,rfl,h1,_⟩:=hT.list _ v (aj (by decide+kernel)) hx.1;have hm:=hT.Vy a (.l ys) (gk (.rel 100 [(.v 1),(.v 0)]) (by simp[dt]));obtain⟨r,hr,n,rfl,hn⟩:=Vl (.l ys) a (bI h1 (by decide+kernel)) hm;refine⟨[.i n],by rw[show dt.key=297 from rfl,xH];exact hr,⟨⟨n,rfl⟩,trivial⟩,?_⟩;intro f hf;simp only[dt,bX,nV,AR]at hf;rcases hf with rfl|rfl
  ·exact lP (show(n:Int)<ys.length by have:n<ys.length:=hn;omega)
  ·exact lP (show(0:Int)<=n by omega)
theorem DD:dQ am (II pm) (JJ pm N) Gf gD:=by
 intro xs hx gk
 match xs,hx with
 |[v,a],hx=>
  have hT:=cY hp (N:=N);obtain⟨ys,rfl,h1,_⟩:=hT.list _ v (aj (by decide+kernel)) hx.1;have hm:J0 pm 101 [a,.l ys]:=by have:=gk (.rel 101 [(.v 1),(.v 0)]) (by simp[gD]);exact this
  have hm:∃y∈(Sc.l ys).list,(y.list.getD 0 (.i 0)).int=a.int:=by
   unfold J0 at hm;rw[aE (by decide),aE (by decide),aE (by decide),aA rfl]at hm;obtain⟨a',x',e,h⟩:=hm;cases e
   exact h
  obtain⟨r,hr,n,rfl,hn⟩:=XD (.l ys) a (bI h1 (by decide+kernel)) hm;refine⟨[.i n],by rw[show gD.key=139 from rfl,He];exact hr,⟨⟨n,rfl⟩,trivial⟩,?_⟩;intro f hf;simp only[gD,bX,nV,AR]at hf;rcases hf with rfl|rfl
  ·exact lP (show(n:Int)<ys.length by have:n<ys.length:=hn;omega)
  ·exact lP (show(0:Int)<=n by omega)
end
theorem sW(lo hi:Int)(xs:Dk)(hl:xs.length<=10000000):Ux (Gf 286 [.i lo,.i hi,.l (xs.map .i)]) (∀x∈xs,lo<=x/\x<=hi):=by
 rw[JD];show Ux (sU.aF Gf [.i lo,.i hi,.l (xs.map .i)] []) _;unfold sU;rw[T.aF];refine Zg (S:=Unit) (fun i _=>[.i (i:Int)]) (fun i _=>Lx (fun x=>lo<=x/\x<=hi) xs i) xs.length (s:=()) rfl (by omega) Lx.zero ?_ ?_
 ·intro i _ rec EO hI hr;obtain⟨x,hx⟩:∃x,xs[i]? =some x:=⟨_,cB EO⟩;have hd:(xs.map Sc.i).getD i (.i 0)= .i x:=ah9 hx _;simp only[zF (show i<4611686018427387904 by omega),hd,aT];rw[aA (by omega),aA (by omega)];split
  ·exact Ux.no
  ·split
   ·exact Ux.no
   ·exact hr () (hI.succ hx ⟨by omega,by omega⟩)
 ·intro s rec hI;simp only[aT];rw[aE (by omega)];exact Ux.yes fun _=>hI.all
section
variable{pm:Pm}(hp:dG pm)(N:Nat)
include hp
theorem HY{x:Sc}(h:has am (II pm) (JJ pm N) (.aV 3) x):∃zs:Dk,x= .l (zs.map Sc.i):=by
 obtain⟨xs,rfl,h⟩:=h;obtain⟨zs,rfl⟩:=Tv (xs:=xs) fun y hy=>by have:=h y hy;unfold cA at this;rw[show am.tk 3= .vec .int by kernel_rfl]at this;exact this
 exact⟨zs,rfl⟩
end
theorem vn{o:Option ab}{n:Nat}{k:dK}{rs:ab}(h:(match o with|some r=>if r.length=n then k r else none|none=>none)=some rs):∃r,o=some r/\r.length=n/\k r=some rs:=by
 cases o with
 |none=>cases h
 |some r=>
  by_cases hl:r.length=n
  ·exact⟨r,rfl,hl,by simpa[hl]using h⟩
  ·exact absurd h (by simp[hl])
theorem pT{c:Prop}[Decidable c]{a:Option ab}{rs:ab}(h:(if c then a else none)=some rs):c/\a=some rs:=by
 by_cases hc:c
 ·exact⟨hc,by rwa [aA hc]at h⟩
 ·rw[aE hc]at h;cases h
theorem jI{c:Prop}[Decidable c]{a b:Option ab}{rs:ab}(h:(if c then a else b)=some rs):c/\a=some rs\/¬c/\b=some rs:=by
 by_cases hc:c
 ·exact .inl ⟨hc,by rwa [aA hc]at h⟩
 ·exact .inr ⟨hc,by rwa [aE hc]at h⟩
theorem tJ{a rs:ab}{n:Nat}{P:Prop}(h:some a=some rs)(ha:(a.getD n (.i 0)).int≠0):(rs.getD n (.i 0)).int=0->P:=by
 cases h
 exact fun e=>absurd e ha
section
variable{pm:Pm}(hp:dG pm)(N:Nat)
include hp
theorem ahY{x0 x1 x2 x3 x4 x5 x6 x7 x8 x9 kI lu lx nO nS:Sc}{z:Int}{R V rs:ab}(hR:pm.rv= .l R)(h:sV.aF Gf [x0,x1,x2,x3,x4,x5,x6,x7,x8,x9,kI,lu,lx,.l R,.i z,.l V,nO,nS] []=some rs):(rs.getD 7 (.i 0)).int=0->∃n:Nat,z=n/\n<R.length/\rs.getD 1 (.i 0)= .i z/\∃L,rs.getD 3 (.i 0)= .l L/\pm.FL z=some L.length:=by
 unfold sV at h
 simp only[aT]at h
 obtain⟨r1,g1,l1,h⟩:=vn h
 rcases jI h with⟨_,h⟩|⟨_,h⟩
 ·exact tJ h (by decide)
 obtain⟨hz,h⟩:=pT h
 obtain⟨nQ,h⟩:=pT h
 rcases jI h with⟨_,h⟩|⟨_,h⟩
 ·exact tJ h (by decide)
 rcases jI h with⟨_,h⟩|⟨_,h⟩
 ·exact tJ h (by decide)
 rcases jI h with⟨_,h⟩|⟨_,h⟩
 ·exact tJ h (by decide)
 rcases jI h with⟨_,h⟩|⟨_,h⟩
 ·exact tJ h (by decide)
 obtain⟨r2,g2,l2,h⟩:=vn h
 rcases jI h with⟨_,h⟩|⟨_,h⟩
 ·exact tJ h (by decide)
 obtain⟨r3,g3,l3,h⟩:=vn h
 rcases jI h with⟨_,h⟩|⟨_,h⟩
 ·exact tJ h (by decide)
 obtain⟨r4,g4,l4,h⟩:=vn h
 rcases jI h with⟨_,h⟩|⟨_,h⟩
 ·exact tJ h (by decide)
 obtain⟨_,h⟩:=pT h
 obtain⟨_,h⟩:=pT h
 obtain⟨_,h⟩:=pT h
 obtain rfl:=xX h
 intro _
 obtain⟨n,rfl⟩:∃n:Nat,z=n:=⟨z.toNat,by omega⟩
 obtain⟨m,hm1,hm2⟩:=hp.rvs n (by rw[hR];show n<R.length;omega)
 rw[hR]at hm1
 refine⟨n,rfl,by omega,rfl,_,rfl,?_⟩
 rw[hm2]
 have hm1:((R.getD n (.i 0)).list.getD 2 (.i 0)).int=m:=hm1
 have hr:U2.Bp.ev (Sc.i 0) ((R.getD ((n:Int)).toNat (Sc.i 0)).list.getD 2 (Sc.i 0))= .l (replicate m (.i 0)):=by rw[om];show Sc.l (replicate ((R.getD n (.i 0)).list.getD 2 (.i 0)).int.toNat (.i 0))=_;rw[hm1,om]
 rw[hr]
 rw[show(Sc.l (replicate m (Sc.i 0))).list=replicate m (Sc.i 0)from rfl,Ny,Zv,R3,R3]
 simp only[Ic,fR,tc,iW,Ny]
 congr 1
 split<;>omega
theorem Fu(hs:dQ am (II pm) (JJ pm N) Gf sO):dQ am (II pm) (JJ pm N) Gf kQ:=by
 intro xs hx gk;have hT:=cY hp (N:=N)
 match xs,hx with
 |[x0,x1,x2,x3,x4,x5,x6,x7,x8,x9,kI,lu,lx,m6,ob,oc,nO,nS],hx=>
  obtain⟨h0,h1,h2,h3,h4,h5,h6,h7,h8,h9,Mi,Oq,P3,Ji,⟨z,rfl⟩,QN,Ot,SS,_⟩:=hx;have hl:∀{k:Nat}{x:Sc},cT am k=true->has am (II pm) (JJ pm N) (.ae k) x->has am (II pm) (JJ pm N) (.aV k) x:=fun hk h=>by obtain⟨ys,rfl,_,e⟩:=hT.list _ _ (aj hk) h;exact⟨ys,rfl,e⟩
  have hv:JJ pm N 6 [m6]:=gk (.rel 6 [(.v 13)]) (by simp[kQ]);have hv:m6=pm.rv:=by have hv:Jm _ _ _ 6 _:=hv;unfold Jm at hv;rw[aA (by decide)]at hv;unfold J0 at hv;rw[aE (by decide),aE (by decide),aE (by decide),aE (by decide)]at hv;exact(GF hv).1
  obtain⟨rs,e,hr,_⟩:=hs [x0,x1,x2,x3,x4,x5,x6,x7,x8,x9,kI,lu,lx,m6,.i z,oc,nO,nS] ⟨h0,hl (by decide+kernel) h1,hl (by decide+kernel) h2,hl (by decide+kernel) h3,hl (by decide+kernel) h4,hl (by decide+kernel) h5,hl (by decide+kernel) h6,hl (by decide+kernel) h7,hl (by decide+kernel) h8,hl (by decide+kernel) h9,hl (by decide+kernel) Mi,hl (by decide+kernel) Oq,hl (by decide+kernel) P3,hT.sup gq (.ae 130) m6 (by decide+kernel) Ji,⟨z,rfl⟩,hl (by decide+kernel) QN,Ot,SS,trivial⟩ (nofun);obtain⟨R,rfl,_,_⟩:=hT.list _ _ (aj (by decide+kernel)) Ji;obtain⟨V,rfl,_,_⟩:=hT.list _ _ (aj (by decide+kernel)) QN;have e':=e;rw[show sO.key=229 from rfl,JF]at e';have inv:=ahY hp (z:=z) (R:=R) (V:=V) (rs:=rs) hv.symm e';refine⟨rs,e,hr,?_⟩
  match rs,hr with
  |[r0,r1,r2,r3,r4,r5,r6,r7],hr=>
   intro f hf;simp only[kQ,bX,nV,AR]at hf;have key:(r7.int=0)->has am (II pm) (JJ pm N) (.ae og) (.i z)/\r1= .i z/\JJ pm N 0 [r1,r3]:=fun h=>by obtain⟨n,rfl,hn,e1,L,e3,e4⟩:=inv h;have e1:r1= .i (n:Int):=e1;have e3:r3= .l L:=e3;refine⟨bA (t:= .ae og) ((m9 (oK sC.2.1)).2 ⟨n,rfl,hp.Vs _ hp.rvl n (by rw[<-hv];exact hn)⟩),e1,?_⟩;show Jm _ _ _ 0 _;unfold Jm;rw[aA (by decide)];unfold J0;rw[aA rfl];exact⟨r1,r3,L.length,rfl,by rw[e1];exact e4,by rw[e3];rfl⟩
   rcases hf with rfl|rfl|rfl;all_goals
    intro e2
    have e2:r7.int=0:=vK.1 e2
   ·exact(key e2).1
   ·have:=(key e2).2.1;show has am (II pm) (JJ pm N) (.ae og) r1;rw[this];exact(key e2).1
   ·exact(key e2).2.2
end
theorem af{tb:Tb}{I:Nat->Sc->Prop}{J:Nat->ab->Prop}{t:Ty}{ts:List Ty}{xs:ab}(h:cR tb I J (t::ts) xs):∃x r,xs=x::r/\has tb I J t x/\cR tb I J ts r:=by
 cases xs with|nil=>exact h.elim|cons x r=>exact⟨x,r,rfl,h.1,h.2⟩
theorem dI{tb:Tb}{I:Nat->Sc->Prop}{J:Nat->ab->Prop}{xs:ab}(h:cR tb I J [] xs):xs=[]:=by
 cases xs with|nil=>rfl|cons x r=>exact h.elim
section
variable{pm:Pm}(hp:dG pm)(N:Nat)
include hp
theorem anP{x:Sc}(h:JJ pm N 6 [x]):x=pm.rv:=by have hv:Jm _ _ _ 6 _:=h;unfold Jm at hv;rw[aA (by decide)]at hv;unfold J0 at hv;rw[aE (by decide),aE (by decide),aE (by decide),aE (by decide)]at hv;exact(GF hv).1
theorem aig{x y:Sc}(h:JJ pm N 0 [x,y]):pm.FL x.int=some y.list.length:=by
 have hv:Jm _ _ _ 0 _:=h;unfold Jm at hv;rw[aA (by decide)]at hv;unfold J0 at hv;rw[aA rfl]at hv;obtain⟨a,x',m,e,h1,h2⟩:=hv;cases e
 rw[h1,h2]
theorem ahT{x y:Sc}(h:pm.FL x.int=some y.list.length):JJ pm N 0 [x,y]:=by show Jm _ _ _ 0 _;unfold Jm;rw[aA (by decide)];unfold J0;rw[aA rfl];exact⟨x,y,_,rfl,h,rfl⟩
theorem ZB{P:ab}(h:II pm gG (.l P)){n:Nat}(hn:n<P.length):∃(a0 r a2 a4 a5 a6:Int)(c3:Sc),P.getD n (.i 0)= .l [.i a0,.i r,.i a2,c3,.i a4,.i a5,.i a6]/\pm.ix og r/\II pm 3 c3/\pm.FL r=some c3.list.length:=by
 obtain⟨xs,e,_,h1⟩:=(cY hp (N:=0)).list _ _ (aj (show cT am gG=true by decide+kernel)) h;cases e
 have:=h1 _ (bh hn);unfold cA at this;rw[show am.tk gG= .row [.int,.ae og,.int,.ae 3,.int,.int,.int]by kernel_rfl]at this;obtain⟨⟨c,e,hc⟩,hr⟩:=this
 match c,hc with
 |[x0,x1,x2,x3,x4,x5,x6],hc=>
  obtain⟨⟨a0,rfl⟩,h1,⟨a2,rfl⟩,h3,⟨a4,rfl⟩,⟨a5,rfl⟩,⟨a6,rfl⟩,_⟩:=hc;obtain⟨r,rfl,Jo⟩:=(m9 (oK sC.2.1)).1 h1;have hj:=hr (0,[1,3]) (by decide+kernel);rw[e]at hj;exact⟨a0,r,a2,a4,a5,a6,x3,e,Jo,h3,aig hp 0 hj⟩
theorem ZS{R:ab}(h:II pm gq (.l R)){n:Nat}(hn:n<R.length):∃(x0:Sc)(p s:Int)(code:ab),R.getD n (.i 0)= .l [x0,.i p,.i s,.l code]/\code.length<=1048576/\∀q,q<code.length->∃(o x y:Int)(c:ab),code.getD q (.i 0)= .l (.i o:: .i x:: .i y::c):=by
 have hT:=cY hp (N:=0);obtain⟨xs,e,_,h1⟩:=hT.list _ _ (aj sC.2.2.2) h;cases e
 have:=h1 _ (bh hn);unfold cA at this;rw[show am.tk gq= .row [.str 4294967296,.int,.int,.ae 173]by kernel_rfl]at this;obtain⟨⟨c,e,hc⟩,_⟩:=this
 match c,hc with
 |[x0,x1,x2,x3],hc=>
  obtain⟨_,⟨p,rfl⟩,⟨s,rfl⟩,h3,_⟩:=hc;obtain⟨code,rfl,hl,hc⟩:=hT.list _ _ (aj (show cT am 173=true by decide+kernel)) h3;refine⟨x0,p,s,code,e,bI hl (by decide+kernel),fun q hq=> ?_⟩;have:=hc _ (bh hq);unfold cA at this;have ht:am.tk 173= .row (.int:: .int:: .int::[.int,.int,.str 4294967296,.int,.ae 100,.int,.str 4294967296,.int,.ae 100,.ae 100,.int,.int,.int,.int,.ae 3,.ae 3,.bool]):=by kernel_rfl
  rw[ht]at this;obtain⟨⟨c,e,hc⟩,_⟩:=this
  match c,hc with
  |y0::y1::y2::c,hc=>
   obtain⟨⟨o,rfl⟩,⟨x,rfl⟩,⟨y,rfl⟩,_⟩:=hc;exact⟨o,x,y,c,e⟩
theorem xL(h1:dQ am (II pm) (JJ pm N) Gf qI)(h2:dQ am (II pm) (JJ pm N) Gf gW)(h3:dQ am (II pm) (JJ pm N) Gf nA):dQ am (II pm) (JJ pm N) Gf cX:=by
 intro xs hx gk;have hT:=cY hp (N:=N)
 ·rw[show cX.args=[.str 4294967296,.ae gq,.ae H5,.int,.int,.ae gG,.int,.int,.int,.int,.int,.int,.int,.int,.bool,.int,.int]from rfl]at hx;obtain⟨x0,xs,rfl,q0,hx⟩:=af hx;obtain⟨x1,xs,rfl,q1,hx⟩:=af hx;obtain⟨x2,xs,rfl,q2,hx⟩:=af hx;obtain⟨x3,xs,rfl,q3,hx⟩:=af hx;obtain⟨x4,xs,rfl,q4,hx⟩:=af hx;obtain⟨x5,xs,rfl,q5,hx⟩:=af hx;obtain⟨x6,xs,rfl,q6,hx⟩:=af hx;obtain⟨x7,xs,rfl,q7,hx⟩:=af hx;obtain⟨x8,xs,rfl,q8,hx⟩:=af hx;obtain⟨x9,xs,rfl,q9,hx⟩:=af hx;obtain⟨kI,xs,rfl,K7,hx⟩:=af hx;obtain⟨lu,xs,rfl,ZK,hx⟩:=af hx;obtain⟨lx,xs,rfl,q12,hx⟩:=af hx;obtain⟨m6,xs,rfl,q13,hx⟩:=af hx;obtain⟨ob,xs,rfl,q14,hx⟩:=af hx;obtain⟨oc,xs,rfl,q15,hx⟩:=af hx;obtain⟨nO,xs,rfl,q16,hx⟩:=af hx;obtain rfl:=dI hx;obtain⟨z15,rfl⟩:=q15;obtain⟨z16,rfl⟩:=q16;have Ws:II pm gq x1:=q1;have hx5:II pm gG x5:=q5;have hv:x1=pm.rv:=anP hp N (gk (.rel 6 [(.v 1)]) (by simp[cX]));obtain⟨R,rfl,_,_⟩:=hT.list _ _ (aj sC.2.2.2) Ws;obtain⟨P,rfl,hPl,hPe⟩:=hT.list _ _ (aj (show cT am gG=true by decide+kernel)) hx5;have amD:has am (II pm) (JJ pm N) (.aV gG) (.l P):=⟨P,rfl,hPe⟩;obtain⟨rs,g1,r1,lt1⟩:=h1 [.l P,.i z15] ⟨bA (t:= .ae 223) (hT.sup gG (.ae 223) _ (by decide+kernel) hx5),⟨z15,rfl⟩,trivial⟩ (nofun)
  match rs,r1 with
  |[r],r1=>
   obtain⟨k,rfl⟩:=r1.1;have hk:k<P.length:=fv (lt1 (.t (.o .lt (.v 2) (.u .len (.v 0))) true) (by simp[qI]));suffices h:bW (gR.aF Gf [x0,.l R,x2,x3,x4,.l P,x6,x7,x8,x9,kI,lu,lx,m6,ob,.i z15,.i z16] []) fun rs=>∃V,rs=[.l V]/\has am (II pm) (JJ pm N) (.aV gG) (.l V)/\V.length<=P.length by obtain⟨_,g,V,rfl,h4,h5⟩:=h;refine⟨[.l V],by rw[show cX.key=428 from rfl,Af];exact g,⟨h4,trivial⟩,?_⟩;intro f hf;simp only[cX,bX,nV,AR]at hf;subst hf;show(Sc.l V).list.length<=(Sc.l P).list.length+0;exact h5
   have g1:Gf 139 [.l P,.i z15]=some [.i k]:=g1;have done:bW (some [Sc.l P]) fun rs=>∃V,rs=[.l V]/\has am (II pm) (JJ pm N) (.aV gG) (.l V)/\V.length<=P.length:=bW.some ⟨P,rfl,amD,aX _⟩;by_cases hk0:k<0
   ·unfold gR;simp only[g1,aT,Nat.reduceAdd];rw[aA hk0];exact done
   obtain⟨n,rfl⟩:∃n:Nat,k=n:=⟨k.toNat,by omega⟩;have hn:n<P.length:=by omega
   obtain⟨a0,r,a2,a4,a5,a6,c3',eP,hr,Jj,hs⟩:=ZB hp hx5 hn;obtain⟨L,hL,hrL⟩:=hp.inr (og,gq) (by decide+kernel);have hL2:pm.len gq=some L:=hL;rw[hp.rvl]at hL2;obtain⟨ρ,rfl,hρ⟩:=hrL r hr;have hρ:ρ<R.length:=by
    have:pm.rv.list.length=L:=by injection hL2
    rw[<-hv]at this;have:R.length=L:=this;omega
   obtain⟨y0,p,s,code,eR,fm,X0⟩:=ZS hp Ws hρ;unfold gR;simp only[g1,eP,eR,aT,Nat.reduceAdd];rw[aE hk0,aA (by omega),aA (by omega)];by_cases c1:a2<1
   ·rw[aA c1];exact done
   rw[aE c1];by_cases c2:(code.length:Int)<a2
   ·rw[aA c2];exact done
   rw[aE c2];obtain⟨q,rfl⟩:∃q:Nat,a2=((q+1:Nat):Int):=⟨a2.toNat-1,by omega⟩;have wq:IntKind.i64.wrap (((q+1:Nat):Int)-1)=(q:Int):=by rw[show((q+1:Nat):Int)-1=(q:Int)by omega];exact wrap64 (by simp only[DZ];omega) (by simp only[vk];omega)
   obtain⟨o,ax,ay,cr,eI⟩:=X0 q (by omega);simp only[wq,eI,om,Ic,LD,Qe];rw[aA (by omega),aA (by omega)];by_cases c3:o=10
   ·subst c3;rw[aE (show ¬(U2.ne.ev (Sc.i 10) (Sc.i 10)).bool=true by decide)];have hy:code.getD q (.i 0)∈code:=bh (by omega);have hd:=hp.hand ρ (by rw[<-hv];exact hρ) (code.getD q (.i 0)) (by rw[<-hv];show _∈((R.getD ρ (.i 0)).list.getD 3 (.i 0)).list;rw[eR];exact hy) (by rw[eI];rfl) _ hs;rw[eI]at hd;have hd:0<=ay/\ay<c3'.list.length:=hd;obtain⟨RC,g2,r2,po2⟩:=h2 [c3'] ⟨bA (t:= .ae 3) Jj,trivial⟩ (nofun);obtain⟨v,rr,rfl,r2',rn⟩:=af (show cR am (II pm) (JJ pm N) [.ae 3] RC from r2);obtain rfl:=dI rn;have el:((v.list.length:Int))=c3'.list.length:=vK.1 (po2 (.t (.o .eq (.u .len (.v 1)) (.u .len (.v 0))) true) (by simp[gW]));have g2:Gf 115 [c3']=some [v]:=g2;rw[g2];obtain⟨vs,rfl,_,_⟩:=hT.list 3 v (aj (show cT am 3=true by decide+kernel)) r2';have el:(vs.length:Int)=c3'.list.length:=el;have hu:II pm 3 (.l (vs.set ay.toNat (.i z16))):=hT.mu 3 vs ay.toNat (.i z16) (aj (show cT am 3=true by decide+kernel)) r2' (by unfold cA;rw[show am.tk 3= .vec .int by kernel_rfl];exact⟨z16,rfl⟩)
    obtain⟨rs3,g3,r3,po3⟩:=h3 [.l P,.i a0,.i (ρ:Int),.i ((q+1:Nat):Int),.l (vs.set ay.toNat (.i z16)),.i a4,.i a5,.i a6]
     ⟨bA (t:= .ae gG) hx5,⟨_,rfl⟩,bA (t:= .ae og) ((m9 (oK sC.2.1)).2 ⟨_,rfl,hr⟩),⟨_,rfl⟩,bA (t:= .ae 3) hu,⟨_,rfl⟩,⟨_,rfl⟩,⟨_,rfl⟩,trivial⟩ (by
       intro f hf;simp only[nA,bX,nV,AR]at hf;rcases hf with rfl|rfl
       ·refine ahT hp N (x:= .i (ρ:Int)) (y:= .l (vs.set ay.toNat (.i z16))) ?_;show pm.FL (ρ:Int)=some (vs.set ay.toNat (.i z16)).length;rw[hs,BO];congr 1;omega
       ·exact hT.id (.i a0) (.l P) ⟨P.getD n (.i 0),bh hn,by rw[eP];rfl⟩)
    obtain⟨w,rr,rfl,r3',rn⟩:=af (show cR am (II pm) (JJ pm N) [.ae gG] rs3 from r3);obtain rfl:=dI rn;obtain⟨W,rfl,_,hW⟩:=hT.list _ _ (aj (show cT am gG=true by decide+kernel)) (show II pm gG w from r3');have g3:Gf 230 [.l P,.i a0,.i (ρ:Int),.i ((q+1:Nat):Int),.l (vs.set ay.toNat (.i z16)),.i a4,.i a5,.i a6]=some [.l W]:=g3;have pl:=po3 (.grow (.v 8) (.v 0) 0) (by simp[nA]);have pl:W.length<=P.length:=pl;simp only[LD,E3,Ic,g3];rw[aA (show[Sc.l vs].length=1 from rfl),aA (by omega),aA (by omega),aA (by rw[anq];exact lP hd.1),aA (by rw[anr];exact lP (by omega)),aA (show[Sc.l W].length=1 from rfl)];exact bW.some ⟨W,rfl,⟨W,rfl,hW⟩,pl⟩
   ·rw[aA (show(U2.ne.ev (Sc.i o) (Sc.i 10)).bool=true by rw[anu];exact lP c3)];exact done
end
section
variable{α:Type}(le:α->α->Bool)
structure Pre:Prop where
 total:∀x y,le x y=true\/le y x=true
 trans:∀x y z,le x y=true->le y z=true->le x z=true
def cls(z x:α):Bool:=le x z&&le z x
def lI(xs ys:List α):Prop:=∀z,xs.filter (cls le z)=ys.filter (cls le z)
abbrev od(xs:List α):Prop:=xs.Pairwise fun x y=>le x y=true
variable{le}
theorem lI.rfl{xs:List α}:lI le xs xs:=fun _=>Eq.refl _
theorem lI.symm{xs ys:List α}(h:lI le xs ys):lI le ys xs:=fun z=>(h z).symm
theorem lI.trans{xs ys zs:List α}(h:lI le xs ys)(g:lI le ys zs):lI le xs zs:=fun z=>(h z).trans (g z)
theorem lI.app{a b c d:List α}(h:lI le a b)(g:lI le c d):lI le (a++c) (b++d):=fun z=>by rw[filter_append,filter_append,h z,g z]
variable(hp:Pre le)
include hp
theorem Pre.refl(x:α):le x x=true:=by rcases hp.total x x with h|h<;>exact h
theorem N1(x:α):cls le x x=true:=by unfold cls;rw[hp.refl x];rfl
theorem lI.mem{xs ys:List α}(h:lI le xs ys){x:α}(hx:x∈xs):x∈ys:=by have:x∈xs.filter (cls le x):=mem_filter.2 ⟨hx,N1 hp x⟩;rw[h x]at this;exact(mem_filter.1 this).1
theorem lI.swap{U V:List α}(h:∀u∈U,∀v∈V,le u v=false):lI le (U++V) (V++U):=by
 intro z;rw[filter_append,filter_append];by_cases hu:U.filter (cls le z)=[]
 ·rw[hu,rU,uP]
 ·obtain⟨u,hu⟩:=exists_mem_of_ne_nil _ hu;obtain⟨hu1,Tq⟩:=mem_filter.1 hu;have:V.filter (cls le z)=[]:=by rw[filter_eq_nil_iff];intro v hv hc;unfold cls at Tq hc;rw[aL]at Tq hc;have:=hp.trans u z v Tq.1 hc.2;rw[h u hu1 v hv]at this;cases this
  rw[this,rU,uP]
theorem ang{x y:α}(h:le x y=false):le y x=true:=by
 rcases hp.total x y with g|g
 ·rw[h]at g;cases g
 ·exact g
theorem lI.uniq:∀{xs ys:List α},od le xs->od le ys->lI le xs ys->xs=ys
 |[],ys,_,_,h=>by
  cases ys with|nil=>rfl|cons y ys=>exact absurd (lI.mem hp h.symm (x:=y) (by simp)) (by simp)
 |x::xs,[],_,_,h=>absurd (lI.mem hp h (x:=x) (by simp)) (by simp)|x::xs,y::ys,h1,h2,h=>by
  have a1:=pairwise_cons.1 h1;have a2:=pairwise_cons.1 h2;have hyx:le y x=true:=by
   rcases bX.1 (lI.mem hp h (x:=x) (by simp))with e|e
   ·rw[e];exact hp.refl y
   ·exact a2.1 x e
  have hxy:le x y=true:=by
   rcases bX.1 (lI.mem hp h.symm (x:=y) (by simp))with e|e
   ·rw[e];exact hp.refl x
   ·exact a1.1 y e
  have hx:=h x;rw[GE (N1 hp x),GE (show cls le x y=true by unfold cls;rw[hyx,hxy];rfl)]at hx;have e:x=y:=(GF hx).1;subst e;rw[lI.uniq a1.2 a2.2 fun z=>by
   have hz:=h z;by_cases c:cls le z x=true
   ·rw[GE c,GE c]at hz;exact(GF hz).2
   ·rw[filter_cons_of_neg c,filter_cons_of_neg c]at hz;exact hz]
theorem MM{xs T R:List α}(p:α->Bool)(hT:od le T)(hs:lI le xs T)(hR:od le R)(hr:lI le (xs.filter p) R):R=T.filter p:=by refine(lI.uniq hp (hT.filter p) hR fun z=> ?_).symm;rw[<-hr z,filter_filter,filter_filter];have:=congrArg (filter p) (hs z);rw[filter_filter,filter_filter]at this;simp only[Bool.and_comm]at this⊢;exact this.symm
theorem Xd{U1 U2 V1 V2 W1 W2:List α}(hU:od le (U1++U2))(hV:od le (V1++V2))(h1:∀u∈U2,∀v∈V1,le u v=false)(h2:∀u∈U1,∀v∈V2,le u v=true)(s1:lI le (U1++V1) W1)(s2:lI le (U2++V2) W2)(i1:od le W1)(i2:od le W2):lI le ((U1++U2)++(V1++V2)) (W1++W2)/\od le (W1++W2):=by
 constructor
 ·have e:(U1++U2)++(V1++V2)=U1++((U2++V1)++V2):=by simp
  have e2:U1++((V1++U2)++V2)=(U1++V1)++(U2++V2):=by simp
  rw[e];have:=(lI.rfl (le:=le) (xs:=U1)).app ((lI.swap hp h1).app (lI.rfl (le:=le) (xs:=V2)));rw[e2]at this;exact this.trans (s1.app s2)
 ·refine nU.2 ⟨i1,i2,fun x hx y hy=> ?_⟩;rcases ic.1 (lI.mem hp s1.symm hx)with hx|hx<;>rcases ic.1 (lI.mem hp s2.symm hy)with hy|hy
  ·exact(nU.1 hU).2.2 x hx y hy
  ·exact h2 x hx y hy
  ·exact ang hp (h1 y hy x hx)
  ·exact(nU.1 hV).2.2 x hx y hy
theorem anB{u:α}{V1 V2:List α}(hV:od le (V1++V2))(h1:∀v∈V1,le u v=false)(h2:∀v∈V2,le u v=true):lI le ([u]++(V1++V2)) (V1++[u]++V2)/\od le (V1++[u]++V2):=by
 have:=Xd hp (U1:=[]) (U2:=[u]) (V1:=V1) (V2:=V2) (W1:=V1) (W2:=[u]++V2) (by simp) hV (fun x hx v hv=>by rw[cw.1 hx];exact h1 v hv) (nofun) lI.rfl lI.rfl (nU.1 hV).1
  (pairwise_cons.2 ⟨h2,(nU.1 hV).2.1⟩)
 simpa using this
theorem anC{v:α}{U1 U2:List α}(hU:od le (U1++U2))(h1:∀u∈U2,le u v=false)(h2:∀u∈U1,le u v=true):lI le ((U1++U2)++[v]) (U1++[v]++U2)/\od le (U1++[v]++U2):=by have i1:od le (U1++[v]):=nU.2 ⟨(nU.1 hU).1,by simp,fun x hx y hy=>by rw[cw.1 hy];exact h2 x hx⟩;have:=Xd hp (U1:=U1) (U2:=U2) (V1:=[v]) (V2:=[]) (W1:=U1++[v]) (W2:=U2) hU (by simp) (fun u hu x hx=>by rw[cw.1 hx];exact h1 u hu) (nofun) lI.rfl (by simpa using lI.rfl) i1 (nU.1 hU).2.1;simpa using this
end
section
variable{α:Type}
def dA(xs:List α)(a b:Nat):List α:=(xs.drop a).take (b-a)
theorem fa{xs:List α}{a b:Nat}(h:b<=xs.length)(hab:a<=b):(dA xs a b).length=b-a:=by unfold dA;rw[iW,tc];omega
theorem Uc{xs:List α}{a b i:Nat}(d:α)(h:i<b-a):(dA xs a b).getD i d=xs.getD (a+i) d:=by unfold dA;rw[cE,cE,getElem?_take_of_lt h,BR]
theorem gM{xs:List α}{a m b:Nat}(h1:a<=m)(h2:m<=b):dA xs a b=dA xs a m++dA xs m b:=by unfold dA;rw[show b-a=(m-a)+(b-m)by omega,take_add,drop_drop,show a+(m-a)=m by omega]
theorem Ub{xs:List α}{a b:Nat}(h:a<=b):xs=xs.take a++dA xs a b++xs.drop b:=by
 unfold dA;rw[eh]
 conv=>lhs;rw[<-Qd a xs]
 congr 1
 conv=>lhs;rw[<-Qd (b-a) (xs.drop a)]
 rw[drop_drop,show a+(b-a)=b by omega]
theorem Gs{xs:List α}{a:Nat}:dA xs a a=[]:=by unfold dA;simp
theorem M6{xs:List α}{a:Nat}(d:α)(h:a<xs.length):dA xs a (a+1)=[xs.getD a d]:=by unfold dA;rw[show a+1-a=1 by omega,take_one,head?_drop,cE,cB h];rfl
theorem tV{xs:List α}{a b:Nat}{y:α}(d:α)(h:y∈dA xs a b):∃i,a<=i/\i<b/\i<xs.length/\xs.getD i d=y:=by
 obtain⟨i,hi,e⟩:=mem_iff_getElem.1 h;have hl:i<(b-a)/\a+i<xs.length:=by unfold dA at hi;rw[iW,tc]at hi;omega
 refine⟨a+i,by omega,by omega,hl.2,?_⟩;rw[<-Uc d hl.1,cE,cB hi,<-e];rfl
theorem tt{le:α->α->Bool}{xs:List α}{a b:Nat}(d:α)(hb:b<=xs.length)(h:od le (dA xs a b)){i j:Nat}(h1:a<=i)(h2:i<j)(h3:j<b):le (xs.getD i d) (xs.getD j d)=true:=by
 have hl:=fa hb (show a<=b by omega);have:=pairwise_iff_getElem.1 h (i-a) (j-a) (by omega) (by omega) (by omega);have e:∀k(h:k<(dA xs a b).length),(dA xs a b)[k]=xs.getD (a+k) d:=fun k hk=>by rw[<-Uc d (by omega:k<b-a),cE,cB hk];rfl
 rw[e _ (by omega),e _ (by omega),show a+(i-a)=i by omega,show a+(j-a)=j by omega]at this;exact this
def put(xs:List α)(a b:Nat)(W:List α):List α:=xs.take a++W++xs.drop b
theorem wF{xs W:List α}{a b:Nat}(h1:a<=b)(h2:b<=xs.length)(hW:W.length=b-a):(put xs a b W).length=xs.length:=by unfold put;rw[fR,fR,iW,tc];omega
theorem Gk{xs:List α}{a b:Nat}(h:a<=b):put xs a b (dA xs a b)=xs:=(Ub h).symm
theorem ZD{xs W:List α}{a b:Nat}(h1:a<=b)(h2:b<=xs.length)(hW:W.length=b-a):dA (put xs a b W) a b=W:=by
 unfold dA put;have ha:(xs.take a).length=a:=by rw[iW];omega
 rw[eh,Si (by omega),rV (by omega),rU,iw (by omega),lQ (by omega)]
end
section
variable{α:Type}
def vG{xs:List α}{a b i:Nat}:(dA xs a b)[i]? =if i<b-a then xs[a+i]? else none:=by unfold dA;rw[qg,BR]
def sI{xs V:List α}{s e:Nat}(hs:s<=e)(he:e<=xs.length)(hV:V.length=e-s)(i:Nat):(put xs s e V)[i]? =if i<s then xs[i]? else if i<e then V[i-s]? else xs[i]? :=by
 unfold put;have hl:(xs.take s).length=s:=by rw[iW];omega
 rw[eh];by_cases h1:i<s
 ·rw[aA h1,gA (by omega),getElem?_take_of_lt h1]
 ·rw[aE h1,lR (by omega),hl];by_cases h2:i<e
  ·rw[aA h2,gA (by omega)]
  ·rw[aE h2,lR (by omega),BR,hV,show e+(i-s-(e-s))=i by omega]
def T0{xs V W:List α}{a s e b:Nat}(h1:a<=s)(h2:s<=e)(h3:e<=b)(hb:b<=xs.length)(hV:V.length=e-s)(hW:W.length=b-a):put (put xs s e V) a b W=put xs a b W:=by
 apply f9;intro i;rw[sI (by omega) (by rw[wF h2 (by omega) hV];exact hb) hW,sI (by omega) hb hW,sI h2 (by omega) hV];split
 ·rw[aA (by omega)]
 ·split
  ·rfl
  ·rw[aE (by omega),aE (by omega)]
def acU{xs W1 W2:List α}{a m b:Nat}(h1:a<=m)(h2:m<=b)(hb:b<=xs.length)(iJ:W1.length=m-a)(Dg:W2.length=b-m):put (put xs a m W1) m b W2=put xs a b (W1++W2):=by
 apply f9;intro i;rw[sI h2 (by rw[wF h1 (by omega) iJ];exact hb) Dg,sI (by omega) hb (by rw[fR];omega),sI h1 (by omega) iJ];by_cases c1:i<a
 ·rw[aA (by omega),aA c1,aA c1]
 ·rw[aE c1,aE c1];by_cases c2:i<m
  ·rw[aA c2,aA c2,aA (by omega),gA (by omega)]
  ·rw[aE c2,aE c2];by_cases c3:i<b
   ·rw[aA c3,aA c3,lR (by omega),show i-a-W1.length=i-m by omega]
   ·rw[aE c3,aE c3]
def RJ{xs V:List α}{s e i j:Nat}(h1:j<=s)(h2:s<=e)(h3:e<=xs.length)(hV:V.length=e-s):dA (put xs s e V) i j=dA xs i j:=by
 apply f9;intro k;rw[vG,vG];split
 ·rw[sI h2 h3 hV,aA (by omega)]
 ·rfl
def Bu{xs V:List α}{s e i j:Nat}(h1:e<=i)(h2:s<=e)(h3:e<=xs.length)(hV:V.length=e-s):dA (put xs s e V) i j=dA xs i j:=by
 apply f9;intro k;rw[vG,vG];split
 ·rw[sI h2 h3 hV,aE (by omega),aE (by omega)]
 ·rfl
def Gr{xs V:List α}{s e i j:Nat}(h0:s<=i)(h1:i<=j)(h4:j<=e)(h2:s<=e)(h3:e<=xs.length)(hV:V.length=e-s):dA (put xs s e V) i j=dA V (i-s) (j-s):=by
 apply f9;intro k;rw[vG,vG,show j-s-(i-s)=j-i by omega];split
 ·rw[sI h2 h3 hV,aE (by omega),aA (by omega),show i+k-s=i-s+k by omega]
 ·rfl
def Ud{U V:List α}{n:Nat}(h:U.length=n):dA (U++V) 0 n=U:=by unfold dA;rw[Ki,Nat.sub_zero,<-h,take_left]
def Ue{U V:List α}{n k:Nat}(h:U.length=n)(h2:V.length+n=k):dA (U++V) n k=V:=by unfold dA;rw[<-h,drop_left,lQ (by omega)]
def sY(le:α->α->Bool)(xs ys:List α)(a b:Nat):Prop:=∃W,W.length=b-a/\ys=put xs a b W/\lI le (dA xs a b) W/\od le W
def sY.len{le:α->α->Bool}{xs ys:List α}{a b:Nat}(h:sY le xs ys a b)(h1:a<=b)(h2:b<=xs.length):ys.length=xs.length:=by obtain⟨W,hW,rfl,_⟩:=h;exact wF h1 h2 hW
def sY.inc{le:α->α->Bool}{xs ys:List α}{a b:Nat}(h:sY le xs ys a b)(h1:a<=b)(h2:b<=xs.length):od le (dA ys a b):=by obtain⟨W,hW,rfl,_,h4⟩:=h;rw[ZD h1 h2 hW];exact h4
def sY.mem{le:α->α->Bool}(hp:Pre le){xs ys:List α}{a b:Nat}(h:sY le xs ys a b)(h1:a<=b){y:α}(hy:y∈ys):y∈xs:=by
 obtain⟨W,hW,rfl,h3,_⟩:=h;unfold put at hy;rcases ic.1 hy with hy|hy
 ·rcases ic.1 hy with hy|hy
  ·exact vS hy
  ·have:=lI.mem hp h3.symm hy;exact xB (vS this)
 ·exact xB hy
def sY.merge{le:α->α->Bool}(hp:Pre le){xs y1 y2:List α}{a m b s e mid:Nat}(d:α)(ha:a<=s)(hs:s<=m)(he:m<=e)(hb:e<=b)(hl:b<=xs.length)(hm:mid=s+(e-m))(iU:od le (dA xs a m))(iV:od le (dA xs m b))(c1:s<m->m<e->le (xs.getD s d) (xs.getD (e-1) d)=false)(c2:a<s->e<b->le (xs.getD (s-1) d) (xs.getD e d)=true)(r1:sY le (put xs s e (dA xs m e++dA xs s m)) y1 a mid)(r2:sY le y1 y2 mid b):sY le xs y2 a b:=by
 have lV1:=fa (xs:=xs) (a:=m) (b:=e) (by omega) he
 have lU2:=fa (xs:=xs) (a:=s) (b:=m) (by omega) hs
 have lT:(dA xs m e++dA xs s m).length=e-s:=by rw[fR];omega
 obtain⟨W1,l1,rfl,t1,i1⟩:=r1
 obtain⟨W2,l2,rfl,t2,i2⟩:=r2
 have lx1:(put xs s e (dA xs m e++dA xs s m)).length=xs.length:=wF (by omega) (by omega) lT
 have e1:dA (put xs s e (dA xs m e++dA xs s m)) a mid=dA xs a s++dA xs m e:=by rw[gM (m:=s) ha (by omega),RJ (s:=s) (e:=e) (aX _) (by omega) (by omega) lT,Gr (s:=s) (e:=e) (aX _) (by omega) (by omega) (by omega) (by omega) lT,Ad,Ud (by rw[lV1];omega)]
 have e2:dA (put (put xs s e (dA xs m e++dA xs s m)) a mid W1) mid b=dA xs s m++dA xs e b:=by rw[Bu (s:=a) (e:=mid) (aX _) (by omega) (by rw[lx1];omega) l1,gM (m:=e) (by omega) hb,Bu (s:=s) (e:=e) (i:=e) (aX _) (by omega) (by omega) lT,Gr (s:=s) (e:=e) (by omega) (by omega) (aX _) (by omega) (by omega) lT,Ue (by rw[lV1];omega) (by rw[lU2];omega)]
 rw[e1]at t1
 rw[e2]at t2
 have hU:=gM (xs:=xs) ha hs
 have hV:=gM (xs:=xs) he hb
 rw[hU]at iU
 rw[hV]at iV
 have k1:∀u∈dA xs s m,∀v∈dA xs m e,le u v=false:=by
  intro u hu v hv;obtain⟨i,i1,i2,i3,rfl⟩:=tV d hu;obtain⟨j,j1,j2,j3,rfl⟩:=tV d hv;have c:=c1 (by omega) (by omega);have a1:le (xs.getD s d) (xs.getD i d)=true:=by
   rcases vU i1 with h|rfl
   ·exact tt d (by omega) (nU.1 iU).2.1 (aX _) h i2
   ·exact hp.refl _
  have a2:le (xs.getD j d) (xs.getD (e-1) d)=true:=by
   rcases vU (show j<=e-1 by omega)with h|h
   ·exact tt d (by omega) (nU.1 iV).1 j1 h (by omega)
   ·rw[h];exact hp.refl _
  cases h:le (xs.getD i d) (xs.getD j d)with
  |false=>rfl|true=>
   have:=hp.trans _ _ _ a1 (hp.trans _ _ _ h a2);rw[c]at this;cases this
 have k2:∀u∈dA xs a s,∀v∈dA xs e b,le u v=true:=by
  intro u hu v hv;obtain⟨i,i1,i2,i3,rfl⟩:=tV d hu;obtain⟨j,j1,j2,j3,rfl⟩:=tV d hv;have c:=c2 (by omega) (by omega);have a1:le (xs.getD i d) (xs.getD (s-1) d)=true:=by
   rcases vU (show i<=s-1 by omega)with h|h
   ·exact tt d (by omega) (nU.1 iU).1 i1 h (by omega)
   ·rw[h];exact hp.refl _
  have a2:le (xs.getD e d) (xs.getD j d)=true:=by
   rcases vU j1 with h|rfl
   ·exact tt d hl (nU.1 iV).2.1 (aX _) h j2
   ·exact hp.refl _
  exact hp.trans _ _ _ a1 (hp.trans _ _ _ c a2)
 obtain⟨q1,q2⟩:=Xd hp iU iV k1 k2 t1 t2 i1 i2
 refine⟨W1++W2,by rw[fR];omega,?_,?_,q2⟩
 ·rw[acU (by omega) (by omega) (by rw[lx1];exact hl) l1 l2,T0 ha (by omega) hb hl lT (by rw[fR];omega)]
 ·rw[gM (xs:=xs) (a:=a) (m:=m) (b:=b) (by omega) (by omega),hU,hV];exact q1
end
section
def iO{z:Int}(h1: -9223372036854775808<=z)(h2:z<9223372036854775808):IntKind.i64.wrap z=z:=by simp only[IntKind.wrap,IntKind.bits,IntKind.signed];simp;omega
def Tn(y:Sc):Prop:=∃c,y= .l c/\c.length=10/\(∃z,c.getD 0 (.i 0)= .i z)/\∃z,c.getD 4 (.i 0)= .i z
def Tn.row{y:Sc}(h:Tn y):Sc.l [y.list.getD 0 (.i 0),y.list.getD 1 (.i 0),y.list.getD 2 (.i 0),y.list.getD 3 (.i 0),y.list.getD 4 (.i 0),y.list.getD 5 (.i 0),y.list.getD 6 (.i 0),y.list.getD 7 (.i 0),y.list.getD 8 (.i 0),y.list.getD 9 (.i 0)]=y:=by
 obtain⟨c,rfl,hc,_⟩:=h
 match c,hc with
 |[a,b,c,d,e,f,g,h,i,j],_=>rfl
def Nc(y:Sc):Int:=(y.list.getD 0 (.i 0)).int
def RP(y:Sc):Int:=(y.list.getD 4 (.i 0)).int
def Tn.tm{y:Sc}(h:Tn y):y.list.getD 0 (.i 0)= .i (Nc y):=by obtain⟨c,rfl,_,⟨z,h1⟩,_⟩:=h;unfold Nc;show c.getD 0 (.i 0)= .i (c.getD 0 (.i 0)).int;rw[h1];rfl
def Tn.st{y:Sc}(h:Tn y):y.list.getD 4 (.i 0)= .i (RP y):=by obtain⟨c,rfl,_,_,⟨z,h1⟩⟩:=h;unfold RP;show c.getD 4 (.i 0)= .i (c.getD 4 (.i 0)).int;rw[h1];rfl
def uM(xs:ab):Prop:=∀y∈xs,Tn y
def uM.at{xs:ab}(h:uM xs){i:Nat}(hi:i<xs.length):Tn (xs.getD i (.i 0)):=by rw[cE,cB hi];exact h _ (BQ hi)
def sw2(xs:ab)(i j:Nat):ab:=(xs.set i (xs.getD j (.i 0))).set j (xs.getD i (.i 0))
def M9{xs:ab}{i j:Nat}(hi:i<xs.length)(hj:j<xs.length)(k:Nat):(sw2 xs i j)[k]? =if k=j then xs[i]? else if k=i then xs[j]? else xs[k]? :=by
 unfold sw2;rw[getElem?_set,BO];by_cases h1:j=k
 ·subst h1;rw[aA rfl,aA hj,aA rfl,cE,cB hi];rfl
 ·rw[aE h1,aE (fun e=>h1 e.symm),getElem?_set];by_cases h2:i=k
  ·subst h2;rw[aA rfl,aA hi,aA rfl,cE,cB hj];rfl
  ·rw[aE h2,aE (fun e=>h2 e.symm)]
def TZ{xs W:ab}{a b:Nat}(h:uM xs)(hW:uM W):uM (put xs a b W):=by
 intro y hy;unfold put at hy;rcases ic.1 hy with hy|hy
 ·rcases ic.1 hy with hy|hy
  ·exact h y (vS hy)
  ·exact hW y hy
 ·exact h y (xB hy)
def M5{xs:ab}{a b:Nat}(h:uM xs):uM (dA xs a b):=fun y hy=>h y (xB (vS hy))
def J7(xs:ab)(a b n:Nat):ab:=put xs a (b+n) (dA xs b (b+n)++(dA xs (a+n) b++dA xs a (a+n)))
def Nb{xs:ab}{a b n:Nat}(h1:a+n<=b)(h2:b+n<=xs.length):(dA xs b (b+n)++(dA xs (a+n) b++dA xs a (a+n))).length=b+n-a:=by rw[fR,fR,fa h2 (by omega),fa (by omega) h1,fa (by omega) (by omega)];omega
def uc{xs:ab}{a b n:Nat}(h1:a+n<=b)(h2:b+n<=xs.length)(k:Nat):(J7 xs a b n)[k]? =if a<=k/\k<a+n then xs[k+(b-a)]? else if b<=k/\k<b+n then xs[k-(b-a)]? else xs[k]? :=by
 unfold J7;rw[sI (by omega) h2 (Nb h1 h2)];by_cases c1:k<a
 ·rw[aA c1,aE (by omega),aE (by omega)]
 ·rw[aE c1];have l1:=fa (xs:=xs) (a:=b) (b:=b+n) h2 (by omega);have l2:=fa (xs:=xs) (a:=a+n) (b:=b) (by omega) h1;have l3:=fa (xs:=xs) (a:=a) (b:=a+n) (by omega) (by omega);by_cases c2:k<a+n
  ·rw[aA (by omega),aA (by omega),gA (by omega),vG,aA (by omega),show b+(k-a)=k+(b-a)by omega]
  ·by_cases c3:k<b
   ·rw[aA (by omega),aE (by omega),aE (by omega),lR (by omega),gA (by omega),vG,aA (by omega),l1,show a+n+(k-a-(b+n-b))=k by omega]
   ·by_cases c4:k<b+n
    ·rw[aA c4,aE (by omega),aA (by omega),lR (by omega),lR (by omega),vG,aA (by omega),l1,l2,show a+(k-a-(b+n-b)-(b-(a+n)))=k-(b-a)by omega]
    ·rw[aE c4,aE (by omega),aE (by omega)]
def aaq{xs:ab}{a b:Nat}(h1:a<=b)(h2:b<=xs.length):J7 xs a b 0=xs:=by apply f9;intro k;rw[uc (by omega) (by omega),aE (by omega),aE (by omega)]
def aap{xs:ab}{a b n:Nat}(h1:a+(n+1)<=b)(h2:b+(n+1)<=xs.length):sw2 (J7 xs a b n) (a+n) (b+n)=J7 xs a b (n+1):=by
 have hl:(J7 xs a b n).length=xs.length:=wF (by omega) (by omega) (Nb (by omega) (by omega));apply f9;intro k;rw[M9 (by omega) (by omega),uc h1 h2,uc (by omega) (by omega),uc (by omega) (by omega),uc (by omega) (by omega)];rw[aE (c:=a<=a+n/\a+n<a+n) (by omega),aE (c:=b<=a+n/\a+n<b+n) (by omega),aE (c:=a<=b+n/\b+n<a+n) (by omega),aE (c:=b<=b+n/\b+n<b+n) (by omega)];by_cases e1:k=b+n
 ·rw[aA e1,aE (by omega),aA (by omega),e1,show b+n-(b-a)=a+n by omega]
 ·rw[aE e1];by_cases e2:k=a+n
  ·rw[aA e2,aA (by omega),e2,show a+n+(b-a)=b+n by omega]
  ·rw[aE e2];by_cases e3:a<=k/\k<a+n
   ·rw[aA e3,aA (by omega)]
   ·rw[aE e3,aE (c:=a<=k/\k<a+(n+1)) (by omega)];by_cases e4:b<=k/\k<b+n
    ·rw[aA e4,aA (by omega)]
    ·rw[aE e4,aE (by omega)]
def Na{xs:ab}{a b n:Nat}(h:uM xs):uM (J7 xs a b n):=TZ h fun y hy=>by
 rcases ic.1 hy with hy|hy
 ·exact M5 h y hy
 ·rcases ic.1 hy with hy|hy<;>exact M5 h y hy
def zk{xs:ab}{a b n:Nat}(h1:a+n<=b)(h2:b+n<=xs.length):(J7 xs a b n).length=xs.length:=wF (by omega) h2 (Nb h1 h2)
variable(Γ:Nat->dK)
def J6{xs:ab}(hE:uM xs)(hx:xs.length<=100000000000){a b n:Nat}(h1:a+n<=b)(h2:b+n<=xs.length):aw.aF Γ [.l xs,.i (a:Int),.i (b:Int),.i (n:Int)] []=some [.l (J7 xs a b n)]:=by
 suffices h:bW (aw.aF Γ [.l xs,.i (a:Int),.i (b:Int),.i (n:Int)] []) fun r=>r=[.l (J7 xs a b n)]by
  obtain⟨r,h1,rfl⟩:=h;exact h1
 unfold aw;rw[T.aF];refine dv (S:=Unit) (fun i _=>[.i (i:Int),.l (J7 xs a b i)]) (fun _ _=>True) n (s:=()) (by rw[aaq (by omega) (by omega)];rfl) (by omega) trivial ?_ ?_
 ·intro i _ rec hi _ hr;have w1:IntKind.i64.wrap ((b:Int)+i)=((b+i:Nat):Int):=by rw[iO]<;>omega
  have w2:IntKind.i64.wrap ((a:Int)+i)=((a+i:Nat):Int):=by rw[iO]<;>omega
  have w3:IntKind.i64.wrap ((i:Int)+1)=((i+1:Nat):Int):=by rw[iO]<;>omega
  have hl:=zk (xs:=xs) (a:=a) (b:=b) (n:=i) (by omega) (by omega);have U5:=Na (a:=a) (b:=b) (n:=i) hE;have r1:=(U5.at (i:=b+i) (by omega)).row;have r2:=(U5.at (i:=a+i) (by omega)).row;simp only[w1,w2,w3,E3,r1,r2,BO,hl,aT];repeat rw[aA (by omega)]
  have:=hr () trivial;rw[<-aap (by omega) (by omega)]at this;exact this
 ·intro s rec _;simp only[aT];rw[aE (by omega)];simp[bW]
end
theorem xk{S:Type}{g:dK->dK}{Q:ab->Prop}(enc:S->ab)(I:S->Prop)(μ:S->Nat)(h:∀s rec,I s->(∀s',I s'->μ s'<μ s->bW (rec (enc s')) Q)->bW (g rec (enc s)) Q){v:ab}(s:S)(hv:v=enc s)(hI:I s)(hm:μ s<340282366920938463463374607431768211456):bW (cH g fg v) Q:=by
 have key:∀n k s,μ s<=n->I s->bW (cH g (k+n+1) (enc s)) Q:=by
  intro n;induction n with
  |zero=>
   intro k s h1 h2;exact h s _ h2 fun s' h3 h4=>absurd h4 (by omega)
  |succ n ih=>
   intro k s h1 h2;exact h s _ h2 fun s' h3 h4=>ih k s' (by omega) h3
 obtain⟨k,hk⟩:=rE hm
 rw[hk,hv]
 exact key (μ s) k s (aX _) hI
def nR(xs:ab)(a m b:Nat):ab:=put xs a b (dA xs m b++dA xs a m)
theorem IB{xs:ab}{a m b:Nat}(h1:a<=m)(h2:m<=b)(h3:b<=xs.length):(dA xs m b++dA xs a m).length=b-a:=by rw[fR,fa h3 h2,fa (by omega) h1];omega
theorem zX{xs:ab}{a m b:Nat}(h1:a<=m)(h2:m<=b)(h3:b<=xs.length):(nR xs a m b).length=xs.length:=wF (by omega) h3 (IB h1 h2 h3)
theorem jL{xs:ab}{a m b:Nat}(h1:a<=m)(h2:m<=b)(h3:b<=xs.length)(k:Nat):(nR xs a m b)[k]? =if a<=k/\k<a+(b-m)then xs[k+(m-a)]? else if a+(b-m)<=k/\k<b then xs[k-(b-m)]? else xs[k]? :=by
 unfold nR;rw[sI (by omega) h3 (IB h1 h2 h3)];have l1:=fa (xs:=xs) h3 h2;by_cases c1:k<a
 ·rw[aA c1,aE (by omega),aE (by omega)]
 ·rw[aE c1];by_cases c2:k<a+(b-m)
  ·rw[aA (by omega),aA (by omega),gA (by omega),vG,aA (by omega),show m+(k-a)=k+(m-a)by omega]
  ·by_cases c3:k<b
   ·rw[aA c3,aE (by omega),aA (by omega),lR (by omega),vG,aA (by omega),l1,show a+(k-a-(b-m))=k-(b-m)by omega]
   ·rw[aE c3,aE (by omega),aE (by omega)]
theorem Gn{xs:ab}{a m b:Nat}(h:uM xs):uM (nR xs a m b):=TZ h fun y hy=>by rcases ic.1 hy with hy|hy<;>exact M5 h y hy
theorem anJ{xs:ab}{m i j:Nat}(h1:i<=m)(h2:m+j<=xs.length)(h:j<i):nR (J7 xs (m-i) m j) (m-(i-j)) m (m+j)=nR xs (m-i) m (m+j):=by
 have hl:=zk (xs:=xs) (a:=m-i) (b:=m) (n:=j) (by omega) (by omega);apply f9;intro k;rw[jL (by omega) (by omega) (by omega),jL (by omega) (by omega) (by omega)];simp only[uc (xs:=xs) (a:=m-i) (b:=m) (n:=j) (by omega) (by omega)];repeat' split
 all_goals first|(exfalso;omega)|(congr 1;omega)|rfl
theorem anK{xs:ab}{m i j:Nat}(h1:i<=m)(h2:m+j<=xs.length)(h:i<j):nR (J7 xs (m-i) (m+(j-i)) i) (m-i) m (m+(j-i))=nR xs (m-i) m (m+j):=by
 have hl:=zk (xs:=xs) (a:=m-i) (b:=m+(j-i)) (n:=i) (by omega) (by omega);apply f9;intro k;rw[jL (by omega) (by omega) (by omega),jL (by omega) (by omega) (by omega)];simp only[uc (xs:=xs) (a:=m-i) (b:=m+(j-i)) (n:=i) (by omega) (by omega)];repeat' split
 all_goals first|(exfalso;omega)|(congr 1;omega)|rfl
theorem anI{xs:ab}{m i:Nat}(h1:i<=m)(h2:m+i<=xs.length):J7 xs (m-i) m i=nR xs (m-i) m (m+i):=by
 apply f9;intro k;rw[jL (by omega) (by omega) (by omega),uc (by omega) (by omega)];repeat' split
 all_goals first|(exfalso;omega)|(congr 1;omega)|rfl
section
variable{Γ:Nat->dK}(hΓ:∀l,Γ 43000309 l=if l.length=4 then aw.aF Γ l []else none)
include hΓ
theorem zj{xs:ab}(hE:uM xs)(hx:xs.length<=100000000000){a b n:Nat}(h1:a+n<=b)(h2:b+n<=xs.length):Γ 43000309 [.l xs,.i (a:Int),.i (b:Int),.i (n:Int)]=some [.l (J7 xs a b n)]:=by rw[hΓ];exact(aA rfl).trans (J6 Γ hE hx h1 h2)
theorem Rz{xs:ab}(hE:uM xs)(hx:xs.length<=100000000000){a m b:Nat}(h1:a<m)(h2:m<b)(h3:b<=xs.length):aI.aF Γ [.l xs,.i (a:Int),.i (m:Int),.i (b:Int)] []=some [.l (nR xs a m b)]:=by
 suffices h:bW (aI.aF Γ [.l xs,.i (a:Int),.i (m:Int),.i (b:Int)] []) fun r=>r=[.l (nR xs a m b)]by
  obtain⟨r,h1,rfl⟩:=h;exact h1
 unfold aI;rw[T.aF];refine xk (S:=Nat×Nat×ab) (fun s=>[.i (s.1:Int),.i (s.2.1:Int),.l s.2.2]) (fun s=>0<s.1/\0<s.2.1/\s.1<=m/\s.2.2.length=xs.length/\m+s.2.1<=xs.length/\uM s.2.2/\nR s.2.2 (m-s.1) m (m+s.2.1)=nR xs a m b) (fun s=>s.1+s.2.1) ?_ (m-a,b-m,xs) ?_ ?_ ?_
 ·rintro⟨i,j,ys⟩ rec ⟨g1,g2,g3,g4,g5,g6,g7⟩ hr;simp only at g1 g2 g3 g4 g5 g6 g7;have w1:IntKind.i64.wrap ((m:Int)-i)=((m-i:Nat):Int):=by rw[iO]<;>omega
  rcases Nat.lt_trichotomy i j with bi|heq|hgt
  ·have w2:IntKind.i64.wrap ((m:Int)+j)=((m+j:Nat):Int):=by rw[iO]<;>omega
   have w3:IntKind.i64.wrap (((m+j:Nat):Int)-i)=((m+(j-i):Nat):Int):=by rw[iO]<;>omega
   have w4:IntKind.i64.wrap ((j:Int)-i)=((j-i:Nat):Int):=by rw[iO]<;>omega
   have c:=zj hΓ g6 (by omega) (a:=m-i) (b:=m+(j-i)) (n:=i) (by omega) (by omega);simp only[w1,w2,w3,w4,c,aT,Nat.reduceAdd];rw[aA (by omega),aE (by omega)];exact hr (i,j-i,J7 ys (m-i) (m+(j-i)) i) ⟨g1,by show 0<j-i;omega,g3,by show(J7 ys (m-i) (m+(j-i)) i).length=_;rw[zk (by omega) (by omega)];exact g4,by show m+(j-i)<=_;omega,Na g6,by
    show nR (J7 ys (m-i) (m+(j-i)) i) (m-i) m (m+(j-i))=_;rw[anK g3 (by omega) bi];exact g7⟩ (by show i+(j-i)<i+j;omega)
  ·subst heq;have c:=zj hΓ g6 (by omega) (a:=m-i) (b:=m) (n:=i) (by omega) (by omega);simp only[w1,c,aT,Nat.reduceAdd];refine bW.some ?_;rw[anI g3 (by omega),g7]
  ·have w4:IntKind.i64.wrap ((i:Int)-j)=((i-j:Nat):Int):=by rw[iO]<;>omega
   have c:=zj hΓ g6 (by omega) (a:=m-i) (b:=m) (n:=j) (by omega) (by omega);simp only[w1,w4,c,aT,Nat.reduceAdd];rw[aA (by omega),aA (by omega)];exact hr (i-j,j,J7 ys (m-i) m j) ⟨by show 0<i-j;omega,g2,by show i-j<=m;omega,by show(J7 ys (m-i) m j).length=_;rw[zk (by omega) (by omega)];exact g4,g5,Na g6,by
    show nR (J7 ys (m-i) m j) (m-(i-j)) m (m+j)=_;rw[anJ g3 (by omega) hgt];exact g7⟩ (by show i-j+j<i+j;omega)
 ·have w1:IntKind.i64.wrap ((m:Int)-a)=((m-a:Nat):Int):=by rw[iO]<;>omega
  have w2:IntKind.i64.wrap ((b:Int)-m)=((b-m:Nat):Int):=by rw[iO]<;>omega
  simp only[w1,w2,aT]
 ·refine⟨by show 0<m-a;omega,by show 0<b-m;omega,by show m-a<=m;omega,rfl,by show m+(b-m)<=_;omega,hE,?_⟩;show nR xs (m-(m-a)) m (m+(b-m))=_;rw[show m-(m-a)=a by omega,show m+(b-m)=b by omega]
 ·show m-a+(b-m)<_;omega
end
theorem Tn.anL{y:Sc}(h:Tn y):Sc.l [.i (Nc y),y.list.getD 1 (.i 0),y.list.getD 2 (.i 0),y.list.getD 3 (.i 0),.i (RP y),y.list.getD 5 (.i 0),y.list.getD 6 (.i 0),y.list.getD 7 (.i 0),y.list.getD 8 (.i 0),y.list.getD 9 (.i 0)]=y:=by rw[<-h.tm,<-h.st];exact h.row
def dM(x y:Sc):Bool:=decide (Nc x<Nc y)||(decide (Nc x=Nc y)&&decide (RP x<=RP y))
theorem zP{x y:Sc}:dM x y=true↔Nc x<Nc y\/(Nc x=Nc y/\RP x<=RP y):=by unfold dM;simp
theorem ij:Pre dM where
 total x y:=by rw[zP,zP];omega
 trans x y z:=by rw[zP,zP,zP];omega
def cI(x y:Int):Int:=if x<y then-1 else if y<x then 1 else 0
def oI(u v:Int):Int:=if u=0 then v else u
theorem yH{x y:Sc}:oI (cI (Nc x) (Nc y)) (cI (RP x) (RP y))<0↔dM y x=false:=by
 have:dM y x=false↔¬dM y x=true:=by cases dM y x<;>simp
 rw[this,zP];unfold oI cI;repeat' split
 all_goals omega
section
variable{xs:ab}
theorem VN{a j m e:Nat}(h1:a<=j)(h2:j<=m)(h3:m<=e)(h4:e<=xs.length):nR xs j m e=put xs a e (dA xs a j++(dA xs m e++dA xs j m)):=by
 have l1:=fa (xs:=xs) (a:=a) (b:=j) (by omega) h1;have l2:=IB (xs:=xs) h2 h3 h4;apply f9;intro k;unfold nR;rw[sI (by omega) h4 l2,sI (by omega) h4 (by rw[fR];omega)];by_cases c1:k<a
 ·rw[aA (by omega),aA c1]
 ·rw[aE c1];by_cases c2:k<j
  ·rw[aA c2,aA (by omega),gA (l₁:=dA xs a j) (by omega),vG,aA (by omega),show a+(k-a)=k by omega]
  ·rw[aE c2];by_cases c3:k<e
   ·rw[aA c3,aA c3,lR (l₁:=dA xs a j) (by omega),show k-a-(dA xs a j).length=k-j by omega]
   ·rw[aE c3,aE c3]
theorem VO{a m e b:Nat}(h1:a<=m)(h2:m<=e)(h3:e<=b)(h4:b<=xs.length):nR xs a m e=put xs a b ((dA xs m e++dA xs a m)++dA xs e b):=by
 have l1:=fa (xs:=xs) (a:=e) (b:=b) h4 h3;have l2:=IB (xs:=xs) h1 h2 (by omega);apply f9;intro k;unfold nR;rw[sI (by omega) (by omega) l2,sI (by omega) h4 (by rw[fR];omega)];by_cases c1:k<a
 ·rw[aA c1,aA c1]
 ·rw[aE c1,aE c1];by_cases c2:k<e
  ·rw[aA c2,aA (by omega),gA (l₁:=dA xs m e++dA xs a m) (by omega)]
  ·rw[aE c2];by_cases c3:k<b
   ·rw[aA c3,lR (l₁:=dA xs m e++dA xs a m) (by omega),vG,aA (by omega),l2,show e+(k-a-(e-a))=k by omega]
   ·rw[aE c3]
theorem C0{a b:Nat}(h:a<=b)(h2:b<=xs.length):nR xs a a b=xs/\nR xs a b b=xs:=by unfold nR;rw[Gs,Gs,uP,rU];exact⟨Gk h,Gk h⟩
theorem sY.down{a j i:Nat}(h1:a<=j)(h2:j<=i)(h3:i<xs.length)(hU:od dM (dA xs a i))(c1:j<i->dM (xs.getD j (.i 0)) (xs.getD i (.i 0))=false)(c2:a<j->dM (xs.getD (j-1) (.i 0)) (xs.getD i (.i 0))=true):sY dM xs (nR xs j i (i+1)) a (i+1):=by
 have l1:=fa (xs:=xs) (a:=a) (b:=j) (by omega) h1;have l2:=IB (xs:=xs) (a:=j) (m:=i) (b:=i+1) h2 (by omega) (by omega);have e1:=M6 (xs:=xs) (.i 0) h3;rw[gM h1 h2]at hU;have k1:∀u∈dA xs j i,dM u (xs.getD i (.i 0))=false:=by
  intro u hu;obtain⟨k,g1,g2,g3,rfl⟩:=tV (.i 0) hu;cases h:dM (xs.getD k (.i 0)) (xs.getD i (.i 0))with
  |false=>rfl|true=>
   have c:=c1 (by omega);have:dM (xs.getD j (.i 0)) (xs.getD k (.i 0))=true:=by
    rcases vU g1 with g|rfl
    ·exact tt _ (by omega) (nU.1 hU).2.1 (aX _) g g2
    ·exact ij.refl _
   rw[ij.trans _ _ _ this h]at c;cases c
 have k2:∀u∈dA xs a j,dM u (xs.getD i (.i 0))=true:=by
  intro u hu;obtain⟨k,g1,g2,g3,rfl⟩:=tV (.i 0) hu;have c:=c2 (by omega);refine ij.trans _ _ _ ?_ c;rcases vU (show k<=j-1 by omega)with g|g
  ·exact tt _ (by omega) (nU.1 hU).1 g1 g (by omega)
  ·rw[g];exact ij.refl _
 obtain⟨q1,q2⟩:=anC ij hU k1 k2;refine⟨dA xs a j++(dA xs i (i+1)++dA xs j i),by rw[fR];omega,VN h1 h2 (by omega) (by omega),?_,?_⟩
 ·rw[gM (xs:=xs) (a:=a) (m:=i) (b:=i+1) (by omega) (by omega),gM (xs:=xs) h1 h2,e1,<-eh];exact q1
 ·rw[e1,<-eh];exact q2
theorem sY.up{a i b:Nat}(h1:a+1<=i)(h2:i<=b)(h3:b<=xs.length)(hV:od dM (dA xs (a+1) b))(c1:a+1<i->dM (xs.getD a (.i 0)) (xs.getD (i-1) (.i 0))=false)(c2:i<b->dM (xs.getD a (.i 0)) (xs.getD i (.i 0))=true):sY dM xs (nR xs a (a+1) i) a b:=by
 have l2:=IB (xs:=xs) (a:=a) (m:=a+1) (b:=i) (by omega) h1 (by omega);have l1:=fa (xs:=xs) (a:=i) (b:=b) h3 h2;have e1:=M6 (xs:=xs) (a:=a) (.i 0) (by omega);rw[gM h1 h2]at hV;have k1:∀v∈dA xs (a+1) i,dM (xs.getD a (.i 0)) v=false:=by
  intro u hu;obtain⟨k,g1,g2,g3,rfl⟩:=tV (.i 0) hu;cases h:dM (xs.getD a (.i 0)) (xs.getD k (.i 0))with
  |false=>rfl|true=>
   have c:=c1 (by omega);have:dM (xs.getD k (.i 0)) (xs.getD (i-1) (.i 0))=true:=by
    rcases vU (show k<=i-1 by omega)with g|g
    ·exact tt _ (by omega) (nU.1 hV).1 g1 g (by omega)
    ·rw[g];exact ij.refl _
   rw[ij.trans _ _ _ h this]at c;cases c
 have k2:∀v∈dA xs i b,dM (xs.getD a (.i 0)) v=true:=by
  intro u hu;obtain⟨k,g1,g2,g3,rfl⟩:=tV (.i 0) hu;have c:=c2 (by omega);refine ij.trans _ _ _ c ?_;rcases vU g1 with g|rfl
  ·exact tt _ (by omega) (nU.1 hV).2.1 (aX _) g g2
  ·exact ij.refl _
 obtain⟨q1,q2⟩:=anB ij hV k1 k2;refine⟨(dA xs (a+1) i++dA xs a (a+1))++dA xs i b,by rw[fR];omega,VO (by omega) h1 h2 h3,?_,?_⟩
 ·rw[gM (xs:=xs) (a:=a) (m:=a+1) (b:=b) (by omega) (by omega),gM (xs:=xs) h1 h2,e1];exact q1
 ·rw[e1];exact q2
theorem ZR{j i:Nat}(h1:0<j)(h2:j<=i)(h3:i<xs.length):sw2 (nR xs j i (i+1)) j (j-1)=nR xs (j-1) i (i+1):=by
 have hl:=zX (xs:=xs) (a:=j) (m:=i) (b:=i+1) h2 (by omega) (by omega);apply f9;intro k;rw[M9 (by omega) (by omega),jL (by omega) (by omega) (by omega),jL (by omega) (by omega) (by omega),jL (by omega) (by omega) (by omega),jL (by omega) (by omega) (by omega)];repeat' split
 all_goals first|(exfalso;omega)|(congr 1;omega)|rfl
theorem ah6{a k:Nat}(h1:a<=k)(h3:k+1<xs.length):sw2 (nR xs a (a+1) (k+1)) k (k+1)=nR xs a (a+1) (k+2):=by
 have hl:=zX (xs:=xs) (a:=a) (m:=a+1) (b:=k+1) (by omega) (by omega) (by omega);apply f9;intro i;rw[M9 (by omega) (by omega),jL (by omega) (by omega) (by omega),jL (by omega) (by omega) (by omega),jL (by omega) (by omega) (by omega),jL (by omega) (by omega) (by omega)];repeat' split
 all_goals first|(exfalso;omega)|(congr 1;omega)|rfl
theorem ZQ{j i:Nat}(h2:j<=i)(h3:i<xs.length)(k:Nat):(nR xs j i (i+1)).getD k (.i 0)=if k=j then xs.getD i (.i 0)else if j<k/\k<=i then xs.getD (k-1) (.i 0)else xs.getD k (.i 0):=by
 simp only[cE];rw[jL (by omega) (by omega) (by omega)];repeat' split
 all_goals first|(exfalso;omega)|(congr 2;omega)|rfl
end
section
variable{Γ:Nat->dK}(hc:∀x y:Int,Γ 44 [.i x,.i y]=some [.i (cI x y)])(ho:∀u v:Int,Γ 43 [.l [.i u,.i v]]=some [.i (oI u v)])
include hc ho
theorem J2{xs:ab}(hE:uM xs)(hx:xs.length<=100000000000){a b:Nat}(h1:a<b)(h2:b<=xs.length):bW (aM.aF Γ [.l xs,.i (a:Int),.i (b:Int)] []) fun r=>∃ys,r=[.l ys]/\uM ys/\sY dM xs ys a b:=by
 unfold aM;rw[T.aF];refine xk (S:=Nat×ab) (fun s=>[.i (s.1:Int),.l s.2]) (fun s=>a<s.1/\s.1<=b/\s.2.length=xs.length/\uM s.2/\sY dM xs s.2 a s.1) (fun s=>b-s.1) ?_ (a+1,xs) ?_ ?_ ?_
 ·rintro⟨i,ys⟩ rec ⟨g1,g2,g3,g4,g5⟩ hr;simp only at g1 g2 g3 g4 g5;by_cases bi:i<b
  ·simp only[aT];rw[aA (by omega)];have hU:=g5.inc (by omega) (by omega);refine xk (S:=Nat) (fun j=>[.i (j:Int),.l (nR ys j i (i+1))]) (fun j=>a<=j/\j<=i/\(j<i->dM (ys.getD j (.i 0)) (ys.getD i (.i 0))=false)) (fun j=>j) ?_ i ?_ ⟨by omega,aX _,fun h=>by omega⟩ (by omega)
   ·rintro j tp ⟨q1,q2,q3⟩ oa;have hlj:=zX (xs:=ys) (a:=j) (m:=i) (b:=i+1) q2 (by omega) (by omega);have hEj:uM (nR ys j i (i+1)):=Gn g4;have w3:IntKind.i64.wrap ((i:Int)+1)=((i+1:Nat):Int):=by rw[iO]<;>omega
    have fin:(a<j->dM (ys.getD (j-1) (.i 0)) (ys.getD i (.i 0))=true)->bW (rec [.i ((i+1:Nat):Int),.l (nR ys j i (i+1))]) fun r=>∃ys,r=[.l ys]/\uM ys/\sY dM xs ys a b:=by
     intro c2;have hd:=sY.down q1 q2 (by omega) hU q3 c2;have hlen:xs.length=ys.length:=g3.symm;refine hr (i+1,nR ys j i (i+1)) ⟨by show a<i+1;omega,by show i+1<=b;omega,by show(nR ys j i (i+1)).length=_;omega,hEj,?_⟩ (by show b-(i+1)<b-i;omega);show sY dM xs (nR ys j i (i+1)) a (i+1);obtain⟨W1,l1,e1,s1,i1⟩:=g5;obtain⟨W2,l2,e2,s2,i2⟩:=hd;refine⟨W2,l2,?_,?_,i2⟩
     ·rw[e2,e1,T0 (aX _) (by omega) (by omega) (by omega) l1 l2]
     ·refine lI.trans ?_ s2;rw[gM (xs:=xs) (a:=a) (m:=i) (b:=i+1) (by omega) (by omega),gM (xs:=ys) (a:=a) (m:=i) (b:=i+1) (by omega) (by omega),e1,ZD (by omega) (by omega) l1,Bu (aX _) (by omega) (by omega) l1];exact s1.app lI.rfl
    by_cases haj:a<j
    ·have w1:IntKind.i64.wrap ((j:Int)-1)=((j-1:Nat):Int):=by rw[iO]<;>omega
     have r1:=(hEj.at (i:=j) (by omega)).anL;have r2:=(hEj.at (i:=j-1) (by omega)).anL;have t1:=(hEj.at (i:=j) (by omega)).tm;have t2:=(hEj.at (i:=j-1) (by omega)).tm;have s1:=(hEj.at (i:=j) (by omega)).st;have s2:=(hEj.at (i:=j-1) (by omega)).st;have a1:(nR ys j i (i+1)).getD j (.i 0)=ys.getD i (.i 0):=by rw[ZQ q2 (by omega),aA rfl]
     have a2:(nR ys j i (i+1)).getD (j-1) (.i 0)=ys.getD (j-1) (.i 0):=by rw[ZQ q2 (by omega),aE (by omega),aE (by omega)]
     simp only[w1,w3,aT];rw[aA (by omega),aA (by omega),aA (by omega),aA (by omega),aA (by omega)];simp only[t1,t2,s1,s2,hc,ho,aT,Nat.reduceAdd];by_cases yz:oI (cI (Nc ((nR ys j i (i+1)).getD j (.i 0))) (Nc ((nR ys j i (i+1)).getD (j-1) (.i 0)))) (cI (RP ((nR ys j i (i+1)).getD j (.i 0))) (RP ((nR ys j i (i+1)).getD (j-1) (.i 0))))<0
     ·rw[aA yz];have hl:=yH.1 yz;rw[a1,a2]at hl;simp only[r1,r2,E3,BO,hlj,aT];repeat rw[aA (by omega)]
      have:=oa (j-1) ⟨by omega,by omega,fun _=>hl⟩ (by omega);rw[<-ZR (by omega) q2 (by omega)]at this;exact this
     ·rw[aE yz];have hl:¬dM (ys.getD (j-1) (.i 0)) (ys.getD i (.i 0))=false:=by rw[yH,a1,a2]at yz;exact yz
      exact fin fun _=>by
       cases h:dM (ys.getD (j-1) (.i 0)) (ys.getD i (.i 0))with
       |true=>rfl|false=>exact absurd h hl
    ·simp only[w3,aT];rw[aE (by omega)];exact fin fun h=>absurd h haj
   ·rw[(C0 (xs:=ys) (a:=i) (b:=i+1) (by omega) (by omega)).1]
  ·have e:i=b:=by omega
   subst e;simp only[aT];rw[aE (by omega)];exact bW.some ⟨ys,rfl,g4,g5⟩
 ·have w3:IntKind.i64.wrap ((a:Int)+1)=((a+1:Nat):Int):=by rw[iO]<;>omega
  simp only[w3,aT]
 ·refine⟨by show a<a+1;omega,by show a+1<=b;omega,rfl,hE,dA xs a (a+1),fa (by omega) (by omega),(Gk (by omega)).symm,lI.rfl,?_⟩;show od dM (dA xs a (a+1));rw[M6 (.i 0) (by omega)];simp
 ·show b-(a+1)<_;omega
end
def ar(o:Option ab)(Q:ab->Prop):Prop:=∀r,o=some r->Q r
section
variable{Q:ab->Prop}
def ar.ite{c:Prop}[Decidable c]{a b:Option ab}(h1:c->ar a Q)(h2:¬c->ar b Q):ar (if c then a else b) Q:=by
 intro r h;by_cases hc:c
 ·rw[aA hc]at h;exact h1 hc r h
 ·rw[aE hc]at h;exact h2 hc r h
def ar.aa{c:Prop}[Decidable c]{a:Option ab}(h1:c->ar a Q):ar (if c then a else none) Q:=ar.ite h1 nofun
def ar.some{r:ab}(h:Q r):ar (Option.some r) Q:=fun _ e=>by cases e;exact h
def ar.call{o:Option ab}{n:Nat}{k:dK}(h:∀r,o=Option.some r->r.length=n->ar (k r) Q):ar (match(generalizing:=false) o with|Option.some r=>if r.length=n then k r else none|none=>none) Q:=by intro rs e;obtain⟨r,h1,h2,h3⟩:=vn e;exact h r h1 h2 rs h3
def ar.loop{g:dK->dK}{v:ab}(I:ab->Prop)(h0:I v)(h:∀w rec,I w->(∀w',I w'->ar (rec w') Q)->ar (g rec w) Q):ar (cH g fg v) Q:=by
 have key:∀n w,I w->ar (cH g n w) Q:=by
  intro n;induction n with
  |zero=>intro w _ r h;cases h
  |succ n ih=>intro w hw;exact h w _ hw fun w' hw'=>ih w' hw'
 exact key _ v h0
end
def bL{r:ab}(h:r.length=1):∃x,r=[x]:=by
 match r,h with
 |[x],_=>exact⟨x,rfl⟩
def GA(C:Prop)(r:ab):Prop:=(r.getD 0 (.i 0)).int=0->C
def OkB(C:Prop)(r:ab):Prop:=(r.getD 0 (.i 0)).bool=true->C
section
variable{C:Prop}
def aP{z:Int}(h:z≠0):ar (some [.i z]) (GA C):=ar.some fun e=>absurd e h
def df{x:Sc}(h:x.int≠0):ar (some [x]) (GA C):=ar.some fun e=>absurd e h
def pV{r:ab}(h:C):ar (some r) (GA C):=ar.some fun _=>h
def gz:ar (some [.b false]) (OkB C):=ar.some nofun
def ZA{r:ab}(h:C):ar (some r) (OkB C):=ar.some fun _=>h
end
def iT(x y:Sc):((U2.ev .ne x y).bool=true)=(x.int≠y.int):=propext ⟨fun h=>by
 have h:(x.int !=y.int)=true:=h;simpa using h,fun h=>by
 show(x.int !=y.int)=true;simpa using h⟩
def cM{i:Nat}(h:i<=100000000):IntKind.i64.wrap ((i:Int)+1)=((i+1:Nat):Int):=by rw[iO]<;>omega
def aU(n:Nat)(y:Sc):ab:=(range n).map fun i=>y.list.getD i (.i 0)
def Pt{c0 c1 c2 c4:Sc}{si z5 z6:Int}{l7:ab}(hl:l7.length<=10000000){x0:Sc}(h:Gf 61 [c0,c1,c2,.i si,c4,.i z5,.i z6,.l l7]=some [x0])(Vg:x0.int=0):
 0<=si/\si<c1.list.length/\0<=z5/\z5<=z6/\z6<=16/\∀y∈l7,∃x:Sc,Gf 106 ([c0,c1,c2,.i si,c4,.i z5,.i z6,.l l7]++aU 20 y)=some [x]/\x.int=0:=by
 rw[Hd]at h
 replace h:mo.aF Gf [c0,c1,c2,.i si,c4,.i z5,.i z6,.l l7] []=some [x0]:=h
 suffices hq:ar (mo.aF Gf [c0,c1,c2,.i si,c4,.i z5,.i z6,.l l7] []) (GA (0<=si/\si<c1.list.length/\0<=z5/\z5<=z6/\z6<=16/\∀y∈l7,∃x:Sc,Gf 106 ([c0,c1,c2,.i si,c4,.i z5,.i z6,.l l7]++aU 20 y)=some [x]/\x.int=0))from hq _ h Vg
 unfold mo
 simp only[iT,aT]
 refine ar.ite (fun _=>aP (by decide)) fun a1=> ?_
 refine ar.ite (fun _=>aP (by decide)) fun a2=> ?_
 refine ar.call fun r _ hr=> ?_
 obtain⟨x,rfl⟩:=bL hr
 simp only[aT]
 refine ar.ite (fun h=>df h) fun _=> ?_
 refine ar.ite (fun _=>aP (by decide)) fun a3=> ?_
 refine ar.ite (fun _=>aP (by decide)) fun a4=> ?_
 refine ar.ite (fun _=>aP (by decide)) fun _=> ?_
 refine ar.ite (fun _=>aP (by decide)) fun a5=> ?_
 refine ar.ite (fun _=>aP (by decide)) fun _=> ?_
 refine ar.ite (fun _=>aP (by decide)) fun _=> ?_
 refine ar.loop (fun w=>∃i:Nat,w=[.i (i:Int)]/\i<=l7.length/\∀j,j<i->∃x:Sc,Gf 106 ([c0,c1,c2,.i si,c4,.i z5,.i z6,.l l7]++aU 20 (l7.getD j (.i 0)))=some [x]/\x.int=0) ⟨0,rfl,xA _,fun j h=>by omega⟩ ?_
 rintro w rec ⟨i,rfl,hi,hI⟩ hr
 have w1:=cM (i:=i) (by omega)
 simp only[w1,aT]
 refine ar.ite (fun bi=> ?_) fun xj=> ?_
 ·repeat(refine ar.aa fun _=> ?_)
  refine ar.call fun r hc oa=> ?_;obtain⟨x,rfl⟩:=bL oa;simp only[aT];refine ar.ite (fun h=>df h) fun h0=> ?_;refine hr _ ⟨i+1,rfl,by omega,fun j hj=> ?_⟩;rcases qe.1 hj with hj|rfl
  ·exact hI j hj
  ·exact⟨x,hc,by simpa using h0⟩
 ·have wh:∀y∈l7,∃x:Sc,Gf 106 ([c0,c1,c2,.i si,c4,.i z5,.i z6,.l l7]++aU 20 y)=some [x]/\x.int=0:=by intro y hy;obtain⟨j,hj,rfl⟩:=gH hy;exact hI j (by omega)
  exact fun r _ _=>⟨by omega,by omega,by omega,by omega,by omega,wh⟩
def Qf{c0 c1 c2 c3 c4 c5 c6 c7 c8 c9 fJ fx fA ge:Sc}{x:Sc}(h:Gf 59 [c0,c1,c2,c3,c4,c5,c6,c7,c8,c9,fJ,fx,fA,ge]=some [x])(hx:x.bool=true):ge.list.length=fJ.list.length:=by rw[JA]at h;replace h:nJ.aF Gf [c0,c1,c2,c3,c4,c5,c6,c7,c8,c9,fJ,fx,fA,ge] []=some [x]:=h;suffices hq:ar (nJ.aF Gf [c0,c1,c2,c3,c4,c5,c6,c7,c8,c9,fJ,fx,fA,ge] []) (OkB (ge.list.length=fJ.list.length))from hq _ h hx;unfold nJ;simp only[aT];refine ar.ite (fun _=>gz) fun h=> ?_;exact fun r _ _=>by omega
def Il{c0 c3 y:Sc}{x:Sc}(h:Gf 47 [c0,.l [],.l [y],c3]=some [x])(hx:x.int=0):∃z,Gf 90 (aU 13 y)=some [z]/\z.int=0:=by
 rw[JE]at h;replace h:nK.aF Gf [c0,.l [],.l [y],c3] []=some [x]:=h;suffices hq:ar (nK.aF Gf [c0,.l [],.l [y],c3] []) (GA _)from hq _ h hx;unfold nK;simp only[iT,aT,Nat.reduceAdd];refine ar.call fun r _ hr=> ?_;obtain⟨x,rfl⟩:=bL hr;simp only[aT];refine ar.ite (fun h=>df h) fun _=> ?_;refine ar.ite (fun _=>aP (by decide)) fun _=> ?_;refine ar.loop (fun w=>∃m:Sc,w=[.i 0,m]) ⟨_,rfl⟩ ?_;rintro w rec ⟨m,rfl⟩ hr;simp only[aT,reduceLE];refine ar.ite (fun bi=>absurd bi (by simp)) fun _=> ?_;refine ar.ite (fun _=>aP (by decide)) fun _=> ?_;refine ar.ite (fun _=>aP (by decide)) fun _=> ?_;refine ar.loop (fun w=>∃(i:Nat)(m:Sc),w=[.i (i:Int),m]/\i<=1/\(0<i->∃z,Gf 90 (aU 13 y)=some [z]/\z.int=0)) ⟨0,_,rfl,by omega,fun h=>by omega⟩ ?_;rintro w tp ⟨i,m2,rfl,hi,hI⟩ oa;have w1:=cM (i:=i) (by omega);simp only[w1,aT];refine ar.ite (fun bi=> ?_) fun xj=> ?_
 ·have h0:i=0:=by simp at bi;omega
  subst h0;repeat(refine ar.aa fun _=> ?_)
  refine ar.call fun r hc amB=> ?_;obtain⟨x9,rfl⟩:=bL amB;simp only[aT,Nat.reduceAdd];refine ar.ite (fun h=> ?_) fun h0=> ?_
  ·rw[aA h,aA h,aA h];exact df h
  ·refine ar.ite (fun _=>aP (by decide)) fun _=> ?_;refine ar.call fun r Jj HM=> ?_;obtain⟨kI,rfl⟩:=bL HM;simp only[aT];refine ar.ite (fun h=> ?_) fun h1=> ?_
   ·rw[aA h];exact df h
   ·exact oa _ ⟨1,_,rfl,by omega,fun _=>⟨kI,Jj,by simpa using h1⟩⟩
 ·have:=hI (by simp at xj;omega);intro r _ _;exact this
def oW{nm lk:Sc}{S:ab}(hR:∀s∈S,((s.list.getD 13 (.i 0)).list.length<=10000000)){x:Sc}(h:Gf 33 [nm,.l S,lk]=some [x])(hx:x.int=0):
 (∀i,i<S.length->(∃z,Gf 47 [nm,.l [],.l [.l (aU 13 (S.getD i (.i 0)))],.l []]=some [z]/\z.int=0)/\(∃z,Gf 59 (aU 14 (S.getD i (.i 0)))=some [z]/\z.bool=true)/\
   ∀c∈((S.getD i (.i 0)).list.getD 13 (.i 0)).list,∃z,Gf 61 ([nm,.l S,lk,.i (i:Int)]++aU 4 c)=some [z]/\z.int=0)/\(∃z,Gf 60 [nm,.l S,lk]=some [z]/\z.int=0)/\S.length<=16:=by
 rw[L1]at h
 replace h:po.aF Gf [nm,.l S,lk] []=some [x]:=h
 suffices hq:ar (po.aF Gf [nm,.l S,lk] []) (GA _)from hq _ h hx
 unfold po
 simp only[iT,aT]
 refine ar.call fun r _ hr=> ?_
 obtain⟨x,rfl⟩:=bL hr
 simp only[aT]
 refine ar.ite (fun h=>df h) fun _=> ?_
 refine ar.ite (fun _=>aP (by decide)) fun _=> ?_
 refine ar.ite (fun _=>aP (by decide)) fun Kd=> ?_
 have hS:S.length<=10000000:=by omega
 refine ar.loop (fun w=>∃(i:Nat)(m:Sc),w=[.i (i:Int),m]/\i<=S.length/\∀j,j<i->(∃z,Gf 47 [nm,.l [],.l [.l (aU 13 (S.getD j (.i 0)))],.l []]=some [z]/\z.int=0)/\(∃z,Gf 59 (aU 14 (S.getD j (.i 0)))=some [z]/\z.bool=true)) ⟨0,_,rfl,xA _,fun j h=>by omega⟩ ?_
 rintro w rec ⟨i,m,rfl,hi,hI⟩ hr
 have w1:=cM (i:=i) (by omega)
 simp only[w1,aT]
 refine ar.ite (fun bi=> ?_) fun xj=> ?_
 ·repeat(refine ar.aa fun _=> ?_)
  refine ar.call fun r hc oa=> ?_;obtain⟨x,rfl⟩:=bL oa;simp only[aT];refine ar.ite (fun h=>df h) fun h0=> ?_;refine ar.ite (fun _=>aP (by decide)) fun _=> ?_;refine ar.call fun r DH HM=> ?_;obtain⟨y,rfl⟩:=bL HM;simp only[aT];refine ar.ite (fun _=>aP (by decide)) fun h1=> ?_;refine hr _ ⟨i+1,_,rfl,by omega,fun j hj=> ?_⟩;rcases qe.1 hj with hj|rfl
  ·exact hI j hj
  ·exact⟨⟨x,hc,by simpa using h0⟩,⟨y,DH,by simpa[U1.ev]using h1⟩⟩
 ·refine ar.call fun r hc oa=> ?_;obtain⟨y,rfl⟩:=bL oa;simp only[aT];refine ar.ite (fun h=>df h) fun h0=> ?_;refine ar.loop (fun w=>∃i:Nat,w=[.i (i:Int)]/\i<=S.length/\∀j,j<i->∀c∈((S.getD j (.i 0)).list.getD 13 (.i 0)).list,∃z,Gf 61 ([nm,.l S,lk,.i (j:Int)]++aU 4 c)=some [z]/\z.int=0) ⟨0,rfl,xA _,fun j h=>by omega⟩ ?_;rintro w tp ⟨k,rfl,hk,hK⟩ oa;have w2:=cM (i:=k) (by omega);simp only[w2,aT];refine ar.ite (fun bi=> ?_) fun alY=> ?_
  ·repeat(refine ar.aa fun _=> ?_)
   have hRk:=hR _ (bh (xs:=S) (n:=k) (by omega));refine ar.loop (fun w=>∃i:Nat,w=[.i (i:Int)]/\i<=((S.getD k (.i 0)).list.getD 13 (.i 0)).list.length/\∀j,j<i->∃z,Gf 61 ([nm,.l S,lk,.i (k:Int)]++aU 4 (((S.getD k (.i 0)).list.getD 13 (.i 0)).list.getD j (.i 0)))=some [z]/\z.int=0) ⟨0,rfl,xA _,fun j h=>by omega⟩ ?_;rintro w au4 ⟨q,rfl,hq,hQ⟩ HM;have w3:=cM (i:=q) (by omega);simp only[w3,aT];refine ar.ite (fun Fw=> ?_) fun ayX=> ?_
   ·repeat(refine ar.aa fun _=> ?_)
    refine ar.call fun r Jj hr4=> ?_;obtain⟨y3,rfl⟩:=bL hr4;simp only[aT];refine ar.ite (fun h=>df h) fun h3=> ?_;refine HM _ ⟨q+1,rfl,by omega,fun j hj=> ?_⟩;rcases qe.1 hj with hj|rfl
    ·exact hQ j hj
    ·exact⟨y3,Jj,by simpa using h3⟩
   ·refine oa _ ⟨k+1,rfl,by omega,fun j hj=> ?_⟩;rcases qe.1 hj with hj|rfl
    ·exact hK j hj
    ·intro c Jj;obtain⟨q',hq',rfl⟩:=gH Jj;exact hQ q' (by omega)
  ·refine pV ⟨fun j hj=>⟨(hI j (by omega)).1,(hI j (by omega)).2,hK j (by omega)⟩,⟨y,hc,by simpa using h0⟩,by omega⟩
def J4{c0 c1 c2 c3 c4 c5 c6 c7 c8 c9 fJ fx fA ge:Sc}{P:ab}(hP:P.length<=10000000){x:Sc}(h:Gf 78 [c0,c1,c2,c3,c4,c5,c6,c7,c8,c9,fJ,fx,fA,ge,.l P]=some [x])(hx:x.int=0):
 P.length<=300/\∀y∈P,∃z,Gf 135 ([c0,c1,c2,c3,c4,c5,c6,c7,c8,c9,fJ,fx,fA,ge]++aU 7 y)=some [z]/\z.int=0:=by
 rw[Fo]at h
 replace h:kU.aF Gf [c0,c1,c2,c3,c4,c5,c6,c7,c8,c9,fJ,fx,fA,ge,.l P] []=some [x]:=h
 suffices hq:ar (kU.aF Gf [c0,c1,c2,c3,c4,c5,c6,c7,c8,c9,fJ,fx,fA,ge,.l P] []) (GA _)from hq _ h hx
 unfold kU
 simp only[iT,aT]
 refine ar.ite (fun _=>aP (by decide)) fun a1=> ?_
 refine ar.loop (fun w=>∃i:Nat,w=[.i (i:Int)]/\i<=P.length/\∀j,j<i->∃z,Gf 135 ([c0,c1,c2,c3,c4,c5,c6,c7,c8,c9,fJ,fx,fA,ge]++aU 7 (P.getD j (.i 0)))=some [z]/\z.int=0) ⟨0,rfl,xA _,fun j h=>by omega⟩ ?_
 rintro w rec ⟨i,rfl,hi,hI⟩ hr
 have w1:=cM (i:=i) (by omega)
 simp only[w1,aT]
 refine ar.ite (fun bi=> ?_) fun xj=> ?_
 ·repeat(refine ar.aa fun _=> ?_)
  refine ar.call fun r hc oa=> ?_;obtain⟨y,rfl⟩:=bL oa;simp only[aT];refine ar.ite (fun h=>df h) fun h0=> ?_;have nx:ar (rec [.i ((i+1:Nat):Int)]) (GA (P.length<=300/\∀y∈P,∃z,Gf 135 ([c0,c1,c2,c3,c4,c5,c6,c7,c8,c9,fJ,fx,fA,ge]++aU 7 y)=some [z]/\z.int=0)):=by
   refine hr _ ⟨i+1,rfl,by omega,fun j hj=> ?_⟩;rcases qe.1 hj with hj|rfl
   ·exact hI j hj
   ·exact⟨y,hc,by simpa using h0⟩
  refine ar.ite (fun _=> ?_) fun _=>nx;repeat(refine ar.aa fun _=> ?_)
  exact ar.ite (fun _=>aP (by decide)) fun _=>nx
 ·refine pV ⟨by omega,fun y hy=> ?_⟩;obtain⟨j,hj,rfl⟩:=gH hy;exact hI j (by omega)
def Fh{P:ab}(hP:P.length<=10000000){x:Sc}(h:Gf 128 [.l P]=some [x])(hx:x.int=0):∀y∈P,∃z,Gf 199 (aU 9 y)=some [z]/\z.int=0:=by
 rw[Hc]at h;replace h:mn.aF Gf [.l P] []=some [x]:=h;suffices hq:ar (mn.aF Gf [.l P] []) (GA _)from hq _ h hx;unfold mn;simp only[iT,aT];refine ar.ite (fun _=>aP (by decide)) fun a1=> ?_;refine ar.loop (fun w=>∃i:Nat,w=[.i (i:Int)]/\i<=P.length/\∀j,j<i->∃z,Gf 199 (aU 9 (P.getD j (.i 0)))=some [z]/\z.int=0) ⟨0,rfl,xA _,fun j h=>by omega⟩ ?_;rintro w rec ⟨i,rfl,hi,hI⟩ hr;have w1:=cM (i:=i) (by omega);simp only[w1,aT];refine ar.ite (fun bi=> ?_) fun xj=> ?_
 ·repeat(refine ar.aa fun _=> ?_)
  refine ar.call fun r hc oa=> ?_;obtain⟨y,rfl⟩:=bL oa;simp only[aT];refine ar.ite (fun h=>df h) fun h0=> ?_;have nx:ar (rec [.i ((i+1:Nat):Int)]) (GA (∀y∈P,∃z,Gf 199 (aU 9 y)=some [z]/\z.int=0)):=by
   refine hr _ ⟨i+1,rfl,by omega,fun j hj=> ?_⟩;rcases qe.1 hj with hj|rfl
   ·exact hI j hj
   ·exact⟨y,hc,by simpa using h0⟩
  refine ar.ite (fun _=> ?_) fun _=>nx;repeat(refine ar.aa fun _=> ?_)
  refine ar.call fun r hc HM=> ?_;obtain⟨y2,rfl⟩:=bL HM;simp only[aT];exact ar.ite (fun _=>aP (by decide)) fun _=>nx
 ·refine pV fun y hy=> ?_;obtain⟨j,hj,rfl⟩:=gH hy;exact hI j (by omega)
def AB{c0 c2 c5 c6 c7 c8 c9 fJ fx fA ge qQ qR qS qT uV c19 c20 x:Sc}{S:ab}{si now:Int}(h:Gf 35 [c0,.l S,c2,.i si,.i now,c5,c6,c7,c8,c9,fJ,fx,fA,ge,qQ,qR,qS,qT,uV,c19,c20]=some [x])(hx:x.int=0):
 (∃z,Gf 33 [c0,.l S,c2]=some [z]/\z.int=0)/\0<=si/\si<S.length/\(∃z,Gf 75 (aU 13 (S.getD si.toNat (.i 0))++[.i si,.i now,c5,c6,c7,c8,c9,fJ,fx,fA,ge,qQ,qR,qS,qT,uV,c19,c20])=some [z]/\z.bool=true)/\
   (∃z,Gf 76 [.i si,.i now,c5,c6,c7,c8,c9,fJ,fx,fA,ge,qQ,qR,qS,qT,uV,c19,c20]=some [z]/\z.int=0)/\∃z,Gf 78 (aU 14 (S.getD si.toNat (.i 0))++[c7])=some [z]/\z.int=0:=by
 rw[L4]at h
 replace h:pp.aF Gf [c0,.l S,c2,.i si,.i now,c5,c6,c7,c8,c9,fJ,fx,fA,ge,qQ,qR,qS,qT,uV,c19,c20] []=some [x]:=h
 suffices hq:ar (pp.aF Gf [c0,.l S,c2,.i si,.i now,c5,c6,c7,c8,c9,fJ,fx,fA,ge,qQ,qR,qS,qT,uV,c19,c20] []) (GA _)from hq _ h hx
 unfold pp
 simp only[iT,aT]
 refine ar.call fun r hc hr=> ?_
 obtain⟨y,rfl⟩:=bL hr
 simp only[aT]
 refine ar.ite (fun h=>df h) fun h0=> ?_
 refine ar.ite (fun _=>aP (by decide)) fun a1=> ?_
 refine ar.ite (fun _=>aP (by decide)) fun a2=> ?_
 refine ar.ite (fun _=>aP (by decide)) fun _=> ?_
 refine ar.ite (fun _=>aP (by decide)) fun _=> ?_
 refine ar.call fun r _ hr=> ?_
 obtain⟨_,rfl⟩:=bL hr
 simp only[aT]
 refine ar.ite (fun _=>aP (by decide)) fun _=> ?_
 refine ar.call fun r _ hr=> ?_
 obtain⟨_,rfl⟩:=bL hr
 simp only[aT]
 refine ar.ite (fun _=>aP (by decide)) fun _=> ?_
 refine ar.call fun r _ hr=> ?_
 obtain⟨_,rfl⟩:=bL hr
 simp only[aT]
 refine ar.ite (fun _=>aP (by decide)) fun _=> ?_
 repeat(refine ar.aa fun _=> ?_)
 refine ar.call fun r zM hr=> ?_
 obtain⟨b,rfl⟩:=bL hr
 simp only[aT]
 refine ar.ite (fun _=>aP (by decide)) fun hb=> ?_
 refine ar.call fun r DH hr=> ?_
 obtain⟨y2,rfl⟩:=bL hr
 simp only[aT]
 refine ar.ite (fun h=>df h) fun h2=> ?_
 refine ar.call fun r _ hr=> ?_
 obtain⟨y3,rfl⟩:=bL hr
 simp only[aT]
 refine ar.ite (fun h=>df h) fun h3=> ?_
 refine ar.call fun r hc4 hr=> ?_
 obtain⟨y4,rfl⟩:=bL hr
 simp only[aT]
 refine ar.ite (fun h=>df h) fun h4=> ?_
 exact fun r _ _=>⟨⟨y,hc,by simpa using h0⟩,by omega,by omega,⟨b,zM,by simpa[U1.ev]using hb⟩,⟨y2,DH,by simpa using h2⟩,⟨y4,hc4,by simpa using h4⟩⟩
def GI{P:ab}(hP:P.length<=10000000){rs:ab}(h:Gf 81 [.l P]=some rs)(hx:(rs.getD 10 (.i 0)).bool=true):0<P.length/\(∃z,Gf 128 [.l P]=some [z]/\z.int=0)/\rs=aU 9 (P.getD 0 (.i 0))++[.l (P.drop 1),.b true]:=by
 rw[Jx]at h;replace h:nH.aF Gf [.l P] []=some rs:=h;suffices hq:ar (nH.aF Gf [.l P] []) (fun rs=>(rs.getD 10 (.i 0)).bool=true->0<P.length/\(∃z,Gf 128 [.l P]=some [z]/\z.int=0)/\rs=aU 9 (P.getD 0 (.i 0))++[.l (P.drop 1),.b true])from hq _ h hx;have bad:∀{a:ab}{C:ab->Prop},(a.getD 10 (.i 0)).bool=false->ar (some a) (fun rs=>(rs.getD 10 (.i 0)).bool=true->C rs):=fun ha=>ar.some fun e=>by rw[ha]at e;cases e
 unfold nH;simp only[iT,aT];refine ar.ite (fun _=>bad rfl) fun a1=> ?_;refine ar.call fun r hc hr=> ?_;obtain⟨y,rfl⟩:=bL hr;simp only[aT];refine ar.ite (fun _=>bad rfl) fun h0=> ?_;repeat(refine ar.aa fun _=> ?_)
 refine ar.some fun _=>⟨by omega,⟨y,hc,by simpa using h0⟩,?_⟩;have w1:IntKind.i64.wrap ((P.length:Int)-1)=((P.length-1:Nat):Int):=by rw[iO]<;>omega
 have w2:IntKind.i64.wrap (1+((P.length-1:Nat):Int))=(P.length:Int):=by rw[iO]<;>omega
 simp only[w1,w2,R3,om,take_length,aT,reduceToNat];rfl
def abm{c0 c1:Sc}{LK:ab}(hl:LK.length<=10000000){f t:Sc}{rs:ab}(h:Gf 194 [c0,c1,.l LK,f,t]=some rs)(hx:(rs.getD 1 (.i 0)).bool=true):∃a∈LK,(a.list.getD 0 (.i 0)).int=f.int/\(a.list.getD 1 (.i 0)).int=t.int:=by
 rw[Qy]at h;replace h:ud.aF Gf [c0,c1,.l LK,f,t] []=some rs:=h;suffices hq:ar (ud.aF Gf [c0,c1,.l LK,f,t] []) (fun rs=>(rs.getD 1 (.i 0)).bool=true->∃a∈LK,(a.list.getD 0 (.i 0)).int=f.int/\(a.list.getD 1 (.i 0)).int=t.int)from hq _ h hx;have bad:∀{a:Sc}{C:Prop},ar (some [a,.b false]) (fun rs=>(rs.getD 1 (.i 0)).bool=true->C):=ar.some nofun
 unfold ud;rw[T.aF];refine ar.loop (fun w=>∃i:Nat,w=[.i (i:Int)]/\i<=LK.length) ⟨0,rfl,xA _⟩ ?_;rintro w rec ⟨i,rfl,hi⟩ hr;have w1:=cM (i:=i) (by omega);simp only[w1,PQ,aT];refine ar.ite (fun bi=> ?_) fun xj=>bad;repeat(refine ar.aa fun _=> ?_)
 refine ar.ite (fun e1=> ?_) fun _=>hr _ ⟨i+1,rfl,by omega⟩;refine ar.ite (fun e2=> ?_) fun _=>hr _ ⟨i+1,rfl,by omega⟩;intro r _ _;exact⟨LK.getD i (.i 0),bh (by omega),e1,e2⟩
def Z6{c0 c1 c2 c3 c4 c5 c6 c7 a9 Fb GC a12 FO Ly Lz Kd a17 PZ P0 a20 a21 a22 a23 a24 a25 a26 P1 x:Sc}(h:Gf 106 [c0,c1,c2,c3,c4,c5,c6,c7,.i 14,a9,Fb,GC,a12,FO,Ly,Lz,Kd,a17,PZ,P0,a20,a21,a22,a23,a24,a25,a26,P1]=some [x])(hx:x.int=0):∃rs,Gf 194 [c0,c1,c2,c3,a9]=some rs/\(rs.getD 1 (.i 0)).bool=true:=by
 rw[A0]at h;replace h:ft.aF Gf [c0,c1,c2,c3,c4,c5,c6,c7,.i 14,a9,Fb,GC,a12,FO,Ly,Lz,Kd,a17,PZ,P0,a20,a21,a22,a23,a24,a25,a26,P1] []=some [x]:=h;suffices hq:ar (ft.aF Gf [c0,c1,c2,c3,c4,c5,c6,c7,.i 14,a9,Fb,GC,a12,FO,Ly,Lz,Kd,a17,PZ,P0,a20,a21,a22,a23,a24,a25,a26,P1] []) (GA (∃rs,Gf 194 [c0,c1,c2,c3,a9]=some rs/\(rs.getD 1 (.i 0)).bool=true))from hq _ h hx;unfold ft;rw[T.aF];refine ar.call fun r _ hr=> ?_;obtain⟨x1,rfl⟩:=bL hr;rw[T.aF];refine ar.ite (fun _=> ?_) fun _=> ?_
 ·rw[T.aF];exact aP (by decide)
 rw[T.aF];refine ar.call fun r _ hr=> ?_;obtain⟨x2,rfl⟩:=bL hr;rw[T.aF];refine ar.ite (fun _=> ?_) fun _=> ?_
 ·rw[T.aF];exact aP (by decide)
 rw[T.aF];refine ar.aa fun _=> ?_;rw[T.aF];refine ar.aa fun _=> ?_;rw[T.aF];refine ar.call fun r _ hr=> ?_;obtain⟨x3,rfl⟩:=bL hr;have key:∀(p:T bZ)(q1:T bZ)(ρ:ab)(K:List dK)(v:Nat),(∃s,ρ=[c0,c1,c2,c3,c4,c5,c6,c7,.i 14,a9,Fb,GC,a12,FO,Ly,Lz,Kd,a17,PZ,P0,a20,a21,a22,a23,a24,a25,a26,P1]++s/\v=29+s.length)->
  ar ((T.ite (.o .eq (.v 8) (.i 14)) (.call 194 [.v 0,.v 1,.v 2,.v 3,.v 9] 2 (.ite (.u .not (.v v)) (.ah [.i 16]) p)) q1).aF Gf ρ K) (GA (∃rs,Gf 194 [c0,c1,c2,c3,a9]=some rs/\(rs.getD 1 (.i 0)).bool=true)):=by
  rintro p q1 ρ K v ⟨s,rfl,rfl⟩
  rw[T.aF]
  refine ar.ite (fun _=> ?_) fun h=>absurd ?_ h
  ·rw[T.aF];refine ar.call fun r hc hr=> ?_;obtain⟨d,b,rfl⟩:∃d b,r=[d,b]:=by
    match r,hr with
    |[d,b],_=>exact⟨d,b,rfl⟩
   rw[T.aF];refine ar.ite (fun _=> ?_) fun hb=> ?_
   ·rw[T.aF];exact aP (by decide)
   ·have SY:b.bool=true:=by
     have e:(Ex.v (29+s.length)).ev ([c0,c1,c2,c3,c4,c5,c6,c7,.i 14,a9,Fb,GC,a12,FO,Ly,Lz,Kd,a17,PZ,P0,a20,a21,a22,a23,a24,a25,a26,P1]++s++[d,b])=b:=by show([c0,c1,c2,c3,c4,c5,c6,c7,Sc.i 14,a9,Fb,GC,a12,FO,Ly,Lz,Kd,a17,PZ,P0,a20,a21,a22,a23,a24,a25,a26,P1]++s++[d,b]).getD (29+s.length) (.i 0)=b;rw[cE,lR (by simp;omega)];rw[show 29+s.length-([c0,c1,c2,c3,c4,c5,c6,c7,Sc.i 14,a9,Fb,GC,a12,FO,Ly,Lz,Kd,a17,PZ,P0,a20,a21,a22,a23,a24,a25,a26,P1]++s).length=1 by simp;omega];rfl
     have hb:¬(U1.ev .not ((Ex.v (29+s.length)).ev ([c0,c1,c2,c3,c4,c5,c6,c7,.i 14,a9,Fb,GC,a12,FO,Ly,Lz,Kd,a17,PZ,P0,a20,a21,a22,a23,a24,a25,a26,P1]++s++[d,b]))).bool=true:=hb;rw[e]at hb;simpa[U1.ev]using hb
    exact fun r _ _=>⟨[d,b],hc,SY⟩
  ·rfl
 rw[T.aF];refine ar.ite (fun _=> ?_) fun _=> ?_
 ·rw[T.aF];refine ar.ite (fun _=> ?_) fun _=> ?_
  ·rw[T.aF];exact aP (by decide)
  ·exact key _ _ _ _ 32 ⟨[x1,x2,x3],rfl,rfl⟩
 ·exact key _ _ _ _ 32 ⟨[x1,x2,x3],rfl,rfl⟩
def inG(GD:bH):Ty->Bool
 | .ae j=>GD.contains j| .aV j=>GD.contains j|_=>true
def Vj(GD:bH):Ty->Bool
 | .ae j=>GD.contains j| .aV j=>false|_=>true
def W8(GD:bH):Bool:=GD.all fun k=>match am.tk k with
 | .no=>true| .row cs=>cs.all (Vj GD)| .vec t=>Vj GD t
structure Tr(GD:bH)(pm Rr:Pm):Prop where
 len:∀k∈GD,∀L,Rr.len k=some L->pm.len k=some L
 ix:∀k∈GD,am.tk k= .no->∀z,pm.ix k z->Rr.ix k z
 rel:∀k∈GD,∀q∈am.ma k,∀vs,J0 pm q.1 vs->J0 Rr q.1 vs
section
variable{GD:bH}{pm Rr:Pm}(hc:W8 GD=true)(hs:Tr GD pm Rr)
theorem Tt{I I':Nat->Sc->Prop}(h:∀k∈GD,∀x,I k x->I' k x):∀{t:Ty}{x:Sc},Vj GD t=true->th I t x->th I' t x
 | .ae k,x,hg,hx=>h k (by simpa[Vj]using hg) x hx| .any,_,_,h=>h| .int,_,_,h=>h| .nat,_,_,h=>h| .bool,_,_,h=>h| .str _,_,_,h=>h| .aV _,_,_,h=>h
theorem HQ{I I':Nat->Sc->Prop}(h:∀k∈GD,∀x,I k x->I' k x):∀{ts:List Ty}{xs:ab},ts.all (Vj GD)=true->fl I ts xs->fl I' ts xs
 |[],[],_,_=>trivial|t::ts,x::xs,hg,hx=>by rw[wZ,aL]at hg;exact⟨Tt h hg.1 hx.1,HQ h hg.2 hx.2⟩
 |[],_::_,_,h=>h.elim|_::_,[],_,h=>h.elim
include hc hs
theorem Od{I I':Nat->Sc->Prop}(h:∀k∈GD,∀x,I k x->I' k x){k:Nat}(hk:k∈GD){y:Sc}(hy:cA am I (J0 pm) k y):cA am I' (J0 Rr) k y:=by
 have hck:=lO.1 hc k hk;unfold cA at hy⊢;split at hy
 ·exact hy
 ·rename_i t ht;rw[ht]at hck;exact Tt h hck hy
 ·rename_i cs ht;rw[ht]at hck;obtain⟨⟨c,h1,h2⟩,h3⟩:=hy;exact⟨⟨c,h1,HQ h hck h2⟩,fun q hq=>hs.rel k hk q hq _ (h3 q hq)⟩
theorem adC:∀n,∀k∈GD,∀x,In pm n k x->In Rr n k x
 |0,k,hk,x,⟨h1,z,h2,h3⟩=>⟨h1,z,h2,hs.ix k hk h1 z h3⟩|n+1,k,hk,x,h=>by
  rcases h with⟨h1,z,h2,h3⟩|⟨h1,xs,h2,h3,h4,h5⟩
  ·exact .inl ⟨h1,z,h2,hs.ix k hk h1 z h3⟩
  ·exact .inr ⟨h1,xs,h2,h3,fun L hL=>h4 L (hs.len k hk L hL),fun y hy=>Od hc hs (adC n) hk (h5 y hy)⟩
theorem Nu(k:Nat)(hk:k∈GD)(x:Sc)(h:II pm k x):II Rr k x:=by obtain⟨n,h⟩:=h;exact⟨n,adC hc hs n k hk x h⟩
theorem agO{N M:Nat}:∀{t:Ty}{x:Sc},inG GD t=true->has am (II pm) (JJ pm N) t x->has am (II Rr) (JJ Rr M) t x
 | .aV k,x,hg,⟨xs,h1,h2⟩=>⟨xs,h1,fun y hy=>qW.1 (Od hc hs (fun k hk x=>Nu hc hs k hk x) (by simpa[inG]using hg) (qW.2 (h2 y hy)))⟩| .ae k,x,hg,hx=>Nu hc hs k (by simpa[inG]using hg) x hx| .any,_,_,h=>h| .int,_,_,h=>h| .nat,_,_,h=>h| .bool,_,_,h=>h| .str _,_,_,h=>h
theorem Cn{N M:Nat}:∀{ts:List Ty}{xs:ab},ts.all (inG GD)=true->cR am (II pm) (JJ pm N) ts xs->cR am (II Rr) (JJ Rr M) ts xs
 |[],[],_,_=>trivial|t::ts,x::xs,hg,hx=>by rw[wZ,aL]at hg;exact⟨agO hc hs hg.1 hx.1,Cn hg.2 hx.2⟩
 |[],_::_,_,h=>h.elim|_::_,[],_,h=>h.elim
end
def HT:bH:=[3,88,100,173,361,373,377,1015,1016,1017,1018,1019,1020,1021,1022,1023,1024,1026,1027,1028,1029,1030,1031,1032]
theorem xT:W8 HT=true:=by decide+kernel
def HR:bH:=[3,9,63,67,76,88,95,100,105,109,111,115,126,130,137,173,184,187,193,196,200,203,208,213,223,270,283,361,373,377,408,411,35,134,117,1006]
theorem Nt:W8 HR=true:=by decide+kernel
section
variable{tb:Tb}{I:Nat->Sc->Prop}{J:Nat->ab->Prop}
theorem Ck:∀{ts us:List Ty}{xs:ab},cR tb I J (ts++us) xs->∃a b,xs=a++b/\a.length=ts.length/\cR tb I J ts a/\cR tb I J us b
 |[],us,xs,h=>⟨[],xs,rfl,rfl,trivial,h⟩|t::ts,us,[],h=>h.elim|t::ts,us,x::xs,h=>by obtain⟨a,b,e,l,h1,h2⟩:=Ck (ts:=ts) h.2;exact⟨x::a,b,by rw[e];rfl,by simp[l],⟨h.1,h1⟩,h2⟩
theorem Cm:∀{ts us:List Ty}{a b:ab},cR tb I J ts a->cR tb I J us b->cR tb I J (ts++us) (a++b)
 |[],_,[],_,_,h=>h|_::_,_,_::_,_,h,g=>⟨h.1,Cm h.2 g⟩|[],_,_::_,_,h,_=>h.elim|_::_,_,[],_,h,_=>h.elim
end
def Pm.at(pm:Pm)(r:Int)(n:Nat):Pm where
 len k:=if k=bQ then some n else pm.len k
 ix k z:=if k=jE then z=r else if k=eS then ∃m:Nat,z=m/\m<n else pm.ix k z
 FL:=pm.FL
 rv:=pm.rv
theorem Kk(pm:Pm)(r:Int)(n k:Nat)(z:Int):(pm.at r n).ix k z=(if k=jE then z=r else if k=eS then ∃m:Nat,z=m/\m<n else pm.ix k z):=rfl
theorem at_len(pm:Pm)(r:Int)(n k:Nat):(pm.at r n).len k=(if k=bQ then some n else pm.len k):=rfl
section
variable{pm:Pm}(hp:dG pm){r:Int}{n:Nat}(hr:pm.ix og r)(hn:pm.FL r=some n)
include hp hr hn
theorem adN:dG (pm.at r n) where
 len:=fun k h=>by
  by_cases e:k=bQ
  ·subst e;decide
  ·exact hp.len k (by simpa[Pm.at,e]using h)
 nat:=fun e he hl z hz=>by
  simp only[Pm.at]at hz;by_cases h1:e.1=jE
  ·rw[aA h1]at hz;have:∃e∈BA,Wv e.1=true/\e.1=og:=by decide+kernel
   obtain⟨e',he',hl',h2⟩:=this;exact hp.nat e' he' hl' z (by rw[h2,hz];exact hr)
  ·rw[aE h1]at hz;by_cases h2:e.1=eS
   ·rw[aA h2]at hz;obtain⟨m,rfl,_⟩:=hz;omega
   ·rw[aE h2]at hz;exact hp.nat e he hl z hz
 isr:=fun z hz=>by
  have hz:z=r:=by simpa[Pm.at]using hz
  rw[hz];rw[Kk,aE (by decide),aE (by decide)];exact hr
 inr:=fun q hq=>by
  by_cases h2:q.1=eS
  ·have:∀q∈am.inr,q.1=eS->q.2=bQ:=by decide+kernel
   refine⟨n,by show(if q.2=bQ then some n else pm.len q.2)=some n;rw[aA (this q hq h2)],fun z hz=> ?_⟩;have hz:(if q.1=jE then z=r else if q.1=eS then ∃m:Nat,z=m/\m<n else pm.ix q.1 z):=hz;rw[h2,aE (by decide),aA rfl]at hz;exact hz
  ·have hs:∀q∈am.inr,q.1≠eS->q.2≠bQ:=by decide+kernel
   by_cases h1:q.1=jE
   ·have:∀q∈am.inr,q.1=jE->(og,q.2)∈am.inr:=by decide+kernel
    obtain⟨L,hL,hz⟩:=hp.inr _ (this q hq h1);refine⟨L,by show(if q.2=bQ then some n else pm.len q.2)=some L;rw[aE (hs q hq h2)];exact hL,fun z nQ=> ?_⟩;have nQ:(if q.1=jE then z=r else if q.1=eS then ∃m:Nat,z=m/\m<n else pm.ix q.1 z):=nQ;rw[aA h1]at nQ;rw[nQ];exact hz r hr
   ·obtain⟨L,hL,hz⟩:=hp.inr q hq;refine⟨L,by show(if q.2=bQ then some n else pm.len q.2)=some L;rw[aE (hs q hq h2)];exact hL,fun z nQ=>hz z ?_⟩;have nQ:(if q.1=jE then z=r else if q.1=eS then ∃m:Nat,z=m/\m<n else pm.ix q.1 z):=nQ
    rwa [aE h1,aE h2]at nQ
 Vs:=fun L hL m hm=>by
  have hL:pm.len gq=some L:=by
   have:(if gq=bQ then some n else pm.len gq)=some L:=hL
   rwa [aE (by decide)]at this
  rw[Kk,aE (by decide),aE (by decide)];exact hp.Vs L hL m hm
 FL:=fun z L hz hL=>by
  have hz:z=r:=by simpa[Pm.at]using hz
  have hL:n=L:=by have:(if bQ=bQ then some n else pm.len bQ)=some L:=hL;rw[aA rfl]at this;exact xX this
  rw[hz,<-hL];exact hn
 aC:=⟨n,by rw[at_len,aA rfl]⟩
 rvl:=by show(if gq=bQ then some n else pm.len gq)=some pm.rv.list.length;rw[aE (by decide)];exact hp.rvl
 rvs:=hp.rvs
 ins:=fun m hm y hy w hw h=>by
  obtain⟨k,h1,z,h2,h3,h4⟩:=hp.ins m hm y hy w hw h;refine⟨k,h1,z,h2,h3,fun hk=> ?_⟩;rw[Kk];have:∀w∈am.rt,w.2.2.2.2≠.ae jE:=by decide+kernel
  rw[aE (fun e=>this w hw (by rw[h1,e])),aE hk];exact h4 hk
 hand:=hp.hand
theorem adO:Tr HT pm (pm.at r n) where
 len:=fun k hk L hL=>by
  have:∀k∈HT,k≠bQ:=by decide
  have hL:(if k=bQ then some n else pm.len k)=some L:=hL
  rwa [aE (this k hk)]at hL
 ix:=fun k hk _ z hz=>by
  have:∀k∈HT,k≠jE/\k≠eS:=by decide
  rw[Kk];rw[aE (this k hk).1,aE (this k hk).2];exact hz
 rel:=fun k hk q hq vs h=>by
  have:∀k∈HT,∀q∈am.ma k,q.1=0:=by decide+kernel
  rw[this k hk q hq]at h⊢;exact h
theorem abr:Tr HT (pm.at r n) pm where
 len:=fun k hk L hL=>by
  have:∀k∈HT,k≠bQ:=by decide
  show(if k=bQ then some n else pm.len k)=some L;rw[aE (this k hk)];exact hL
 ix:=fun k hk _ z hz=>by
  have:∀k∈HT,k≠jE/\k≠eS:=by decide
  have hz:(if k=jE then z=r else if k=eS then ∃m:Nat,z=m/\m<n else pm.ix k z):=hz
  rwa [aE (this k hk).1,aE (this k hk).2]at hz
 rel:=fun k hk q hq vs h=>by
  have:∀k∈HT,∀q∈am.ma k,q.1=0:=by decide+kernel
  rw[this k hk q hq]at h⊢;exact h
end
def ac4:List Ty:=ba.args.take 22
def anO:List Ty:=ba.args.drop 25
theorem Z0:bz.args=ac4++(.ae 1034:: .int:: .ae 1025::anO):=rfl
def aeZ:List Ty:=ba.res.take 17
def ae0:List Ty:=ba.res.drop 18
theorem ac5:ba.res=aeZ++(.aV 3::ae0):=rfl
theorem Z2:bz.res=aeZ++(.ae 1025::ae0):=rfl
theorem ac6:bz.pre=ba.pre.take 3++[.ty (.u (.cell 3) (.o .idx (.v 13) (.v 22))) (.ae 1033),.rel 6 [.v 13]]:=rfl
theorem IH:ba.pre=ba.pre.take 3++[.rel 0 [.v 22,.v 24],.rel 6 [.v 13]]:=rfl
theorem isT:∀f∈ba.pre.take 3,∃e b,f= .t e b:=by intro f hf;simp only[ba,take,bX,nV,AR]at hf;rcases hf with rfl|rfl|rfl<;>exact⟨_,_,rfl⟩
theorem aug:∀f∈bz.post,∃e b,f= .t e b:=by intro f hf;simp only[bz,bX,nV,AR]at hf;rcases hf with rfl|rfl|rfl<;>exact⟨_,_,rfl⟩
theorem IE:∀w∈am.rt,w.1=5/\w.2.1=0/\(w.2.2.2.1=1\/w.2.2.2.1=2):=by decide+kernel
theorem T8:am.tk 173=am.tk 1033/\am.cap 173<=am.cap 1033:=⟨by kernel_rfl,by decide+kernel⟩
theorem instrs_ok{pm:Pm}(hp:dG pm){N:Nat}{n:Nat}(hn:n<pm.rv.list.length){m:Nat}(hm:pm.FL n=some m)(hr:pm.ix og n)(hv:has am (II pm) (JJ pm N) (.ae 1026) pm.rv):II (pm.at n m) 1033 ((pm.rv.list.getD n (.i 0)).list.getD 3 (.i 0)):=by
 obtain⟨L,h1,h2,h3⟩:=(cY hp (N:=N)).list 1026 _ (aj (by decide+kernel)) hv;have hy:pm.rv.list.getD n (.i 0)∈L:=by rw[h1]at hn⊢;show L.getD n (.i 0)∈L;have hn:n<L.length:=hn;rw[cE,cB hn];exact BQ hn
 have he:=h3 _ hy;unfold cA at he;rw[show am.tk 1026= .row [.str 4294967296,.int,.int,.ae 173]by kernel_rfl]at he;obtain⟨⟨c,e1,e2⟩,_⟩:=he;rw[e1]
 match c,e2 with
 |[a0,a1,a2,a3],e2=>
  have i3:II pm 173 a3:=e2.2.2.2.1;show II (pm.at n m) 1033 a3;obtain⟨l2,f1,f2,f3,f4⟩:=(bO (aj (by decide+kernel))).1 i3;subst f1;have hto:=adO hp hr hm;have bT:=adN hp hr hm;refine(bO (aj (by decide+kernel))).2 ⟨l2,rfl,bI f2 T8.2,fun L hL=> ?_,fun y hy=> ?_⟩
  ·have:=bT.len 1033 (by rw[hL];simp);exact absurd this (by decide)
  ·have g:=f4 y hy;have vl:=hp.ins n hn y (by rw[e1];exact hy);unfold cA at g⊢;rw[T8.1]at g;have ek:∃cs,am.tk 1033= .row cs/\cs.all (Vj HT)=true:=⟨[.int,.int,.int,.int,.int,.str 4294967296,.int,.ae 100,.int,.str 4294967296,.int,.ae 100,.ae 100,.int,.int,.int,.int,.ae 3,.ae 3,.bool],by kernel_rfl,by decide⟩;obtain⟨cs,ek,ea⟩:=ek;rw[ek]at g;rw[ek];obtain⟨⟨c,k1,k2⟩,_⟩:=g;refine⟨⟨c,k1,HQ (fun k hk x=>Nu xT hto k hk x) ea k2⟩,fun q hq=> ?_⟩;have hq5:∀q∈am.ma 1033,q=(5,[0,1,2]):=by decide+kernel
   rw[hq5 q hq];show J0 (pm.at n m) 5 [y.list.getD 0 (.i 0),y.list.getD 1 (.i 0),y.list.getD 2 (.i 0)];unfold J0;rw[aE (by decide),aA rfl];intro w hw hwv;obtain⟨w5,w0,Ur⟩:=IE w hw;have ev0:[y.list.getD 0 (.i 0),y.list.getD 1 (.i 0),y.list.getD 2 (.i 0)].getD w.2.1 (.i 0)=y.list.getD w.2.1 (.i 0):=by rw[w0];rfl
   have ev1:[y.list.getD 0 (.i 0),y.list.getD 1 (.i 0),y.list.getD 2 (.i 0)].getD w.2.2.2.1 (.i 0)=y.list.getD w.2.2.2.1 (.i 0):=by rcases Ur with e|e<;>rw[e]<;>rfl
   rw[ev0]at hwv;rw[ev1];obtain⟨k,u1,z,u2,u3,u4⟩:=vl w hw hwv;have Dh:=(T9 w hw).2;rw[u1]at Dh⊢;refine⟨oK Dh,z,u2,?_⟩;rw[Kk];have hni:∀w∈am.rt,w.2.2.2.2≠.ae jE:=by decide+kernel
   rw[aE (fun e=>hni w hw (by rw[u1,e]))];by_cases ek:k=eS
   ·rw[aA ek];obtain⟨v1,m',v2,v3⟩:=u3 ek;have e:m'=m:=by rw[hm]at v2;exact(xX v2).symm
    exact⟨z.toNat,by omega,by omega⟩
   ·rw[aE ek];exact u4 ek
section
variable{pm:Pm}(hp:dG pm)(N:Nat)
include hp
theorem yu(F7:∀pm,dG pm->dQ am (II pm) (JJ pm N) Gf bz):dQ am (II pm) (JJ pm N) Gf ba:=by
 intro xs hx gk;have hx:cR am (II pm) (JJ pm N) (ac4++(.ae 1028:: .int:: .ae 3::anO)) xs:=hx;obtain⟨A,R,rfl,lA,hA,hR⟩:=Ck hx;obtain⟨r0,R,rfl,h0,hR⟩:=af hR;obtain⟨r1,R,rfl,h1,hR⟩:=af hR;obtain⟨r2,B,rfl,h2,hB⟩:=af hR;have lA:A.length=22:=lA;have e22:(A++r0::r1::r2::B).getD 22 (.i 0)=r0:=by rw[cE,lR (by omega),lA];rfl
 have e24:(A++r0::r1::r2::B).getD 24 (.i 0)=r2:=by rw[cE,lR (by omega),lA];rfl
 obtain⟨r,rfl,hr⟩:=(m9 (k:=1028) (by kernel_rfl)).1 h0;have q0:JJ pm N 0 [(A++ .i r::r1::r2::B).getD 22 (.i 0),(A++ .i r::r1::r2::B).getD 24 (.i 0)]:=gk (.rel 0 [(.v 22),(.v 24)]) (by rw[IH];simp);rw[e22,e24]at q0;have q0:J0 pm 0 [.i r,r2]:=by unfold JJ Jm at q0;rwa [aA (by decide)]at q0
 obtain⟨a,x,m,e,hm,hl⟩:∃a x m,[Sc.i r,r2]=[a,x]/\pm.FL a.int=some m/\x.list.length=m:=by unfold J0 at q0;rwa [aA rfl]at q0
 obtain⟨rfl,rfl⟩:Sc.i r=a/\r2=x:=by simpa using e
 have q6:JJ pm N 6 [(A++ .i r::r1::r2::B).getD 13 (.i 0)]:=gk (.rel 6 [(.v 13)]) (by rw[IH];simp);have q6:(A++ .i r::r1::r2::B).getD 13 (.i 0)=pm.rv:=by unfold JJ Jm at q6;rw[aA (by decide)]at q6;unfold J0 at q6;rw[aE (by decide),aE (by decide),aE (by decide),aE (by decide)]at q6;simpa using q6
 have hm:pm.FL r=some m:=hm;have bT:=adN hp hr hm;have hto:=adO hp hr hm;have gV:=abr hp hr hm;obtain⟨rs,g1,g2,g3⟩:=F7 (pm.at r m) bT (A++ .i r::r1::r2::B) (by
  rw[Z0];refine Cm (Cn xT hto (by decide) hA) ⟨(m9 (k:=1034) (by kernel_rfl)).2 ⟨r,rfl,?_⟩,h1,?_,Cn xT hto (by decide) hB⟩
  ·rw[Kk,aA rfl]
  ·obtain⟨l2,e1,e2,e3,e4⟩:=(bO (k:=3) (aj (by decide+kernel))).1 h2;refine(bO (k:=1025) (aj (by decide+kernel))).2 ⟨l2,e1,e2,fun L hL=> ?_,fun y hy=> ?_⟩
   ·have hL:(if(1025:Nat)=bQ then some m else pm.len 1025)=some L:=hL;rw[aA rfl]at hL;rw[e1]at hl;have:l2.length=m:=hl;rw[this];exact xX hL
   ·have:=e4 y hy;unfold cA at this⊢;rw[show am.tk 3= .vec .int by kernel_rfl]at this;rw[show am.tk 1025= .vec .int by kernel_rfl];exact this) (by
  intro f hf;rw[ac6]at hf;rcases ic.1 hf with hf|hf
  ·have:=gk f (by rw[IH];exact iv _ hf);obtain⟨e,b,rfl⟩:=isT f hf;exact this
  ·simp only[bX,nV,AR]at hf;rcases hf with rfl|rfl
   ·show has am _ _ (.ae 1033) (((A++ .i r::r1::r2::B).getD 13 (.i 0)).list.getD ((A++ .i r::r1::r2::B).getD 22 (.i 0)).int.toNat (.i 0)|>.list.getD 3 (.i 0));rw[q6,e22];have hv:has am (II pm) (JJ pm N) (.ae 1026) pm.rv:=by rw[<-q6];have hA2:cR am (II pm) (JJ pm N) (ac4.take 13++(.ae 1026::ac4.drop 14)) A:=hA;obtain⟨A1,A2,rfl,l1,_,hA2⟩:=Ck hA2;obtain⟨v,A3,rfl,hv,_⟩:=af hA2;have l1:A1.length=13:=l1;rw[eh,cE,lR (by omega),l1];exact hv
    obtain⟨L,hL,hz⟩:=hp.inr (1028,1026) (by decide+kernel);obtain⟨k,rfl,hk⟩:=hz r hr;have hL2:L=pm.rv.list.length:=by have:=hp.rvl;have e:pm.len 1026=some L:=hL;rw[show pm.len 1026=some pm.rv.list.length from this]at e;exact(xX e).symm
    exact instrs_ok hp (by omega) hm hr hv
   ·show JJ (pm.at r m) N 6 _;unfold JJ Jm;rw[aA (by decide)];show J0 (pm.at r m) 6 [(A++ .i r::r1::r2::B).getD 13 (.i 0)];unfold J0;rw[aE (by decide),aE (by decide),aE (by decide),aE (by decide),q6];rfl)
 refine⟨rs,g1,?_,fun f hf=> ?_⟩
 ·rw[Z2]at g2;rw[ac5];obtain⟨a,b,rfl,_,ga,gb⟩:=Ck g2;obtain⟨s,b,rfl,gs,gb⟩:=af gb;refine Cm (Cn xT gV (by decide) ga) ⟨?_,Cn xT gV (by decide) gb⟩;obtain⟨l2,e1,e2,e3,e4⟩:=(bO (k:=1025) (aj (by decide+kernel))).1 gs;refine⟨l2,e1,fun y hy=> ?_⟩;have:=e4 y hy;unfold cA at this⊢;rw[show am.tk 1025= .vec .int by kernel_rfl]at this;rw[show am.tk 3= .vec .int by kernel_rfl];exact this
 ·have:=g3 f hf;obtain⟨e,b,rfl⟩:=aug f hf;exact this
end
def cN(s:Sc)(k:Nat):Nat:=(s.list.getD k (.i 0)).list.length
def Ax:List (Nat×Nat):=[(OX,2),(TF,1),(TC,2),(TD,3),(Tx,4),(TB,5),(Y2,6),(TE,7),(TA,8),(Tz,9),(YZ,13),(gq,13)]
def FB:List (Nat×Nat):=[(am7,1),(ahz,2),(am5,3),(am1,4),(am4,5),(ahA,6),(am6,7),(am3,8),(am2,9),(og,13)]
def Ge(k:Nat):List (Nat×Nat)->Option Nat
 |[]=>none|(a,b)::r=>if a=k then some b else Ge k r
def TK{k j:Nat}:∀{t:List (Nat×Nat)},Ge k t=some j->(k,j)∈t
 |[],h=>by cases h
 |(a,b)::r,h=>by
  unfold Ge at h;split at h
  ·rename_i e;subst e;cases h
   exact fc ..
  ·exact bB _ (TK h)
def bS(S:ab)(si:Nat):Sc:=S.getD si (.i 0)
def eD(S LK:ab)(si:Nat):Pm where
 len k:=if k=bQ then some 0 else(Ge k Ax).map (cN (bS S si))
 ix k z:=if k=H5 then z=si else if k=mI then(∃n:Nat,z=n/\n<S.length/\∃a∈LK,(a.list.getD 0 (.i 0)).int=si/\(a.list.getD 1 (.i 0)).int=n)else ∃j,Ge k FB=some j/\∃n:Nat,z=n/\n<cN (bS S si) j
 FL z:=if 0<=z/\z.toNat<cN (bS S si) 13 then some ((((bS S si).list.getD 13 (.i 0)).list.getD z.toNat (.i 0)).list.getD 2 (.i 0)).int.toNat else none
 rv:=(bS S si).list.getD 13 (.i 0)
section
variable{S LK:ab}{si:Nat}
def zi(k:Nat):(eD S LK si).len k=(if k=bQ then some 0 else(Ge k Ax).map (cN (bS S si))):=rfl
def AF(k:Nat)(z:Int):(eD S LK si).ix k z=(if k=H5 then z=si else if k=mI then(∃n:Nat,z=n/\n<S.length/\∃a∈LK,(a.list.getD 0 (.i 0)).int=si/\(a.list.getD 1 (.i 0)).int=n)else ∃j,Ge k FB=some j/\∃n:Nat,z=n/\n<cN (bS S si) j):=rfl
def RO(z:Int):(eD S LK si).FL z=(if 0<=z/\z.toNat<cN (bS S si) 13 then some ((((bS S si).list.getD 13 (.i 0)).list.getD z.toNat (.i 0)).list.getD 2 (.i 0)).int.toNat else none):=rfl
def ahx{k:Nat}{z:Int}(h:(eD S LK si).ix k z):∃n:Nat,z=n:=by
 rw[AF]at h;by_cases h1:k=H5
 ·rw[aA h1]at h;exact⟨si,h⟩
 ·rw[aE h1]at h;by_cases h2:k=mI
  ·rw[aA h2]at h;obtain⟨n,e,_⟩:=h;exact⟨n,e⟩
  ·rw[aE h2]at h;obtain⟨_,_,n,e,_⟩:=h;exact⟨n,e⟩
def Gb{k:Nat}{z:Int}(h1:k≠H5)(h2:k≠mI)(h3:Ge k FB=none):¬(eD S LK si).ix k z:=by rw[AF,aE h1,aE h2,h3];rintro⟨_,e,_⟩;cases e
def acr:∀q∈am.inr,q.1≠H5/\q.1≠mI/\((q.2=bQ/\Ge q.1 FB=none)\/(q.2≠bQ/\(Ge q.2 Ax).isSome=true/\(Ge q.1 FB=none\/Ge q.1 FB=Ge q.2 Ax))):=by decide+kernel
def WB(S LK:ab)(si:Nat):Prop:=∀n:Nat,n<cN (bS S si) 13->0<=((((bS S si).list.getD 13 (.i 0)).list.getD n (.i 0)).list.getD 2 (.i 0)).int/\
 ∀y∈((((bS S si).list.getD 13 (.i 0)).list.getD n (.i 0)).list.getD 3 (.i 0)).list,∀w∈am.rt,(y.list.getD w.2.1 (.i 0)).int=w.2.2.1->∃k,w.2.2.2.2= .ae k/\∃z,y.list.getD w.2.2.2.1 (.i 0)= .i z/\(k=eS->0<=z/\z<((((bS S si).list.getD 13 (.i 0)).list.getD n (.i 0)).list.getD 2 (.i 0)).int)/\(k≠eS->(eD S LK si).ix k z)
def aac(hI:WB S LK si):dG (eD S LK si):=by
 have vl:∀n:Nat,n<(eD S LK si).rv.list.length->∀y∈(((eD S LK si).rv.list.getD n (.i 0)).list.getD 3 (.i 0)).list,∀w∈am.rt,(y.list.getD w.2.1 (.i 0)).int=w.2.2.1->∃k,w.2.2.2.2= .ae k/\∃z,y.list.getD w.2.2.2.1 (.i 0)= .i z/\(k=eS->0<=z/\∃m:Nat,(eD S LK si).FL n=some m/\z<m)/\(k≠eS->(eD S LK si).ix k z):=by intro n hn y hy w hw h;obtain⟨k,h1,z,h2,h3,h4⟩:=(hI n hn).2 y hy w hw h;refine⟨k,h1,z,h2,fun e=> ?_,h4⟩;obtain⟨g1,g2⟩:=h3 e;have h0:=(hI n hn).1;have hn':n<cN (bS S si) 13:=hn;refine⟨g1,_,by rw[RO,aA ⟨by omega,by simpa using hn'⟩],?_⟩;rw[om];omega
 exact{
  len:=fun k h=>by
   rw[zi]at h;by_cases e:k=bQ
   ·subst e;decide
   ·rw[aE e]at h;cases hj:Ge k Ax with
    |none=>rw[hj]at h;exact absurd rfl h|some j=>
     have:∀e∈Ax,e.1∈sj:=by decide
     exact this _ (TK hj)
  nat:=fun e _ _ z hz=>by obtain⟨n,rfl⟩:=ahx hz;omega
  isr:=fun z hz=>absurd hz (Gb (by decide) (by decide) (by decide))
  inr:=fun q hq=>by
   obtain⟨h1,h2,h3⟩:=acr q hq;rcases h3 with⟨h3,h4⟩|⟨h3,h4,h5⟩
   ·exact⟨0,by rw[zi,aA h3],fun z hz=>absurd hz (Gb h1 h2 h4)⟩
   ·obtain⟨j,hj⟩:=uh.1 h4;refine⟨cN (bS S si) j,by rw[zi,aE h3,hj];rfl,fun z hz=> ?_⟩;rcases h5 with h5|h5
    ·exact absurd hz (Gb h1 h2 h5)
    ·rw[AF,aE h1,aE h2,h5,hj]at hz;obtain⟨_,e,hz⟩:=hz;cases e
     exact hz
  Vs:=fun L hL n hn=>by rw[zi,aE (by decide),show Ge gq Ax=some 13 by decide]at hL;have hL:cN (bS S si) 13=L:=xX hL;rw[AF,aE (by decide),aE (by decide)];exact⟨13,by decide,n,rfl,by omega⟩
  FL:=fun z L hz=>absurd hz (Gb (by decide) (by decide) (by decide))
  aC:=⟨0,by rw[zi,aA rfl]⟩
  rvl:=by rw[zi,aE (by decide),show Ge gq Ax=some 13 by decide];rfl
  rvs:=fun n hn=>by
   have h0:=(hI n hn).1;have hn':n<cN (bS S si) 13:=hn;refine⟨((((bS S si).list.getD 13 (.i 0)).list.getD n (.i 0)).list.getD 2 (.i 0)).int.toNat,?_,?_⟩
   ·show((((bS S si).list.getD 13 (.i 0)).list.getD n (.i 0)).list.getD 2 (.i 0)).int=_;omega
   ·rw[RO,aA ⟨by omega,by simpa using hn'⟩,om]
  ins:=vl
  hand:=fun n hn y hy h m hm=>by
   have hw:∃w∈am.rt,w.2.1=0/\w.2.2.1=10/\w.2.2.2.1=2/\w.2.2.2.2= .ae eS:=by decide+kernel
   obtain⟨w,hw,w1,w2,w3,w4⟩:=hw;obtain⟨k,h1,z,h2,h3,_⟩:=vl n hn y hy w hw (by rw[w1,w2];exact h);have hk:k=eS:=by rw[w4]at h1;exact(Ty.ae.inj h1).symm
   obtain⟨g1,m',g2,g3⟩:=h3 hk;have:m'=m:=by rw[hm]at g2;exact(xX g2).symm
   rw[w3]at h2;rw[h2];exact⟨g1,by show z<_;omega⟩}
end
def bdX:Ty->Ex
 | .ae k=>if k=eS then .v 6 else if k=mI then .u .len (.v 1)else match Ge k FB with
   |some j=> .u .len (.u (.cell j) (.o .idx (.v 1) (.v 3)))|none=> .nil
 |_=> .nil
def pLe(w:Nat×Nat×Int×Nat×Ty):Fc:= .imp (.o .eq (.v 28) (.i 0)) true (.imp (.o .eq (.v 8) (.i w.2.2.1)) true (.t (.o .le (.i 0) (.v (8+w.2.2.2.1))) true))
def pLt(w:Nat×Nat×Int×Nat×Ty):Fc:= .imp (.o .eq (.v 28) (.i 0)) true (.imp (.o .eq (.v 8) (.i w.2.2.1)) true (.t (.o .lt (.v (8+w.2.2.2.1)) (bdX w.2.2.2.2)) true))
def OM:aK.post=am.rt.flatMap fun w=>[pLe w,pLt w]:=by kernel_rfl
def Hp(ρ:ab)(a:Ex)(z:Int):((Ex.o .eq a (.i z)).ev ρ).bool=true↔(a.ev ρ).int=z:=by show((a.ev ρ).int==z)=true↔_;exact AO
section
variable{pm:Pm}{N:Nat}
def acs(F7:dQ am (II pm) (JJ pm N) Gf aK){xs:ab}(hx:cR am (II pm) (JJ pm N) aK.args xs)(h3:(0:Int)<=(xs.getD 3 (.i 0)).int/\(xs.getD 3 (.i 0)).int<((xs.getD 1 (.i 0)).list.length:Int)){x:Sc}(h:Gf 106 xs=some [x])(h0:x.int=0){w:Nat×Nat×Int×Nat×Ty}(hw:w∈am.rt)(ho:(xs.getD 8 (.i 0)).int=w.2.2.1):0<=(xs.getD (8+w.2.2.2.1) (.i 0)).int/\(xs.getD (8+w.2.2.2.1) (.i 0)).int<((bdX w.2.2.2.2).ev xs).int:=by
 have hl:xs.length=28:=(pR hx).symm
 obtain⟨rs,g1,g2,g3⟩:=F7 xs hx (fun f hf=>by
  simp only[aK,bX,nV,AR]at hf;rcases hf with rfl|rfl
  ·exact lP h3.1
  ·exact lP h3.2)
 have e:rs=[x]:=by have g1:Gf 106 xs=some rs:=g1;rw[h]at g1;exact(xX g1).symm
 subst e
 have bi:w.2.2.2.1<20:=by have:=IE w hw;omega
 have at1:∀k,k<28->(Ex.v k).ev (xs++[x])=xs.getD k (.i 0):=fun k hk=>by show(xs++[x]).getD k (.i 0)=_;rw[cE,gA (by omega),<-cE]
 have ar0:(Ex.v 28).ev (xs++[x])=x:=by show(xs++[x]).getD 28 (.i 0)=_;rw[cE,lR (by omega),hl];rfl
 have m1:pLe w∈aK.post:=by rw[OM];exact xc.2 ⟨w,hw,by simp⟩
 have m2:pLt w∈aK.post:=by rw[OM];exact xc.2 ⟨w,hw,by simp⟩
 have c1:((Ex.o .eq (.v 28) (.i 0)).ev (xs++[x])).bool=true:=by rw[Hp,ar0];exact h0
 have c2:((Ex.o .eq (.v 8) (.i w.2.2.1)).ev (xs++[x])).bool=true:=by rw[Hp,at1 8 (by omega)];exact ho
 have q1:((Ex.o .le (.i 0) (.v (8+w.2.2.2.1))).ev (xs++[x])).bool=true:=g3 _ m1 c1 c2
 have q2:((Ex.o .lt (.v (8+w.2.2.2.1)) (bdX w.2.2.2.2)).ev (xs++[x])).bool=true:=g3 _ m2 c1 c2
 have q1:(0:Int)<=((Ex.v (8+w.2.2.2.1)).ev (xs++[x])).int:=fv q1
 have q2:((Ex.v (8+w.2.2.2.1)).ev (xs++[x])).int<((bdX w.2.2.2.2).ev (xs++[x])).int:=fv q2
 rw[at1 _ (by omega)]at q1 q2
 have hu:∀w∈am.rt,(bdX w.2.2.2.2).under 28=true:=by decide+kernel
 rw[Ex.aH (ρ:=xs) (ρ':=xs++[x]) (fun i hi=>pQ (by omega)) (hu w hw)]at q2
 exact⟨q1,q2⟩
def oO{k:Nat}{cs:List Ty}(hk:am.tk k= .row cs){y:Sc}(h:cA am (II pm) (JJ pm N) k y):∃c,y= .l c/\fl (II pm) cs c:=by unfold cA at h;rw[hk]at h;exact h.1
def KJ:∀{ts:List Ty}{xs:ab},fl (II pm) ts xs->cR am (II pm) (JJ pm N) ts xs
 |[],[],_=>trivial|t::ts,x::xs,h=>⟨bA h.1,KJ h.2⟩|[],_::_,h=>h.elim|_::_,[],h=>h.elim
def bb:∀{ts:List Ty}{xs:ab},fl (II pm) ts xs->xs.length=ts.length
 |[],[],_=>rfl|t::ts,x::xs,h=>by rw[AM,AM,bb h.2]
 |[],_::_,h=>h.elim|_::_,[],h=>h.elim
def Kr{n:Nat}{c:ab}(h:c.length=n):aU n (.l c)=c:=by
 subst h;unfold aU;apply ext_getElem
 ·simp
 ·intro i h1 h2;simp only[getElem_map,getElem_range];show c.getD i (.i 0)=_;rw[cE,cB h2];rfl
def ah8:List Ty:=[.str 4294967296,.ae 115,.ae 184,.ae 193,.ae 200,.ae 9,.ae 9,.ae 9,.ae 9,.ae 9,.ae 63,.ae 111,.ae 408,.ae 130]
def C2:am.tk 126= .row ah8:=by kernel_rfl
def ac2:List Ty:=[.int,.int,.int,.int,.int,.str 4294967296,.int,.ae 100,.int,.str 4294967296,.int,.ae 100,.ae 100,.int,.int,.int,.int,.ae 3,.ae 3,.bool]
def T7:am.tk 173= .row ac2:=by kernel_rfl
def abu{S:ab}{si:Nat}{c0 c2 c4 l7 z5:Sc}{z6:Int}{r:ab}{w:Nat×Nat×Int×Nat×Ty}(hw:w∈am.rt){k:Nat}(hk:w.2.2.2.2= .ae k):((bdX w.2.2.2.2).ev ([c0,.l S,c2,.i (si:Int),c4,z5,.i z6,l7]++r)).int=if k=eS then z6 else if k=mI then(S.length:Int)else match Ge k FB with|some j=>(cN (bS S si) j:Int)|none=>0:=by
 rw[hk];unfold bdX;by_cases h1:k=eS
 ·subst h1;rfl
 ·simp only[aE h1];by_cases h2:k=mI
  ·subst h2;rfl
  ·simp only[aE h2];have:∀w∈am.rt,∀k,w.2.2.2.2= .ae k->k≠eS->k≠mI->(Ge k FB).isSome=true:=by
    have h:∀w∈am.rt,(match w.2.2.2.2 with| .ae k=>decide (k=eS)||decide (k=mI)||(Ge k FB).isSome|_=>true)=true:=by decide+kernel
    intro w hw k hk h1 h2;have:=h w hw;rw[hk]at this;simpa[h1,h2]using this
   obtain⟨j,hj⟩:=uh.1 (this w hw k hk h1 h2);rw[hj];show(((S.getD (Sc.i (si:Int)).int.toNat (.i 0)).list.getD j (.i 0)).list.length:Int)=_;rw[show(Sc.i (si:Int)).int.toNat=si from om si];rfl
def YP(hp:dG pm)(F7:dQ am (II pm) (JJ pm N) Gf aK){nm:Sc}{S LK:ab}(hS:has am (II pm) (JJ pm N) (.aV 126) (.l S))(hn:has am (II pm) (JJ pm N) (.str 4294967296) nm)(hK:has am (II pm) (JJ pm N) (.ae 137) (.l LK)){x:Sc}(h:Gf 33 [nm,.l S,.l LK]=some [x])(hx:x.int=0){si:Nat}(hsi:si<S.length):
 WB S LK si:=by
 have hT:=cY hp (N:=N)
 obtain⟨xs,e,Mj⟩:=id hS
 cases e
 have dz:∀s∈S,∃c,s= .l c/\fl (II pm) ah8 c:=fun s hs=>oO C2 (Mj s hs)
 have OD:∀s∈S,II pm 130 (s.list.getD 13 (.i 0)):=fun s hs=>by
  obtain⟨c,rfl,hc⟩:=dz s hs
  match c,bb hc,hc with
  |[a0,a1,a2,a3,a4,a5,a6,a7,a8,a9,Fb,GC,a12,FO],_,hc=>exact hc.2.2.2.2.2.2.2.2.2.2.2.2.2.1
 obtain⟨wh,_,Ot⟩:=oW (fun s hs=>by obtain⟨l,e1,e2,_⟩:=hT.list 130 _ (aj (by decide+kernel)) (OD s hs);rw[e1];exact bI e2 (by decide+kernel)) h hx
 obtain⟨_,_,hr⟩:=wh si hsi
 have X7:bS S si∈S:=bh hsi
 obtain⟨R,eR,_,asJ⟩:=hT.list 130 _ (aj (by decide+kernel)) (OD _ X7)
 intro n hn'
 have P7:n<R.length:=by have:n<((bS S si).list.getD 13 (.i 0)).list.length:=hn';rw[eR]at this;exact this
 have oD:R.getD n (.i 0)∈R:=bh P7
 have fm:((bS S si).list.getD 13 (.i 0)).list.getD n (.i 0)=R.getD n (.i 0):=by rw[eR];rfl
 rw[fm]
 obtain⟨z,hz,Rc⟩:=hr (R.getD n (.i 0)) (by show R.getD n (.i 0)∈((bS S si).list.getD 13 (.i 0)).list;rw[eR];exact oD)
 obtain⟨cc,ec,hcc⟩:=oO (cs:=[.str 4294967296,.int,.int,.ae 173]) (by kernel_rfl) (asJ _ oD)
 rw[ec]at hz⊢
 match cc,bb hcc,hcc with
 |[q0,q1,q2,q3],_,hcc=>
 obtain⟨p0,⟨z5,rfl⟩,⟨z6,rfl⟩,p3,_⟩:=hcc
 obtain⟨L7,rfl,l7c,hL7⟩:=hT.list 173 _ (aj (by decide+kernel)) p3
 obtain⟨r1,r2,r3,r4,r5,r6⟩:=Pt (bI l7c (by decide+kernel)) hz Rc
 refine⟨by show(0:Int)<=z6;omega,fun y hy w hw ho=> ?_⟩
 have hy:y∈L7:=hy
 obtain⟨v,hv,Fy⟩:=r6 y hy
 obtain⟨yc,rfl,Ts⟩:=oO T7 (hL7 y hy)
 have e20:aU 20 (.l yc)=yc:=Kr (bb Ts)
 rw[e20]at hv
 have hS2:has am (II pm) (JJ pm N) (.ae 126) (.l S):=bA (t:= .ae 126) (hT.free 126 _ (by decide+kernel) (aj (by decide+kernel)) (bI Ot (by decide+kernel)) Mj)
 have dH:cR am (II pm) (JJ pm N) aK.args ([nm,.l S,.l LK,.i (si:Int),q0,.i z5,.i z6,.l L7]++yc):=by refine Cm (ts:=[.str 4294967296,.ae 126,.ae 137,.int,.str 4294967296,.int,.int,.ae 173]) (us:=ac2) ⟨hn,hS2,hK,⟨_,rfl⟩,bA p0,⟨_,rfl⟩,⟨_,rfl⟩,p3,trivial⟩ (KJ Ts)
 have DP:∀k,([nm,.l S,.l LK,.i (si:Int),q0,.i z5,.i z6,.l L7]++yc).getD (8+k) (.i 0)=yc.getD k (.i 0):=fun k=>by rw[cE,lR (by simp),cE];simp
 obtain⟨w5,w0,Ur⟩:=IE w hw
 obtain⟨g1,g2⟩:=acs F7 dH ⟨by show(0:Int)<=(si:Int);omega,by show(si:Int)<S.length;omega⟩ hv Fy hw (by have:=DP 0;rw[this];have ho:(yc.getD w.2.1 (.i 0)).int=w.2.2.1:=ho;rw[w0]at ho;exact ho)
 rw[DP]at g1 g2
 have amm:∃k,w.2.2.2.2= .ae k:=by
  have h:∀w∈am.rt,(match w.2.2.2.2 with| .ae _=>true|_=>false)=true:=by decide+kernel
  have:=h w hw;cases e:w.2.2.2.2 with
  |ae k=>exact⟨k,rfl⟩|_=>rw[e]at this;cases this
 obtain⟨k,hk⟩:=amm
 rw[abu hw hk]at g2
 have hint:∃z,yc.getD w.2.2.2.1 (.i 0)= .i z:=by
  match yc,bb Ts,Ts with
  |[y0,y1,y2,y3,y4,y5,y6,y7,y8,y9,y10,y11,y12,y13,y14,y15,y16,y17,y18,Uu],_,Ts=>
   rcases Ur with e|e<;>rw[e]
   ·exact Ts.2.1
   ·exact Ts.2.2.1
 obtain⟨zz,hzz⟩:=hint
 rw[hzz]at g1 g2
 have g1:0<=zz:=g1
 refine⟨k,hk,zz,hzz,fun e=>⟨g1,by rw[aA e]at g2;exact g2⟩,fun e=> ?_⟩
 rw[aE e]at g2
 rw[AF]
 have Jl:∀w∈am.rt,w.2.2.2.2≠.ae H5:=by decide+kernel
 rw[aE (fun e2=>Jl w hw (by rw[hk,e2]))]
 have g2:zz<(if k=mI then(S.length:Int)else match Ge k FB with|some j=>(cN (bS S si) j:Int)|none=>0):=g2
 by_cases h2:k=mI
 ·rw[aA h2];rw[aA h2]at g2;refine⟨zz.toNat,by omega,by omega,?_⟩;have at4:∀w∈am.rt,w.2.2.2.2= .ae mI->w.2.2.1=14/\w.2.2.2.1=1:=by decide+kernel
  obtain⟨w14,w1⟩:=at4 w hw (by rw[hk,h2])
  match yc,bb Ts,Ts,hv,ho,hzz with
  |[y0,y1,y2,y3,y4,y5,y6,y7,y8,y9,y10,y11,y12,y13,y14,y15,y16,y17,y18,Uu],_,Ts,hv,ho,hzz=>
   obtain⟨o,rfl⟩:=Ts.1;have ho:([Sc.i o,y1,y2,y3,y4,y5,y6,y7,y8,y9,y10,y11,y12,y13,y14,y15,y16,y17,y18,Uu].getD w.2.1 (.i 0)).int=w.2.2.1:=ho;rw[w0,w14]at ho;have ho:o=14:=ho;subst ho;rw[w1]at hzz;have hzz:y1= .i zz:=hzz;subst hzz;obtain⟨ra,ha,hb⟩:=Z6 hv Fy;obtain⟨LL,e3,e4,_⟩:=hT.list 137 _ (aj (by decide+kernel)) hK;cases e3
   obtain⟨a,ha1,ha2,ha3⟩:=abm (bI e4 (by decide+kernel)) ha hb;refine⟨a,ha1,ha2,?_⟩;rw[ha3];show zz=_;omega
 ·rw[aE h2];rw[aE h2]at g2;cases hj:Ge k FB with
  |none=>rw[hj]at g2;exact absurd (show zz<0 from g2) (by omega)|some j=>
   rw[hj]at g2;have g2:zz<(cN (bS S si) j:Int):=g2;exact⟨j,rfl,zz.toNat,by omega,by omega⟩
end
theorem abi{key:Nat}(h:Ay.find? (fun x=>Nat.beq x.bd.key key)=none):Gf key=A8 nl key:=SN Ay (A8 nl) h
theorem eq_self(x:Sc):(U2.ev .eq x x).bool=true:=by show(x.int==x.int)=true;exact beq_self_eq_true _
theorem XM:∀{L:List (uN Tryz.prog)}{key:Nat}{k:uN Tryz.prog},L.find? (fun x=>Nat.beq x.bd.key key)=some k->A8 L key=k.F
 |[],_,_,h=>by cases h
 |a::L,key,k,h=>by
  funext l;simp only[A8];rw[find?_cons]at h;split at h
  ·rename_i e;cases h
   rw[aA (fh e)]
  ·rename_i e;rw[aE (fun h=>by rw[h,BK]at e;cases e),XM h]
theorem jY{key:Nat}(k:uN Tryz.prog)(h1:Ay.find? (fun x=>Nat.beq x.bd.key key)=none:=by kernel_rfl)(h2:nl.find? (fun x=>Nat.beq x.bd.key key)=some k:=by kernel_rfl)(l:ab):Gf key l=k.F l:=by rw[abi h1,XM h2]
section
variable{pm:Pm}(hp:dG pm)(N:Nat)
include hp
theorem eB{key k bytes:Nat}(hG:∀l,Gf key l=ul bytes l)(hk:cT am k=true:=by decide+kernel)(hb:am.cap k*bytes<=140737488355328:=by decide+kernel)(hm:am.cap k<=maxLen:=by decide+kernel):dQ am (II pm) (JJ pm N) Gf ⟨key,[(.ae k)],[],[(.ae k)],[(.grow (.v 1) (.v 0) 0),(.t (.o .eq (.u .len (.v 1)) (.u .len (.v 0))) true)]⟩:=by
 intro xs hx gk
 match xs,hx with
 |[x],hx=>
  have hT:=cY hp (N:=N);obtain⟨ys,rfl,h1,_⟩:=hT.list k x (aj hk) hx.1;refine⟨[.l ys],?_,⟨hx.1,trivial⟩,?_⟩
  ·rw[hG];show ul bytes [.l ys]=_;unfold ul;exact aA ⟨bI h1 hm,bI (fu bytes h1) hb⟩
  ·intro f hf;simp only[bX,nV,AR]at hf;rcases hf with rfl|rfl
   ·exact aX _
   ·exact eq_self _
theorem gy{key k bytes:Nat}(hG:∀l,Gf key l=ul bytes l)(hk:cT am k=true:=by decide+kernel)(hb:am.cap k*bytes<=140737488355328:=by decide+kernel)(hm:am.cap k<=maxLen:=by decide+kernel){x:Sc}(hx:II pm k x):Gf key [x]=some [x]:=by have hT:=cY hp (N:=0);obtain⟨ys,rfl,h1,_⟩:=hT.list k x (aj hk) hx;rw[hG];show ul bytes [.l ys]=_;unfold ul;exact aA ⟨bI h1 hm,bI (fu bytes h1) hb⟩
theorem Rh{key k bytes:Nat}(hG:∀l,Gf key l=OL bytes l)(hk:cT am k=true:=by decide+kernel)(hb:(am.cap k+1)*bytes<=140737488355328:=by decide+kernel)(hm:am.cap k+1<=maxLen:=by decide+kernel):dQ am (II pm) (JJ pm N) Gf ⟨key,[(.ae k),.int,(.ae k)],[(.t (.o .le (.i 0) (.v 1)) true),(.t (.o .le (.v 1) (.u .len (.v 0))) true),(.t (.o .le (.u .len (.v 2)) (.i 1)) true),(.t (.o .le (.i 1) (.u .len (.v 2))) true)],[(.aV k)],[(.grow (.v 3) (.v 0) 1),(.t (.o .le (.u .len (.v 2)) (.u .len (.v 3))) true)]⟩:=by
 intro xs hx gk
 match xs,hx with
 |[x,y,z],hx=>
  have hT:=cY hp (N:=N);obtain⟨xs,rfl,h1,DC⟩:=hT.list k x (aj hk) hx.1;obtain⟨i,rfl⟩:=hx.2.1;obtain⟨vs,rfl,h2,P4⟩:=hT.list k z (aj hk) hx.2.2.1;have p1:(0:Int)<=i:=fv (gk (.t (.o .le (.i 0) (.v 1)) true) (by simp));have p2:i<=(xs.length:Int):=fv (gk (.t (.o .le (.v 1) (.u .len (.v 0))) true) (by simp));have p3:(vs.length:Int)<=1:=fv (gk (.t (.o .le (.u .len (.v 2)) (.i 1)) true) (by simp));have p4:(1:Int)<=(vs.length:Int):=fv (gk (.t (.o .le (.i 1) (.u .len (.v 2))) true) (by simp));have hl:xs.length+vs.length<=am.cap k+1:=by omega
  have hlen:(xs.take i.toNat++vs++xs.drop i.toNat).length=xs.length+vs.length:=by rw[fR,fR,iW,tc];omega
  refine⟨[.l (xs.take i.toNat++vs++xs.drop i.toNat)],?_,⟨⟨_,rfl,fun y hy=> ?_⟩,trivial⟩,?_⟩
  ·rw[hG];show OL bytes [.l xs,.i i,.l vs]=_;unfold OL;exact aA ⟨p1,p2,by omega,by omega,bI (fu bytes hl) hb⟩
  ·rcases ic.1 hy with hy|hy
   ·rcases ic.1 hy with hy|hy
    ·exact DC y (vS hy)
    ·exact P4 y hy
   ·exact DC y (xB hy)
  ·intro f hf;simp only[bX,nV,AR]at hf;rcases hf with rfl|rfl
   ·show(xs.take i.toNat++vs++xs.drop i.toNat).length<=xs.length+1;omega
   ·exact lP (show(vs.length:Int)<=((xs.take i.toNat++vs++xs.drop i.toNat).length:Int)by omega)
theorem agz{key k:Nat}(hG:∀l,Gf key l=UP l)(hk:cT am k=true:=by decide+kernel)(hf:am.free k=true:=by decide+kernel):dQ am (II pm) (JJ pm N) Gf ⟨key,[(.ae k),.int,.int],[(.t (.o .le (.i 0) (.v 1)) true),(.t (.o .le (.v 1) (.v 2)) true),(.t (.o .le (.v 2) (.u .len (.v 0))) true)],[(.ae k)],[(.grow (.v 3) (.v 0) 0)]⟩:=by
 intro xs hx gk
 match xs,hx with
 |[x,y,z],hx=>
  have hT:=cY hp (N:=N);obtain⟨xs,rfl,h1,DC⟩:=hT.list k x (aj hk) hx.1;obtain⟨i,rfl⟩:=hx.2.1;obtain⟨j,rfl⟩:=hx.2.2.1;have p1:(0:Int)<=i:=fv (gk (.t (.o .le (.i 0) (.v 1)) true) (by simp));have p2:i<=j:=fv (gk (.t (.o .le (.v 1) (.v 2)) true) (by simp));have p3:j<=(xs.length:Int):=fv (gk (.t (.o .le (.v 2) (.u .len (.v 0))) true) (by simp));have hlen:(xs.take i.toNat++xs.drop j.toNat).length<=xs.length:=by rw[fR,iW,tc];omega
  refine⟨[.l (xs.take i.toNat++xs.drop j.toNat)],?_,⟨?_,trivial⟩,?_⟩
  ·rw[hG];show UP [.l xs,.i i,.i j]=_;unfold UP;exact aA ⟨p1,p2,p3⟩
  ·refine bA (t:= .ae k) (hT.free k _ hf (aj hk) (bI hlen h1) fun y hy=> ?_);rcases ic.1 hy with hy|hy
   ·exact DC y (vS hy)
   ·exact DC y (xB hy)
  ·intro f hf;simp only[bX,nV,AR]at hf;subst hf;exact hlen
theorem iz{x:Sc}(hx:II pm 63 x):Gf 30 [x]=some [x]:=gy hp (k:=63) (jY fU) (hx:=hx)
theorem dx{x:Sc}(hx:II pm 76 x):Gf 39 [x]=some [x]:=gy hp (k:=76) (jY gZ) (hx:=hx)
theorem nZ{x:Sc}(hx:II pm 35 x):Gf 51 [x]=some [x]:=gy hp (k:=35) (jY fE) (hx:=hx)
theorem eu{x:Sc}(hx:II pm 3 x):Gf 115 [x]=some [x]:=gy hp (k:=3) (jY fW) (hx:=hx)
theorem nY{x:Sc}(hx:II pm 187 x):Gf 116 [x]=some [x]:=gy hp (k:=187) (jY fD) (hx:=hx)
theorem qo{x:Sc}(hx:II pm 196 x):Gf 117 [x]=some [x]:=gy hp (k:=196) (jY g8) (hx:=hx)
theorem qU{x:Sc}(hx:II pm 203 x):Gf 118 [x]=some [x]:=gy hp (k:=203) (jY iE) (hx:=hx)
theorem pG{x:Sc}(hx:II pm 67 x):Gf 119 [x]=some [x]:=gy hp (k:=67) (jY gn) (hx:=hx)
theorem pF{x:Sc}(hx:II pm 208 x):Gf 120 [x]=some [x]:=gy hp (k:=208) (jY gm) (hx:=hx)
theorem qp{x:Sc}(hx:II pm 283 x):Gf 121 [x]=some [x]:=gy hp (k:=283) (jY g9) (hx:=hx)
theorem qm{x:Sc}(hx:II pm 213 x):Gf 122 [x]=some [x]:=gy hp (k:=213) (jY gY) (hx:=hx)
theorem ql{x:Sc}(hx:II pm 173 x):Gf 270 [x]=some [x]:=gy hp (k:=173) (jY gX) (hx:=hx)
end
structure Cts(N:Nat):Prop where
 nx:∀pm,dG pm->dQ am (II pm) (JJ pm N) Gf zf
 ck:∀pm,dG pm->dQ am (II pm) (JJ pm N) Gf AH
 cnt:∀pm,dG pm->dQ am (II pm) (JJ pm N) Gf bK
 pc:∀pm,dG pm->dQ am (II pm) (JJ pm N) Gf vH
 pc1:∀pm,dG pm->dQ am (II pm) (JJ pm N) Gf iH
 ms:∀pm,dG pm->dQ am (II pm) (JJ pm N) Gf AG
 ev:∀pm,dG pm->dQ am (II pm) (JJ pm N) Gf qH
 pi:∀pm,dG pm->dQ am (II pm) (JJ pm N) Gf aK
 pf:∀pm,dG pm->dQ am (II pm) (JJ pm N) Gf cP
section
variable{pm Rr:Pm}
theorem trP(h':dG Rr):Tr HR pm Rr where
 len:=fun k hk L hL=>by
  have:∀k∈HR,k∉sj:=by decide
  exact absurd (h'.len k (by rw[hL];simp)) (this k hk)
 ix:=fun k hk Dh=>by
  have h:∀k∈HR,cT am k=true:=by decide+kernel
  have:=h k hk;unfold cT at this;rw[Dh]at this;cases this
 rel:=fun k hk q hq=>by
  have h:∀k∈HR,am.ma k=[]:=by
   have h:∀k∈HR,(am.ma k).isEmpty=true:=by decide+kernel
   exact fun k hk=>uO.1 (h k hk)
  rw[h k hk]at hq;cases hq
theorem abM(hp:dG pm){j k:Nat}(hb:ZT j k=true)(hE:(am.ma k).isEmpty=true)(hj:cT am j=true)(hk:cT am k=true){x:Sc}(h:II pm j x)(hc:x.list.length<=am.cap k)(hL:∀L,pm.len k=some L->x.list.length=L):II pm k x:=by obtain⟨l,rfl,_,_,h4⟩:=(bO (aj hj)).1 h;exact(bO (aj hk)).2 ⟨l,rfl,hc,hL,fun y hy=>Gp hp hb (uO.1 hE) (h4 y hy)⟩
theorem vQ{k:Nat}(hk:cT am k=true){x:Sc}(h:II pm k x):x.list.length<=am.cap k:=by obtain⟨l,rfl,h2,_⟩:=(bO (aj hk)).1 h;exact h2
theorem wN(hp:dG pm){N k:Nat}(hk:cT am k=true){x:Sc}(h:II pm k x):has am (II pm) (JJ pm N) (.aV k) x:=by obtain⟨l,e,_,h3⟩:=(cY hp (N:=N)).list k x (aj hk) h;exact⟨l,e,h3⟩
end
section
variable{N:Nat}(C:Cts N){pm:Pm}(hp:dG pm)
include C hp
theorem RM{nm:Sc}{S LK:ab}(hS:has am (II pm) (JJ pm N) (.aV 126) (.l S))(hn:has am (II pm) (JJ pm N) (.str 4294967296) nm)(hK:has am (II pm) (JJ pm N) (.ae 137) (.l LK)){x:Sc}(h:Gf 33 [nm,.l S,.l LK]=some [x])(hx:x.int=0){si:Nat}(hsi:si<S.length):
 WB S LK si/\cN (bS S si) 2<=32/\cN (bS S si) 13=cN (bS S si) 10/\∃c0 c1 c2 c3 c4 c5 c6 c7 c8 c9 fJ fx fA ge,bS S si= .l [c0,c1,c2,c3,c4,c5,c6,c7,c8,c9,fJ,fx,fA,ge]/\fl (II pm) ah8 [c0,c1,c2,c3,c4,c5,c6,c7,c8,c9,fJ,fx,fA,ge]:=by
 have hT:=cY hp (N:=N)
 obtain⟨xs,e,Mj⟩:=id hS
 cases e
 have hI:=YP hp (C.pi pm hp) hS hn hK h hx hsi
 have X7:bS S si∈S:=bh hsi
 obtain⟨cs,ec,nP⟩:=oO C2 (Mj _ X7)
 have OD:∀s∈S,II pm 130 (s.list.getD 13 (.i 0)):=fun s hs=>by
  obtain⟨c,rfl,hc⟩:=oO C2 (Mj _ hs)
  match c,bb hc,hc with
  |[a0,a1,a2,a3,a4,a5,a6,a7,a8,a9,Fb,GC,a12,FO],_,hc=>exact hc.2.2.2.2.2.2.2.2.2.2.2.2.2.1
 obtain⟨wh,_,Ot⟩:=oW (fun s hs=>by obtain⟨l,e1,e2,_⟩:=hT.list 130 _ (aj (by decide+kernel)) (OD s hs);rw[e1];exact bI e2 (by decide+kernel)) h hx
 obtain⟨⟨z,hz,Rc⟩,⟨z2,nQ,Vh⟩,_⟩:=wh si hsi
 refine⟨hI,?_⟩
 have es:S.getD si (.i 0)=bS S si:=rfl
 rw[es,ec]at hz nQ
 rw[ec]
 match cs,bb nP,nP with
 |[c0,c1,c2,c3,c4,c5,c6,c7,c8,c9,fJ,fx,fA,ge],_,nP=>
 have q2:ge.list.length=fJ.list.length:=Qf nQ Vh
 obtain⟨z4,hz4,hz5⟩:=Il hz Rc
 have l:∀{k:Nat}{y:Sc},cT am k=true->th (II pm) (.ae k) y->has am (II pm) (JJ pm N) (.aV k) y:=fun hk hy=>wN hp hk hy
 obtain⟨h0,h1,h2,h3,h4,h5,h6,h7,h8,h9,Mi,Oq,P3,Ji,_⟩:=id nP
 obtain⟨rs,g1,_,g3⟩:=C.ms pm hp [c0,c1,c2,c3,c4,c5,c6,c7,c8,c9,fJ,fx,fA] ⟨bA h0,l (by decide+kernel) h1,l (by decide+kernel) h2,l (by decide+kernel) h3,l (by decide+kernel) h4,l (by decide+kernel) h5,bA h6,l (by decide+kernel) h7,l (by decide+kernel) h8,l (by decide+kernel) h9,l (by decide+kernel) Mi,l (by decide+kernel) Oq,l (by decide+kernel) P3,trivial⟩ (nofun)
 have e:rs=[z4]:=by have g1:Gf 90 [c0,c1,c2,c3,c4,c5,c6,c7,c8,c9,fJ,fx,fA]=some rs:=g1;have hz4:Gf 90 [c0,c1,c2,c3,c4,c5,c6,c7,c8,c9,fJ,fx,fA]=some [z4]:=hz4;rw[hz4]at g1;exact(xX g1).symm
 subst e
 have q3:((Ex.o .eq (.v 13) (.i 0)).ev ([c0,c1,c2,c3,c4,c5,c6,c7,c8,c9,fJ,fx,fA]++[z4])).bool=true->((Ex.o .le (.u .len (.v 2)) (.i 32)).ev ([c0,c1,c2,c3,c4,c5,c6,c7,c8,c9,fJ,fx,fA]++[z4])).bool=true:=g3 _ (fc ..)
 have q4:=q3 ((Hp _ _ _).2 hz5)
 have q5:(c2.list.length:Int)<=32:=fv q4
 exact⟨by show c2.list.length<=32;omega,q2,c0,c1,c2,c3,c4,c5,c6,c7,c8,c9,fJ,fx,fA,ge,rfl,nP⟩
end
theorem ge0{z:Int}(h:0<=z):∃n:Nat,z=n:=⟨z.toNat,by omega⟩
section
variable{N:Nat}(C:Cts N){pm:Pm}(hp:dG pm)
include C hp
theorem V6{nm:Sc}{S LK A P:ab}{si now:Int}{x5 x8 x9 kI lu lx m6 ob oc nO nS pu pw vN:Sc}(hx:cR am (II pm) (JJ pm N) dU.args [nm,.l S,.l LK,.i si,.i now,x5,.l A,.l P,x8,x9,kI,lu,lx,m6,ob,oc,nO,nS,pu,pw,vN]){x y:Sc}(hck:Gf 35 [nm,.l S,.l LK,.i si,.i now,x5,.l A,.l P,x8,x9,kI,lu,lx,m6,ob,oc,nO,nS,pu,pw,vN]=some [x])(Vg:x.int=0)(hA:0<A.length)(Cj:Gf 128 [.l A]=some [y])(hy:y.int=0):
 ∃n:Nat,si=n/\n<S.length/\dG (eD S LK n)/\∃c0 c1 c2 c3 c4 c5 c6 c7 c8 c9 fJ fx fA ge,bS S n= .l [c0,c1,c2,c3,c4,c5,c6,c7,c8,c9,fJ,fx,fA,ge]/\∃a0 a1 a2 a3 a4 a5 a6 a7 a8,aU 9 (A.getD 0 (.i 0))=[a0,a1,a2,a3,a4,a5,a6,a7,a8]/\th (II pm) (.ae 3) a8/\(∃z,a0= .i z)/\(∃z,a1= .i z)/\(∃z,a2= .i z)/\(∃z,a3= .i z)/\(∃z,a4= .i z)/\(∃z,a5= .i z)/\(∃z,a6= .i z)/\(∃z,a7= .i z)/\
  ∃rs,Gf 82 [x9,kI,lu,lx,m6,ob,oc,nO,nS,pu,pw,.l [],.l [],c0,c1,c2,c3,c4,c5,c6,c7,c8,c9,fJ,fx,fA,ge,.i si,.i now,x5,.l (A.drop 1),.l P,x8,vN,.i (-1),.i 0,.i 0,.l [],.i 0,.i 0,.i 0,.b false,a0,a1,a2,a3,a4,a5,a6,a7,a8]=some rs/\cR am (II (eD S LK n)) (JJ (eD S LK n) N) cP.res rs/\(rs.getD 11 (.i 0)).list.length<=1000/\(rs.getD 12 (.i 0)).list.length<=400000000:=by
 have hT:=cY hp (N:=N)
 obtain⟨h0,h1,h2,h3,h4,⟨z5,rfl⟩,h6,h7,⟨z8,rfl⟩,h9,Mi,Oq,P3,Ji,Wi,QN,Ot,SS,J1,KG,⟨z20,rfl⟩,_⟩:=id hx
 obtain⟨⟨zc,hc,Nq⟩,s0,s1,⟨zn,hcn,as2⟩,⟨zq,hq,hq0⟩,zp,hpc,atH⟩:=AB hck Vg
 obtain⟨n,rfl⟩:=ge0 s0
 have hn:n<S.length:=by omega
 obtain⟨hI,r32,r13,c0,c1,c2,c3,c4,c5,c6,c7,c8,c9,fJ,fx,fA,ge,ec,asX⟩:=RM C hp h1 h0 h2 hc Nq hn
 have bT:=aac hI
 refine⟨n,rfl,hn,bT,c0,c1,c2,c3,c4,c5,c6,c7,c8,c9,fJ,fx,fA,ge,ec,?_⟩
 have hto:Tr HR pm (eD S LK n):=trP bT
 have es:S.getD (toNat (n:Int)) (.i 0)=bS S n:=by rw[om];rfl
 rw[es,ec]at hcn hpc
 obtain⟨t0,t1,t2,t3,t4,t5,t6,t7,t8,t9,t10,t11,t12,t13,_⟩:=id asX
 have l:∀{k:Nat}{y:Sc},cT am k=true->II pm k y->has am (II pm) (JJ pm N) (.aV k) y:=fun hk hy=>wN hp hk hy
 have u:∀{k:Nat}{y:Sc},k∈HR->II pm k y->II (eD S LK n) k y:=fun hk hy=>Nu Nt hto _ hk _ hy
 obtain⟨rs,g1,_,g3⟩:=C.cnt pm hp [c0,c1,c2,c3,c4,c5,c6,c7,c8,c9,fJ,fx,fA,.i (n:Int),.i now,.i z5,.l A,.l P,.i z8,x9,kI,lu,lx,m6,ob,oc,nO,nS,pu,pw,.i z20]
  ⟨bA t0,l (by decide+kernel) t1,l (by decide+kernel) t2,l (by decide+kernel) t3,l (by decide+kernel) t4,l (by decide+kernel) t5,l (by decide+kernel) t6,l (by decide+kernel) t7,l (by decide+kernel) t8,l (by decide+kernel) t9,l (by decide+kernel) t10,l (by decide+kernel) t11,l (by decide+kernel) t12,⟨_,rfl⟩,⟨_,rfl⟩,⟨_,rfl⟩,l (by decide+kernel) h6,l (by decide+kernel) h7,⟨_,rfl⟩,l (by decide+kernel) h9,l (by decide+kernel) Mi,l (by decide+kernel) Oq,l (by decide+kernel) P3,l (by decide+kernel) Ji,l (by decide+kernel) Wi,l (by decide+kernel) QN,l (by decide+kernel) Ot,l (by decide+kernel) SS,l (by decide+kernel) J1,l (by decide+kernel) KG,⟨_,rfl⟩,trivial⟩ (nofun)
 have e:rs=[zn]:=by have g1:Gf 75 [c0,c1,c2,c3,c4,c5,c6,c7,c8,c9,fJ,fx,fA,.i (n:Int),.i now,.i z5,.l A,.l P,.i z8,x9,kI,lu,lx,m6,ob,oc,nO,nS,pu,pw,.i z20]=some rs:=g1;have hcn:Gf 75 [c0,c1,c2,c3,c4,c5,c6,c7,c8,c9,fJ,fx,fA,.i (n:Int),.i now,.i z5,.l A,.l P,.i z8,x9,kI,lu,lx,m6,ob,oc,nO,nS,pu,pw,.i z20]=some [zn]:=hcn;rw[hcn]at g1;exact(xX g1).symm
 subst e
 clear g1
 have lens:∀a b:Nat,Fc.imp (.v 31) true (.t (.o .eq (.u .len (.v a)) (.u .len (.v b))) true)∈bK.post->(([c0,c1,c2,c3,c4,c5,c6,c7,c8,c9,fJ,fx,fA,.i (n:Int),.i now,.i z5,.l A,.l P,.i z8,x9,kI,lu,lx,m6,ob,oc,nO,nS,pu,pw,.i z20]++[zn]).getD a (.i 0)).list.length=(([c0,c1,c2,c3,c4,c5,c6,c7,c8,c9,fJ,fx,fA,.i (n:Int),.i now,.i z5,.l A,.l P,.i z8,x9,kI,lu,lx,m6,ob,oc,nO,nS,pu,pw,.i z20]++[zn]).getD b (.i 0)).list.length:=by intro a b hm;have:=g3 _ hm as2;have h2:(([c0,c1,c2,c3,c4,c5,c6,c7,c8,c9,fJ,fx,fA,.i (n:Int),.i now,.i z5,.l A,.l P,.i z8,x9,kI,lu,lx,m6,ob,oc,nO,nS,pu,pw,.i z20]++[zn]).getD a (.i 0)).list.length==((([c0,c1,c2,c3,c4,c5,c6,c7,c8,c9,fJ,fx,fA,.i (n:Int),.i now,.i z5,.l A,.l P,.i z8,x9,kI,lu,lx,m6,ob,oc,nO,nS,pu,pw,.i z20]++[zn]).getD b (.i 0)).list.length:Int):=this;have:=AO.1 h2;omega
 have n1:x9.list.length=c1.list.length:=lens 19 1 (by simp[bK])
 have n2:kI.list.length=c2.list.length:=lens 20 2 (by simp[bK])
 have n3:lu.list.length=c3.list.length:=lens 21 3 (by simp[bK])
 have n4:lx.list.length=c4.list.length:=lens 22 4 (by simp[bK])
 have n5:m6.list.length=c5.list.length:=lens 23 5 (by simp[bK])
 have n6:ob.list.length=c6.list.length:=lens 24 6 (by simp[bK])
 have n7:oc.list.length=c7.list.length:=lens 25 7 (by simp[bK])
 have n8:nO.list.length=c8.list.length:=lens 26 8 (by simp[bK])
 have n9:nS.list.length=c9.list.length:=lens 27 9 (by simp[bK])
 have n10:pu.list.length=fJ.list.length:=lens 28 10 (by simp[bK])
 have n11:pw.list.length=fJ.list.length:=lens 29 10 (by simp[bK])
 clear lens g3
 have cNk:∀k,cN (bS S n) k=([c0,c1,c2,c3,c4,c5,c6,c7,c8,c9,fJ,fx,fA,ge].getD k (.i 0)).list.length:=fun k=>by unfold cN;rw[ec];rfl
 have anE:c2.list.length<=32:=by have:=cNk 2;rw[this]at r32;exact r32
 have anD:ge.list.length=fJ.list.length:=by rw[cNk,cNk]at r13;exact r13
 have ex:∀{j k i:Nat}{v:Sc},ZT j k=true->(am.ma k).isEmpty=true->cT am j=true->cT am k=true->k≠bQ->Ge k Ax=some i->II (eD S LK n) j v->v.list.length<=am.cap k->v.list.length=([c0,c1,c2,c3,c4,c5,c6,c7,c8,c9,fJ,fx,fA,ge].getD i (.i 0)).list.length->II (eD S LK n) k v:=fun hb hE hj hk hs hl hv Mm hlen=>abM bT hb hE hj hk hv Mm fun L hL=>by rw[zi,aE hs,hl]at hL;have:cN (bS S n) _=L:=xX hL;rw[<-this,cNk];exact hlen
 have cp:∀{j k:Nat}{v:Sc},cT am j=true->am.cap j<=am.cap k->II pm j v->v.list.length<=am.cap k:=fun hj hc hv=>bI (vQ hj hv) hc
 obtain⟨LP,eP,_,_,asI⟩:=(bO (k:=223) (aj (by decide+kernel))).1 h7
 cases eP
 have alz:P.length<=10000000:=bI (vQ (k:=223) (by decide+kernel) h7) (by decide+kernel)
 obtain⟨auZ,hpr⟩:=J4 alz hpc atH
 have hP:II (eD S LK n) 1027 (.l P):=by
  refine(bO (aj (by decide+kernel))).2 ⟨P,rfl,bI auZ (by decide+kernel),fun L hL=> ?_,fun y hy=> ?_⟩
  ·rw[zi,aE (by decide),show Ge 1027 Ax=none by decide]at hL;cases hL
  ·obtain⟨yc,rfl,Ts⟩:=oO (N:=N) (cs:=[.int,.int,.int,.ae 3,.int,.int,.int]) (by kernel_rfl) (qW.1 (asI y hy));obtain⟨z,hz,Rc⟩:=hpr _ hy
   match yc,bb Ts,Ts,hz with
   |[_,_,_,b3,_,_,_],_,⟨⟨i0,rfl⟩,⟨i1,rfl⟩,⟨i2,rfl⟩,hb3,⟨i4,rfl⟩,⟨i5,rfl⟩,⟨i6,rfl⟩,_⟩,hz=>
    obtain⟨rs,g1,_,g3⟩:=C.pc1 pm hp [c0,c1,c2,c3,c4,c5,c6,c7,c8,c9,fJ,fx,fA,ge,.i i0,.i i1,.i i2,b3,.i i4,.i i5,.i i6]
     ⟨bA t0,l (by decide+kernel) t1,l (by decide+kernel) t2,l (by decide+kernel) t3,l (by decide+kernel) t4,l (by decide+kernel) t5,l (by decide+kernel) t6,l (by decide+kernel) t7,l (by decide+kernel) t8,l (by decide+kernel) t9,l (by decide+kernel) t10,l (by decide+kernel) t11,l (by decide+kernel) t12,bA t13,⟨_,rfl⟩,⟨_,rfl⟩,⟨_,rfl⟩,bA hb3,⟨_,rfl⟩,⟨_,rfl⟩,⟨_,rfl⟩,trivial⟩ (nofun)
    have e:rs=[z]:=by have g1:Gf 135 [c0,c1,c2,c3,c4,c5,c6,c7,c8,c9,fJ,fx,fA,ge,.i i0,.i i1,.i i2,b3,.i i4,.i i5,.i i6]=some rs:=g1;have hz:Gf 135 [c0,c1,c2,c3,c4,c5,c6,c7,c8,c9,fJ,fx,fA,ge,.i i0,.i i1,.i i2,b3,.i i4,.i i5,.i i6]=some [z]:=hz;rw[hz]at g1;exact(xX g1).symm
    subst e;have zz:((Ex.o .eq (.v 21) (.i 0)).ev ([c0,c1,c2,c3,c4,c5,c6,c7,c8,c9,fJ,fx,fA,ge,.i i0,.i i1,.i i2,b3,.i i4,.i i5,.i i6]++[z])).bool=true:=(Hp _ _ _).2 Rc;have k1:(0:Int)<=i1:=fv (g3 (.imp (.o .eq (.v 21) (.i 0)) true (.t (.o .le (.i 0) (.v 15)) true)) (by simp[iH]) zz);have k2:i1<(ge.list.length:Int):=fv (g3 (.imp (.o .eq (.v 21) (.i 0)) true (.t (.o .lt (.v 15) (.u .len (.v 13))) true)) (by simp[iH]) zz);have k3:(b3.list.length:Int)=((ge.list.getD i1.toNat (.i 0)).list.getD 2 (.i 0)).int:=AO.1 (show((b3.list.length:Int)==((ge.list.getD i1.toNat (.i 0)).list.getD 2 (.i 0)).int)=true from g3 (.imp (.o .eq (.v 21) (.i 0)) true (.t (.o .eq (.u .len (.v 17)) (.u (.cell 2) (.o .idx (.v 13) (.v 15)))) true)) (by simp[iH]) zz);have k4:cN (bS S n) 13=ge.list.length:=cNk 13;have KN:II (eD S LK n) 1028 (.i i1):=(m9 (by kernel_rfl)).2 ⟨i1,rfl,by
     rw[AF,aE (by decide),aE (by decide)];exact⟨13,by decide,i1.toNat,by omega,by omega⟩⟩
    unfold cA;rw[show am.tk 1027= .row [.int,.ae 1028,.int,.ae 3,.int,.int,.int]by kernel_rfl];refine⟨⟨_,rfl,⟨_,rfl⟩,KN,⟨_,rfl⟩,u (by decide) hb3,⟨_,rfl⟩,⟨_,rfl⟩,⟨_,rfl⟩,trivial⟩,fun q hq=> ?_⟩;have hq0:∀q∈am.ma 1027,q=(0,[1,3]):=by decide+kernel
    rw[hq0 q hq];show J0 (eD S LK n) 0 [.i i1,b3];unfold J0;rw[aA rfl];refine⟨.i i1,b3,b3.list.length,rfl,?_,rfl⟩;show(eD S LK n).FL i1=_;rw[RO,aA ⟨k1,by omega⟩,ec];show some ((ge.list.getD i1.toNat (.i 0)).list.getD 2 (.i 0)).int.toNat=_;rw[<-k3,om]
 obtain⟨LA,eA,adY,alq⟩:=hT.list 88 _ (aj (by decide+kernel)) h6
 cases eA
 have ti:A.getD 0 (.i 0)∈A:=bh hA
 obtain⟨ac,ea,hac⟩:=oO (N:=N) (cs:=[.int,.int,.int,.int,.int,.int,.int,.int,.ae 3]) (by kernel_rfl) (alq _ ti)
 obtain⟨ze,hze,at8⟩:=Fh (bI adY (by decide+kernel)) Cj hy _ ti
 rw[ea]at hze⊢
 match ac,bb hac,hac,hze with
 |[_,_,_,_,_,_,_,_,a8],_,⟨⟨i0,rfl⟩,⟨i1,rfl⟩,⟨i2,rfl⟩,⟨i3,rfl⟩,⟨i4,rfl⟩,⟨i5,rfl⟩,⟨i6,rfl⟩,⟨i7,rfl⟩,ha8,_⟩,hze=>
 refine⟨_,_,_,_,_,_,_,_,a8,rfl,ha8,⟨_,rfl⟩,⟨_,rfl⟩,⟨_,rfl⟩,⟨_,rfl⟩,⟨_,rfl⟩,⟨_,rfl⟩,⟨_,rfl⟩,⟨_,rfl⟩,?_⟩
 have k6:(0:Int)<=i6:=by
  obtain⟨rs,g1,_,g3⟩:=C.ev pm hp [.i i0,.i i1,.i i2,.i i3,.i i4,.i i5,.i i6,.i i7,a8] ⟨⟨_,rfl⟩,⟨_,rfl⟩,⟨_,rfl⟩,⟨_,rfl⟩,⟨_,rfl⟩,⟨_,rfl⟩,⟨_,rfl⟩,⟨_,rfl⟩,l (by decide+kernel) ha8,trivial⟩ (nofun);have e:rs=[ze]:=by have g1:Gf 199 [.i i0,.i i1,.i i2,.i i3,.i i4,.i i5,.i i6,.i i7,a8]=some rs:=g1;have hze:Gf 199 [.i i0,.i i1,.i i2,.i i3,.i i4,.i i5,.i i6,.i i7,a8]=some [ze]:=hze;rw[hze]at g1;exact(xX g1).symm
  subst e;exact fv (g3 (.imp (.o .eq (.v 9) (.i 0)) true (.t (.o .le (.i 0) (.v 6)) true)) (by simp[qH]) ((Hp _ _ _).2 at8))
 have alO:II (eD S LK n) 88 (.l (A.drop 1)):=by refine u (by decide) ((bO (aj (by decide+kernel))).2 ⟨_,rfl,bI (by rw[tc];omega) adY,fun L hL=> ?_,fun y hy=>qW.2 (alq y (xB hy))⟩);exact absurd (hp.len 88 (by rw[hL];simp)) (by decide)
 have empty:∀k,has am (II (eD S LK n)) (JJ (eD S LK n) N) (.aV k) (.l []):=fun k=>⟨[],rfl,nofun⟩
 have OD:II (eD S LK n) 1026 ge:=ex (j:=130) (i:=13) (by decide+kernel) (by decide+kernel) (by decide+kernel) (by decide+kernel) (by decide) (by decide) (u (by decide) t13) (cp (by decide+kernel) (by decide+kernel) t13) rfl
 obtain⟨rs,g1,g2,g3⟩:=C.pf _ bT [x9,kI,lu,lx,m6,ob,oc,nO,nS,pu,pw,.l [],.l [],c0,c1,c2,c3,c4,c5,c6,c7,c8,c9,fJ,fx,fA,ge,.i (n:Int),.i now,.i z5,.l (A.drop 1),.l P,.i z8,.i z20,.i (-1),.i 0,.i 0,.l [],.i 0,.i 0,.i 0,.b false,.i i0,.i i1,.i i2,.i i3,.i i4,.i i5,.i i6,.i i7,a8]
  ⟨ex (j:=3) (i:=1) (by decide+kernel) (by decide+kernel) (by decide+kernel) (by decide+kernel) (by decide) (by decide) (u (by decide) h9) (cp (by decide+kernel) (by decide+kernel) h9) n1,ex (j:=187) (i:=2) (by decide+kernel) (by decide+kernel) (by decide+kernel) (by decide+kernel) (by decide) (by decide) (u (by decide) Mi) (by rw[n2];exact bI anE (by decide+kernel)) n2,ex (j:=196) (i:=3) (by decide+kernel) (by decide+kernel) (by decide+kernel) (by decide+kernel) (by decide) (by decide) (u (by decide) Oq) (cp (by decide+kernel) (by decide+kernel) Oq) n3,ex (j:=203) (i:=4) (by decide+kernel) (by decide+kernel) (by decide+kernel) (by decide+kernel) (by decide) (by decide) (u (by decide) P3) (cp (by decide+kernel) (by decide+kernel) P3) n4,ex (j:=67) (i:=5) (by decide+kernel) (by decide+kernel) (by decide+kernel) (by decide+kernel) (by decide) (by decide) (u (by decide) Ji) (cp (by decide+kernel) (by decide+kernel) Ji) n5,ex (j:=208) (i:=6) (by decide+kernel) (by decide+kernel) (by decide+kernel) (by decide+kernel) (by decide) (by decide) (u (by decide) Wi) (cp (by decide+kernel) (by decide+kernel) Wi) n6,ex (j:=283) (i:=7) (by decide+kernel) (by decide+kernel) (by decide+kernel) (by decide+kernel) (by decide) (by decide) (u (by decide) QN) (cp (by decide+kernel) (by decide+kernel) QN) n7,ex (j:=213) (i:=8) (by decide+kernel) (by decide+kernel) (by decide+kernel) (by decide+kernel) (by decide) (by decide) (u (by decide) Ot) (cp (by decide+kernel) (by decide+kernel) Ot) n8,ex (j:=3) (i:=9) (by decide+kernel) (by decide+kernel) (by decide+kernel) (by decide+kernel) (by decide) (by decide) (u (by decide) SS) (cp (by decide+kernel) (by decide+kernel) SS) n9,ex (j:=3) (i:=13) (by decide+kernel) (by decide+kernel) (by decide+kernel) (by decide+kernel) (by decide) (by decide) (u (by decide) J1) (cp (by decide+kernel) (by decide+kernel) J1) (n10.trans anD.symm),ex (j:=3) (i:=13) (by decide+kernel) (by decide+kernel) (by decide+kernel) (by decide+kernel) (by decide) (by decide) (u (by decide) KG) (cp (by decide+kernel) (by decide+kernel) KG) (n11.trans anD.symm),empty _,empty _,t0,u (by decide) t1,ex (j:=184) (i:=2) (by decide+kernel) (by decide+kernel) (by decide+kernel) (by decide+kernel) (by decide) (by decide) (u (by decide) t2) (bI anE (by decide+kernel)) rfl,u (by decide) t3,u (by decide) t4,u (by decide) t5,u (by decide) t6,u (by decide) t7,u (by decide) t8,u (by decide) t9,u (by decide) t10,u (by decide) t11,u (by decide) t12,OD,
   (m9 (by kernel_rfl)).2 ⟨n,rfl,by rw[AF,aA rfl]⟩,⟨_,rfl⟩,⟨_,rfl⟩,alO,(show has am (II (eD S LK n)) (JJ (eD S LK n) N) (.ae 1027) (.l P)from hP),⟨_,rfl⟩,⟨_,rfl⟩,⟨_,rfl⟩,⟨_,rfl⟩,⟨_,rfl⟩,empty 3,⟨_,rfl⟩,⟨_,rfl⟩,⟨_,rfl⟩,⟨_,rfl⟩,⟨_,rfl⟩,⟨_,rfl⟩,⟨_,rfl⟩,⟨_,rfl⟩,⟨_,rfl⟩,⟨_,rfl⟩,⟨_,rfl⟩,⟨_,rfl⟩,u (by decide) ha8,trivial⟩ (fun f hf=>by
    simp only[cP,bX,nV,AR]at hf;rcases hf with rfl|rfl|rfl|rfl|rfl|rfl
    ·exact lP (show((0:Nat):Int)<=0 by omega)
    ·exact lP (show((0:Nat):Int)<=0 by omega)
    ·exact lP (show(P.length:Int)<=300 by omega)
    ·exact AO.2 (show(kI.list.length:Int)=(c2.list.length:Int)by omega)
    ·exact lP k6
    ·show JJ (eD S LK n) N 6 [ge];unfold JJ Jm;rw[aA (by decide)];unfold J0;rw[aE (by decide),aE (by decide),aE (by decide),aE (by decide)];show[ge]=[(bS S n).list.getD 13 (.i 0)];rw[ec];rfl)
 refine⟨rs,g1,g2,?_,?_⟩
 ·have:=g3 (.t (.o .le (.u .len (.v 62)) (.i 1000)) true) (by simp[cP]);have h2:(((_++rs).getD 62 (.i 0)).list.length:Int)<=1000:=fv this;rw[cE,lR (by simp)]at h2;simp only[AM,oe]at h2;rw[<-cE]at h2;have h3:((rs.getD 11 (.i 0)).list.length:Int)<=1000:=h2;omega
 ·have:=g3 (.t (.o .le (.u .len (.v 63)) (.i 400000000)) true) (by simp[cP]);have h2:(((_++rs).getD 63 (.i 0)).list.length:Int)<=400000000:=fv this;rw[cE,lR (by simp)]at h2;simp only[AM,oe]at h2;rw[<-cE]at h2;have h3:((rs.getD 12 (.i 0)).list.length:Int)<=400000000:=h2;omega
end
def ahZ(s:Sc)(A P:ab)(si now:Int)(x5 x8 x9 kI lu lx m6 ob oc nO nS pu pw vN:Sc):ab:=[x9,kI,lu,lx,m6,ob,oc,nO,nS,pu,pw,.l [],.l []]++aU 14 s++[.i si,.i now,x5,.l (A.drop 1),.l P,x8,vN,.i (-1),.i 0,.i 0,.l [],.i 0,.i 0,.i 0,.b false]++aU 9 (A.getD 0 (.i 0))
def akO(si:Int)(e9 ps:ab):ab:=[.i si]++(ps.drop 13).take 5++ps.take 11++[ps.getD 18 (.i 0)]++e9++[ps.getD 11 (.i 0),ps.getD 12 (.i 0),.b true]
def adK(S LK A P:ab)(si now:Int)(x5 x8 x9 kI lu lx m6 ob oc nO nS pu pw vN:Sc)(rs:ab):Prop:=rs.getD 29 (.i 0)= .b false\/
 (rs.getD 29 (.i 0)= .b true/\rs.getD 0 (.i 0)= .i si/\0<A.length/\(rs.drop 18).take 9=aU 9 (A.getD 0 (.i 0))/\∃n:Nat,si=n/\n<S.length/\(∃ps,Gf 82 (ahZ (bS S n) A P si now x5 x8 x9 kI lu lx m6 ob oc nO nS pu pw vN)=some ps/\rs=akO si (aU 9 (A.getD 0 (.i 0))) ps)/\(∀e∈(rs.getD 27 (.i 0)).list,∃z,e.list.getD 4 (.i 0)= .i z/\(eD S LK n).ix mI z)/\∀e∈(rs.getD 28 (.i 0)).list,e.list.getD 1 (.i 0)= .i si)
section
variable{N:Nat}(C:Cts N){pm:Pm}(hp:dG pm)
include C hp
theorem PF{nm:Sc}{S LK A P:ab}{si now:Int}{x5 x8 x9 kI lu lx m6 ob oc nO nS pu pw vN:Sc}(hx:cR am (II pm) (JJ pm N) dU.args [nm,.l S,.l LK,.i si,.i now,x5,.l A,.l P,x8,x9,kI,lu,lx,m6,ob,oc,nO,nS,pu,pw,vN]):
 ∃rs,Gf 38 [nm,.l S,.l LK,.i si,.i now,x5,.l A,.l P,x8,x9,kI,lu,lx,m6,ob,oc,nO,nS,pu,pw,vN]=some rs/\cR am (II pm) (JJ pm N) dU.res rs/\adK S LK A P si now x5 x8 x9 kI lu lx m6 ob oc nO nS pu pw vN rs:=by
 have hT:=cY hp (N:=N)
 obtain⟨h0,h1,h2,h3,h4,h5,h6,h7,h8,h9,Mi,Oq,P3,Ji,Wi,QN,Ot,SS,J1,KG,h20,_⟩:=id hx
 have l:∀{k:Nat}{y:Sc},cT am k=true->II pm k y->has am (II pm) (JJ pm N) (.aV k) y:=fun hk hy=>wN hp hk hy
 have nil:∀k,cT am k=true->am.free k=true->II pm k (.l []):=fun k hk hf=>by have:=hT.free k [] hf (aj hk) (xA _) (nofun);exact this
 have early:cR am (II pm) (JJ pm N) dU.res [.i si,.i now,x5,.l A,.l P,x8,x9,kI,lu,lx,m6,ob,oc,nO,nS,pu,pw,vN,.i 0,.i 0,.i 0,.i 0,.i 0,.i 0,.i 0,.i 0,.l [],.l [],.l [],.b false]:=
  ⟨⟨_,rfl⟩,⟨_,rfl⟩,h5,h6,h7,h8,h9,Mi,Oq,P3,Ji,Wi,QN,Ot,SS,J1,KG,h20,⟨_,rfl⟩,⟨_,rfl⟩,⟨_,rfl⟩,⟨_,rfl⟩,⟨_,rfl⟩,⟨_,rfl⟩,⟨_,rfl⟩,⟨_,rfl⟩,nil 3 (by decide+kernel) (by decide+kernel),nil 88 (by decide+kernel) (by decide+kernel),nil 95 (by decide+kernel) (by decide+kernel),⟨_,rfl⟩,trivial⟩
 suffices hq:bW (kW.aF Gf [nm,.l S,.l LK,.i si,.i now,x5,.l A,.l P,x8,x9,kI,lu,lx,m6,ob,oc,nO,nS,pu,pw,vN] []) (fun rs=>cR am (II pm) (JJ pm N) dU.res rs/\adK S LK A P si now x5 x8 x9 kI lu lx m6 ob oc nO nS pu pw vN rs)by
  obtain⟨rs,g1,g2⟩:=hq;exact⟨rs,by rw[Oa];exact g1,g2⟩
 obtain⟨ra,g1,g2,_⟩:=C.nx pm hp [.l A] ⟨l (by decide+kernel) h6,trivial⟩ (nofun)
 obtain⟨a0,r0,rfl,⟨_,rfl⟩,k0⟩:=af g2
 obtain⟨a1,r1,rfl,⟨_,rfl⟩,k1⟩:=af k0
 obtain⟨a2,r2,rfl,⟨_,rfl⟩,k2⟩:=af k1
 obtain⟨a3,r3,rfl,⟨_,rfl⟩,k3⟩:=af k2
 obtain⟨a4,r4,rfl,⟨_,rfl⟩,k4⟩:=af k3
 obtain⟨a5,r5,rfl,⟨_,rfl⟩,k5⟩:=af k4
 obtain⟨a6,r6,rfl,⟨_,rfl⟩,k6⟩:=af k5
 obtain⟨a7,r7,rfl,⟨_,rfl⟩,k7⟩:=af k6
 obtain⟨a8,r8,rfl,u8,k8⟩:=af k7
 obtain⟨a9,r9,rfl,u9,k9⟩:=af k8
 obtain⟨Fb,r10,rfl,⟨b,rfl⟩,k10⟩:=af k9
 cases dI k10
 have g1:Gf 81 [.l A]=some _:=g1
 have XQ:A.length<=10000000:=bI (vQ (k:=88) (by decide+kernel) h6) (by decide+kernel)
 cases b with
 |false=>
  unfold kW;simp only[g1,iT,aT,Nat.reduceAdd];exact bW.some ⟨early,.inl rfl⟩
 |true=>
  obtain⟨hA0,⟨y,hy,Yh⟩,alf⟩:=GI XQ g1 rfl;obtain⟨rk,q1,q2,_⟩:=C.ck pm hp [nm,.l S,.l LK,.i si,.i now,x5,.l A,.l P,x8,x9,kI,lu,lx,m6,ob,oc,nO,nS,pu,pw,vN]
   ⟨h0,h1,h2,h3,h4,h5,l (by decide+kernel) h6,l (by decide+kernel) h7,h8,l (by decide+kernel) h9,l (by decide+kernel) Mi,l (by decide+kernel) Oq,l (by decide+kernel) P3,l (by decide+kernel) Ji,l (by decide+kernel) Wi,l (by decide+kernel) QN,l (by decide+kernel) Ot,l (by decide+kernel) SS,l (by decide+kernel) J1,l (by decide+kernel) KG,h20,trivial⟩ (nofun)
  obtain⟨z,rk0,rfl,⟨z,rfl⟩,q3⟩:=af q2;cases dI q3
  have q1:Gf 35 [nm,.l S,.l LK,.i si,.i now,x5,.l A,.l P,x8,x9,kI,lu,lx,m6,ob,oc,nO,nS,pu,pw,vN]=some [.i z]:=q1;by_cases hz:z=0
  ·subst hz;obtain⟨n,rfl,hn,bT,c0,c1,c2,c3,c4,c5,c6,c7,c8,c9,fJ,fx,fA,ge,ec,e0,e1,e2,e3,e4,e5,e6,e7,e8,SH,he8,j0,j1,j2,j3,j4,j5,j6,j7,ps,YA,hpt,Cq,hlr⟩:=V6 C hp hx q1 rfl hA0 hy Yh;rw[SH]at alf;have g1:Gf 81 [.l A]=some [e0,e1,e2,e3,e4,e5,e6,e7,e8,.l (A.drop 1),.b true]:=g1.trans (congrArg some alf);have v9:=eu hp h9;have v17:=eu hp SS;have v18:=eu hp J1;have v19:=eu hp KG;have v10:=nY hp Mi;have v11:=qo hp Oq;have v12:=qU hp P3;have v13:=pG hp Ji;have v14:=pF hp Wi;have v15:=qp hp QN;have v16:=qm hp Ot;have es:S.getD n (.i 0)= .l [c0,c1,c2,c3,c4,c5,c6,c7,c8,c9,fJ,fx,fA,ge]:=ec;obtain⟨w0,p0,rfl,o0,k0⟩:=af hpt;obtain⟨w1,p1,rfl,o1,k1⟩:=af k0;obtain⟨w2,p2,rfl,o2,k2⟩:=af k1;obtain⟨w3,p3,rfl,o3,k3⟩:=af k2;obtain⟨w4,p4,rfl,o4,k4⟩:=af k3;obtain⟨w5,p5,rfl,o5,k5⟩:=af k4;obtain⟨w6,p6,rfl,o6,k6⟩:=af k5;obtain⟨w7,p7,rfl,o7,k7⟩:=af k6;obtain⟨w8,p8,rfl,o8,k8⟩:=af k7;obtain⟨w9,p9,rfl,o9,k9⟩:=af k8;obtain⟨R9,p10,rfl,o10,k10⟩:=af k9;obtain⟨Ci,p11,rfl,o11,k11⟩:=af k10;obtain⟨Ur,p12,rfl,o12,k12⟩:=af k11;obtain⟨w13,p13,rfl,o13,k13⟩:=af k12;obtain⟨w14,p14,rfl,o14,k14⟩:=af k13;obtain⟨w15,p15,rfl,o15,k15⟩:=af k14;obtain⟨w16,p16,rfl,o16,k16⟩:=af k15;obtain⟨w17,p17,rfl,o17,k17⟩:=af k16;obtain⟨w18,p18,rfl,o18,k18⟩:=af k17;obtain⟨w19,p19,rfl,o19,k19⟩:=af k18;obtain⟨w20,p20,rfl,o20,k20⟩:=af k19;obtain⟨w21,p21,rfl,o21,k21⟩:=af k20;obtain⟨w22,p22,rfl,o22,k22⟩:=af k21;obtain⟨w23,p23,rfl,o23,k23⟩:=af k22;obtain⟨w24,p24,rfl,o24,k24⟩:=af k23;obtain⟨w25,p25,rfl,o25,k25⟩:=af k24;obtain⟨w26,p26,rfl,o26,k26⟩:=af k25;cases dI k26
   have gV:Tr HR (eD S LK n) pm:=trP hp;have d:∀{k:Nat}{y:Sc},k∈HR->II (eD S LK n) k y->II pm k y:=fun hk hy=>Nu Nt gV _ hk _ hy;have su:∀{k j:Nat}{y:Sc},(.ae j)∈am.sup k->II (eD S LK n) k y->II (eD S LK n) j y:=fun hs hy=>aao bT hs hy;have hu:∀e∈[(1015,3),(1016,187),(1017,196),(1018,203),(1019,67),(1020,208),(1021,283),(1022,213),(1023,3),(1024,3),(1027,223)],Ty.ae e.2∈am.sup e.1:=by decide+kernel
   have ho:II pm 88 Ci:=by obtain⟨l2,rfl,rQ⟩:=o11;refine d (by decide) ((bO (aj (by decide+kernel))).2 ⟨l2,rfl,bI (show l2.length<=1000 from Cq) (by decide+kernel),fun L hL=>absurd (bT.len 88 (by rw[hL];simp)) (by decide),fun y hy=> ?_⟩);exact Gp bT (j:=1029) (by decide+kernel) (uO.1 (by decide+kernel)) (qW.2 (rQ y hy))
   have hrr:II pm 95 Ur:=by obtain⟨l2,rfl,rQ⟩:=o12;refine d (by decide) ((bO (aj (by decide+kernel))).2 ⟨l2,rfl,bI (show l2.length<=400000000 from hlr) (by decide+kernel),fun L hL=>absurd (bT.len 95 (by rw[hL];simp)) (by decide),fun y hy=> ?_⟩);exact Gp bT (j:=1031) (by decide+kernel) (uO.1 (by decide+kernel)) (qW.2 (rQ y hy))
   have iM:(Sc.l (A.drop 1))= .l (A.drop 1):=rfl;have key:kW.aF Gf [nm,.l S,.l LK,.i (n:Int),.i now,x5,.l A,.l P,x8,x9,kI,lu,lx,m6,ob,oc,nO,nS,pu,pw,vN] []=some [.i (n:Int),w13,w14,w15,w16,w17,w0,w1,w2,w3,w4,w5,w6,w7,w8,w9,R9,w18,e0,e1,e2,e3,e4,e5,e6,e7,e8,Ci,Ur,.b true]:=by unfold kW;simp only[g1,q1,v9,v10,v11,v12,v13,v14,v15,v16,v17,v18,v19,es,YA,aT,Nat.reduceAdd];exact aA (by omega)
   rw[key];refine bW.some ⟨⟨⟨_,rfl⟩,o13,o14,d (by decide) o15,d (by decide) (su (hu (1027,223) (by decide)) o16),o17,d (by decide) (su (hu (1015,3) (by decide)) o0),d (by decide) (su (hu (1016,187) (by decide)) o1),d (by decide) (su (hu (1017,196) (by decide)) o2),d (by decide) (su (hu (1018,203) (by decide)) o3),d (by decide) (su (hu (1019,67) (by decide)) o4),d (by decide) (su (hu (1020,208) (by decide)) o5),d (by decide) (su (hu (1021,283) (by decide)) o6),d (by decide) (su (hu (1022,213) (by decide)) o7),d (by decide) (su (hu (1023,3) (by decide)) o8),d (by decide) (su (hu (1024,3) (by decide)) o9),d (by decide) (su (hu (1024,3) (by decide)) o10),o18,j0,j1,j2,j3,j4,j5,j6,j7,he8,ho,hrr,⟨_,rfl⟩,trivial⟩,.inr ⟨rfl,rfl,hA0,SH.symm,n,rfl,hn,⟨_,by unfold ahZ;rw[ec,SH];exact YA,by rw[SH];rfl⟩,?_,?_⟩⟩
   ·intro e he;obtain⟨l2,rfl,rQ⟩:=o11;obtain⟨c,rfl,hc⟩:=oO (cs:=[.int,.int,.int,.int,.ae 1030,.int,.int,.int,.ae 3]) (by kernel_rfl) (rQ e he);obtain⟨z,hz,nQ⟩:=(m9 (by kernel_rfl)).1 (show II (eD S LK n) 1030 (c.getD 4 (.i 0))by
     match c,bb hc,hc with
     |[_,_,_,_,_,_,_,_,_],_,hc=>exact hc.2.2.2.2.1)
    exact⟨z,hz,nQ⟩
   ·intro e he;obtain⟨l2,rfl,rQ⟩:=o12;obtain⟨c,rfl,hc⟩:=oO (cs:=[.int,.ae 1032,.int,.int,.int,.int]) (by kernel_rfl) (rQ e he);obtain⟨z,hz,nQ⟩:=(m9 (by kernel_rfl)).1 (show II (eD S LK n) 1032 (c.getD 1 (.i 0))by
     match c,bb hc,hc with
     |[_,_,_,_,_,_],_,hc=>exact hc.2.1)
    rw[AF,aA rfl]at nQ;rw[<-nQ];exact hz
  ·unfold kW;simp only[g1,q1,aT,Nat.reduceAdd];rw[aA hz];exact bW.some ⟨early,.inl rfl⟩
theorem JK:dQ am (II pm) (JJ pm N) Gf dU:=by
 intro xs hx _;have Vg:=hx;obtain⟨x0,r,rfl,o0,k0⟩:=af hx;obtain⟨x1,r,rfl,⟨S,rfl,_⟩,k1⟩:=af k0;obtain⟨x2,r,rfl,o2,k2⟩:=af k1;obtain⟨x3,r,rfl,⟨si,rfl⟩,k3⟩:=af k2;obtain⟨x4,r,rfl,⟨now,rfl⟩,k4⟩:=af k3;obtain⟨x5,r,rfl,_,k5⟩:=af k4;obtain⟨x6,r,rfl,o6,k6⟩:=af k5;obtain⟨x7,r,rfl,o7,k7⟩:=af k6;obtain⟨x8,r,rfl,_,k8⟩:=af k7;obtain⟨x9,r,rfl,_,k9⟩:=af k8;obtain⟨kI,r,rfl,_,k10⟩:=af k9;obtain⟨lu,r,rfl,_,k11⟩:=af k10;obtain⟨lx,r,rfl,_,k12⟩:=af k11;obtain⟨m6,r,rfl,_,k13⟩:=af k12;obtain⟨ob,r,rfl,_,k14⟩:=af k13;obtain⟨oc,r,rfl,_,k15⟩:=af k14;obtain⟨nO,r,rfl,_,k16⟩:=af k15;obtain⟨nS,r,rfl,_,k17⟩:=af k16;obtain⟨pu,r,rfl,_,k18⟩:=af k17;obtain⟨pw,r,rfl,_,k19⟩:=af k18;obtain⟨vN,r,rfl,_,k20⟩:=af k19;cases dI k20
 obtain⟨LK,rfl,_⟩:=(bO (k:=137) (aj (by decide+kernel))).1 o2;obtain⟨A,rfl,_⟩:=(bO (k:=88) (aj (by decide+kernel))).1 o6;obtain⟨P,rfl,_⟩:=(bO (k:=223) (aj (by decide+kernel))).1 o7;obtain⟨rs,g1,g2,_⟩:=PF C hp Vg;exact⟨rs,g1,g2,nofun⟩
end
def Wx(z0 z1 z2 z3:Int)(a b:Dk):Prop:=(z0=5->1<=z1/\z1<=1000/\1<=z2/\z2<=1000)/\(z0=4->z3<=20)/\(z0=3->a.length=b.length/\a.length<=20)
theorem UJ(z0 z1 z2 z3:Int)(a b:Dk){bu:Bool}(hu:Gf 285 [.i z0,.i z1,.i z2,.i z3,.l (a.map .i),.l (b.map .i)]=some [.b bu])(ha:a.length<=10000000)(hb:b.length<=10000000):
 bW (uE.aF Gf [.i z0,.i z1,.i z2,.i z3,.l (a.map .i),.l (b.map .i)] []) fun r=>∃z:Int,r=[.i z]/\(z=0->Wx z0 z1 z2 z3 a b):=by
 obtain⟨b1,h1,p1⟩:=sW 0 1000000000 [z1] (by simp)
 obtain⟨b2,h2,p2⟩:=sW 0 1000000000 [z1,z2] (by simp)
 obtain⟨b3,h3,p3⟩:=sW 1 20 [z3] (by simp)
 obtain⟨b4,h4,p4⟩:=sW 0 1000000 [z1,z2] (by simp)
 obtain⟨b5,h5,p5⟩:=sW 1 1000 [z1,z2] (by simp)
 obtain⟨b6,h6,p6⟩:=sW 0 1000000000 a ha
 obtain⟨b7,h7,p7⟩:=sW 1 1000 b hb
 simp only[jQ,map_nil]at h1 h2 h3 h4 h5
 have p5:b5=true->(1<=z1/\z1<=1000)/\1<=z2/\z2<=1000:=fun h=>⟨p5 h z1 (by simp),p5 h z2 (by simp)⟩
 have p3:b3=true->1<=z3/\z3<=20:=fun h=>p3 h z3 (by simp)
 clear p1 p2 p4 p6 p7
 have key:∀z:Int,(z=0->Wx z0 z1 z2 z3 a b)->bW (some [Sc.i z]) fun r=>∃z:Int,r=[.i z]/\(z=0->Wx z0 z1 z2 z3 a b):=fun z h=>bW.some ⟨z,rfl,h⟩
 generalize hQ:(fun r:ab=>∃z:Int,r=[.i z]/\(z=0->Wx z0 z1 z2 z3 a b))=Q at key⊢
 generalize hD:Wx z0 z1 z2 z3 a b=D at key
 unfold uE
 simp only[hu,h1,h2,h3,h4,h5,h6,h7,Ab,aT,Nat.reduceAdd]
 repeat' split
 all_goals
  refine key _ fun h=> ?_
  rw[<-hD]
  clear hQ hD key
  first
  |exact absurd h (by decide)
  |(refine⟨fun e=> ?_,fun e=> ?_,fun e=> ?_⟩<;>first
     |(exfalso;omega)
     |(have q1:=p5 (by assumption);omega)
     |(have q0:b5=true:=eq_true_of_ne_false (by assumption)
       have q1:=p5 q0;omega)
     |(have q1:=p3 (by assumption);omega)
     |omega)
section
variable{pm:Pm}(hp:dG pm)(N:Nat)
include hp
theorem SW{x:Sc}(h:has am (II pm) (JJ pm N) (.ae 3) x):has am (II pm) (JJ pm N) (.aV 3) x:=by obtain⟨xs,rfl,_,h⟩:=(cY hp (N:=N)).list 3 x (aj (by decide+kernel)) h;exact⟨xs,rfl,h⟩
theorem OO{x:Sc}(h:has am (II pm) (JJ pm N) (.ae 3) x):∃zs:Dk,x= .l (zs.map Sc.i)/\zs.length<=10000000:=by
 obtain⟨xs,rfl,h1,h2⟩:=(cY hp (N:=N)).list 3 x (aj (by decide+kernel)) h;obtain⟨zs,e⟩:=HY hp N (x:= .l xs) ⟨xs,rfl,h2⟩;refine⟨zs,e,?_⟩;cases e
 rw[Ab]at h1;exact bI h1 (by decide+kernel)
theorem HA(hu:dQ am (II pm) (JJ pm N) Gf zg):dQ am (II pm) (JJ pm N) Gf mh:=by
 intro xs hx gk
 match xs,hx with
 |[x0,x1,x2,x3,x4,x5],hx=>
  obtain⟨⟨z0,rfl⟩,⟨z1,rfl⟩,⟨z2,rfl⟩,⟨z3,rfl⟩,h4,h5,_⟩:=hx;obtain⟨a,rfl,ha⟩:=OO hp N h4;obtain⟨b,rfl,hb⟩:=OO hp N h5;obtain⟨rs,hr,KN,_⟩:=hu [.i z0,.i z1,.i z2,.i z3,.l (a.map .i),.l (b.map .i)] ⟨⟨z0,rfl⟩,⟨z1,rfl⟩,⟨z2,rfl⟩,⟨z3,rfl⟩,SW hp N h4,SW hp N h5,trivial⟩ (nofun)
  match rs,KN with
  |[r],KN=>
   obtain⟨bu,rfl⟩:=KN.1;obtain⟨r,h1,z,rfl,h2⟩:=UJ z0 z1 z2 z3 a b hr ha hb;refine⟨[.i z],by rw[show mh.key=198 from rfl,L2];exact h1,⟨⟨z,rfl⟩,trivial⟩,?_⟩;intro f hf;simp only[mh,bX,nV,AR]at hf;have i0:∀x y:Int,((Ex.o .eq (.i x) (.i y)).ev []).bool=true->x=y:=fun x y h=>vK.1 h;rcases hf with rfl|rfl|rfl|rfl|rfl|rfl|rfl;all_goals
    intro e1 e2
    have e1:z=0:=vK.1 e1
    have e2:=vK.1 e2
    have d:=h2 e1
   ·exact lP (d.1 e2).1
   ·exact lP (d.1 e2).2.1
   ·exact lP (d.1 e2).2.2.1
   ·exact lP (d.1 e2).2.2.2
   ·exact lP (d.2.1 e2)
   ·exact vK.2 (show((a.map Sc.i).length:Int)=(b.map Sc.i).length by have:=(d.2.2 e2).1;simp only[Ab];omega)
   ·exact lP (show((a.map Sc.i).length:Int)<=20 by have:=(d.2.2 e2).2;simp only[Ab];omega)
end
def H1(l:ab):Gf 356 l=if l.length=3 then uB.aF Gf l []else none:=LX l
def vo(l:ab):Gf 376 l=if l.length=1 then jf.aF Gf l []else none:=xE l
def H2(l:ab):Gf 385 l=if l.length=1 then uC.aF Gf l []else none:=LY l
def H3(l:ab):Gf 352 l=if l.length=2 then uD.aF Gf l []else none:=LZ l
def FC(l:ab):Gf 334 l=if l.length=7 then sS.aF Gf l []else none:=JC l
def hiW(x:Nat):Int:=((x/18446744073709551616:Nat):Int)
def loW(x:Nat):Int:=((x%18446744073709551616:Nat):Int)
def aaH(a b:Int):Int:=IntKind.u64.wrap (BitVec.ofInt IntKind.u64.bits a^^^BitVec.ofInt IntKind.u64.bits b).toNat
def ae2(z:Int):fdiv z (2^(min (32:Int).toNat IntKind.u64.bits))=z/4294967296:=by
 have e:(2:Int)^(min (32:Int).toNat IntKind.u64.bits)=4294967296:=by decide
 rw[e,fdiv_eq_ediv_of_nonneg _ (by omega)]
def LM(z:Int)(h0:0<=z)(h1:z<18446744073709551616):IntKind.u64.wrap ((BitVec.ofInt IntKind.u64.bits z&&&BitVec.ofInt IntKind.u64.bits 4294967295).toNat:Int)=z%4294967296:=by rw[<-and_low32 z h0 h1];rfl
def abs(z:Int):IntKind.u64.wrap ((BitVec.ofInt IntKind.u64.bits (IntKind.u64.wrap z)&&&BitVec.ofInt IntKind.u64.bits 4294967295).toNat:Int)=IntKind.u64.wrap z%4294967296:=by
 have:0<=IntKind.u64.wrap z/\IntKind.u64.wrap z<18446744073709551616:=by rw[IntKind.wrap_u64];omega
 exact LM _ this.1 this.2
def acD(a b:Nat)(ha:a<18446744073709551616)(hb:b<18446744073709551616):Gf 352 [.i a,.i b]=some [.i (hiW (a*b)),.i (loW (a*b))]:=by simp only[H3,uD,Zc,Go.Proofs.YtnfambhakdnncaaGreatDoor.T.aF,Ex.ev,U2.ev,List.map,LD,Qe,length,qO,KR];have e:=mul64_arith a b (by omega) (by omega) (by omega) (by omega);simp only[ae2,LM a (by omega) (by omega),LM b (by omega) (by omega),abs];simp only[IntKind.wrap_u64];rw[e];unfold hiW loW;simp only[eF,uQ,Sc.i.injEq,and_true];exact⟨by rw[<-natCast_mul];rfl,by rw[<-natCast_mul];rfl⟩
def Sb{z:Int}(h1:0<=z)(h2:z<18446744073709551616):IntKind.u64.wrap z=z:=by rw[IntKind.wrap_u64];omega
def wrI{z:Int}(h1: -9223372036854775808<=z)(h2:z<9223372036854775808):IntKind.i64.wrap z=z:=by rw[IntKind.wrap_i64];omega
def MT{a b:Nat}(h:a<18446744073709551616):IntKind.u64.wrap ((a:Int).tdiv (b:Int))=((a/b:Nat):Int):=by have e:(a:Int).tdiv (b:Int)=((a/b:Nat):Int):=rfl;have:=div_le_self a b;generalize a/b=c at*;rw[e,Sb (by omega) (by omega)]
def Gt(a i:Nat):fdiv (a:Int) (2^i)=((a/2^i:Nat):Int):=by rw[fdiv_eq_ediv_of_nonneg _ (by have:=Int.pow_nonneg (n:=2) (m:=i) (by omega);exact this)];simp
section
variable{Y y1 y0 U n q r:Nat}
def Xg(hY:Y=4294967296*y1+y0)(e:U=q*y1+r):q*Y+4294967296*r=4294967296*U+q*y0:=by rw[hY,e,Nat.mul_add,Nat.mul_add,Nat.mul_left_comm];omega
def Xj(hY:Y=4294967296*y1+y0)(hU:U<Y)(hn:n<4294967296)(e:U=q*y1+r):
 (4294967296<=q\/4294967296*r+n<q*y0)↔(U*4294967296+n)/Y<q:=by
 have h:=Xg hY e
 rw[Uy (by omega)]
 constructor
 ·rintro(h1|h1)
  ·have:=fu Y h1;omega
  ·omega
 ·intro h1;omega
def Xh(hY:Y=4294967296*y1+y0)(h0:y0<4294967296)(hU:U<Y)(hn:n<4294967296)(e:U=(q+1)*y1+r)(hq:(U*4294967296+n)/Y<q+1)(hr:4294967296<=r+y1):(U*4294967296+n)/Y=q:=by
 have e':U=q*y1+(r+y1):=by rw[e,succ_mul];omega
 have h:=Xg hY e';have hb:q<4294967296:=by
  rcases xU q 4294967296 with h|h
  ·exact h
  ·have:=fu y1 h;omega
 have hm:q*y0<=4294967295*4294967295:=Nat.mul_le_mul (by omega) (by omega);have:q<=(U*4294967296+n)/Y:=by rw[le_div_iff_mul_le (by omega)];omega
 omega
def US(hY:Y=4294967296*y1+y0)(h0:y0<4294967296)(h1:2147483648<=y1)(hU:U<Y)(hn:n<4294967296):(U*4294967296+n)/Y<=U/y1/\U/y1<=4294967297/\U%y1<4294967296\/4294967296<=y1:=by
 by_cases h2:4294967296<=y1
 ·exact .inr h2
 left;have hp:0<y1:=by omega
 have hdm:=tu U y1;have bi:=mod_lt U hp;refine⟨?_,?_,by omega⟩
 ·rw[le_div_iff_mul_le hp];have as8:=div_mul_le_self (U*4294967296+n) Y;generalize(U*4294967296+n)/Y=Q at*;rw[hY,Nat.mul_add,Nat.mul_left_comm]at as8;omega
 ·have:U/y1<4294967298:=by rw[Uy hp];omega
  omega
end
def UR{N y s Y U Nd Uq Q1 R1 Q0 R0:Nat}(hYe:Y=y*2^s)(d1:Y*Q1+R1=U*4294967296+Nd)(d2:Y*Q0+R0=R1*4294967296+Uq)(l2:R0<Y)(e:U*18446744073709551616+(Nd*4294967296+Uq)=N*2^s):
 Q1*4294967296+Q0=N/y/\R0/2^s=N%y:=by
 have hs:0<2^s:=NA s
 have hY:0<Y:=by omega
 have e2:N*2^s=R0+Y*(Q1*4294967296+Q0):=by rw[<-e,Nat.mul_add,<-Nat.mul_assoc];omega
 constructor
 ·have:N*2^s/Y=Q1*4294967296+Q0:=by rw[e2,add_mul_div_left _ _ hY,div_eq_of_lt l2,eG]
  rw[hYe,Nat.mul_div_mul_right _ _ hs]at this;exact this.symm
 ·have:N*2^s%Y=R0:=by rw[e2,add_mul_mod_self_left,mod_eq_of_lt l2]
  rw[hYe,mul_mod_mul_right]at this;rw[<-this,Nat.mul_div_cancel _ hs]
def Xi{N y s Y U Nd Uq:Nat}(hy:0<y)(hYe:Y=y*2^s)(e:U*18446744073709551616+(Nd*4294967296+Uq)=N*2^s):
 (U*4294967296+Nd)/Y*4294967296+((U*4294967296+Nd)%Y*4294967296+Uq)/Y=N/y/\((U*4294967296+Nd)%Y*4294967296+Uq)%Y/2^s=N%y:=
 UR hYe (tu ..) (tu ..) (mod_lt _ (by rw[hYe];exact Nat.mul_pos hy (NA s))) e
def Z9{hi lo s:Nat}(hs:s<=64):(hi*2^s+lo/2^(64-s))*18446744073709551616+lo*2^s%18446744073709551616=(hi*18446744073709551616+lo)*2^s:=by
 have e:(18446744073709551616:Nat)=2^(64-s)*2^s:=by rw[<-Nat.pow_add,show 64-s+s=64 by omega]
 have h1:lo*2^s/18446744073709551616=lo/2^(64-s):=by rw[e,Nat.mul_div_mul_right _ _ (NA s)]
 have h2:=tu (lo*2^s) 18446744073709551616;rw[h1]at h2;rw[Ac,Ac (hi*18446744073709551616),Nat.mul_right_comm];omega
def aie{hi lo y s:Nat}(hs:s<=64)(h:hi<y)(hl:lo<18446744073709551616):hi*2^s+lo/2^(64-s)<y*2^s:=by
 have h1:lo/2^(64-s)<2^s:=by rw[Uy (NA _),<-Nat.pow_add,show s+(64-s)=64 by omega];exact hl
 have h2:=fu (2^s) (show hi+1<=y by omega);rw[succ_mul]at h2;omega
def ahN{y L:Nat}(h1:1<=L)(h2:L<=64)(ha:2^(L-1)<=y)(hb:y<2^L):9223372036854775808<=y*2^(64-L)/\y*2^(64-L)<18446744073709551616:=by
 constructor
 ·have:=fu (2^(64-L)) ha;rw[<-Nat.pow_add,show L-1+(64-L)=63 by omega]at this;exact this
 ·have:=Nat.mul_lt_mul_of_pos_right hb (NA (64-L));rw[<-Nat.pow_add,show L+(64-L)=64 by omega]at this;exact this
def aby{a b s:Nat}(ha:2^s*a+b<18446744073709551616)(hb:b<2^s):IntKind.u64.wrap ((BitVec.ofInt IntKind.u64.bits ((2^s*a:Nat):Int)|||BitVec.ofInt IntKind.u64.bits (b:Int)).toNat:Int)=((2^s*a+b:Nat):Int):=by have e5:IntKind.u64.bits=64:=rfl;rw[e5,BitVec.ofInt_natCast,BitVec.ofInt_natCast,BitVec.toNat_or,BitVec.toNat_ofNat,BitVec.toNat_ofNat,mod_eq_of_lt (by omega),mod_eq_of_lt (by omega),<-two_pow_add_eq_or_of_lt hb,IntKind.wrap_u64];omega
def wo:bH:=[0,1,2,2,3,3,3,3,4,4,4,4,4,4,4,4,5,5,5,5,5,5,5,5,5,5,5,5,5,5,5,5,6,6,6,6,6,6,6,6,6,6,6,6,6,6,6,6,6,6,6,6,6,6,6,6,6,6,6,6,6,6,6,6,7,7,7,7,7,7,7,7,7,7,7,7,7,7,7,7,7,7,7,7,7,7,7,7,7,7,7,7,7,7,7,7,7,7,7,7,7,7,7,7,7,7,7,7,7,7,7,7,7,7,7,7,7,7,7,7,7,7,7,7,7,7,7,7,8,8,8,8,8,8,8,8,8,8,8,8,8,8,8,8,8,8,8,8,8,8,8,8,8,8,8,8,8,8,8,8,8,8,8,8,8,8,8,8,8,8,8,8,8,8,8,8,8,8,8,8,8,8,8,8,8,8,8,8,8,8,8,8,8,8,8,8,8,8,8,8,8,8,8,8,8,8,8,8,8,8,8,8,8,8,8,8,8,8,8,8,8,8,8,8,8,8,8,8,8,8,8,8,8,8,8,8,8,8,8,8,8,8,8,8,8,8,8,8,8,8,8,8,8,8,8,8]
def anf(l:bH):T bZ:=
 (.ite (.o .le (.i 4294967296) (.v 0))
 (.ite (.o .le (.i 65536) (.o (.shr .u64) (.v 0) (.i 32)))
 (.ite (.o .le (.i 256) (.o (.shr .u64) (.o (.shr .u64) (.v 0) (.i 32)) (.i 16)))
 (.aa (.o .le (.i 0) (.u (.conv .u8) (.o (.shr .u64) (.o (.shr .u64) (.o (.shr .u64) (.v 0) (.i 32)) (.i 16)) (.i 8)))) (.aa (.o .lt (.u (.conv .u8) (.o (.shr .u64) (.o (.shr .u64) (.o (.shr .u64) (.v 0) (.i 32)) (.i 16)) (.i 8))) (.u .iN (.s l))) (.ah [(.o (.add .i64) (.i 56) (.u (.conv .i64) (.o .qG (.s l) (.u (.conv .u8) (.o (.shr .u64) (.o (.shr .u64) (.o (.shr .u64) (.v 0) (.i 32)) (.i 16)) (.i 8))))))])))
 (.aa (.o .le (.i 0) (.u (.conv .u8) (.o (.shr .u64) (.o (.shr .u64) (.v 0) (.i 32)) (.i 16)))) (.aa (.o .lt (.u (.conv .u8) (.o (.shr .u64) (.o (.shr .u64) (.v 0) (.i 32)) (.i 16))) (.u .iN (.s l))) (.ah [(.o (.add .i64) (.i 48) (.u (.conv .i64) (.o .qG (.s l) (.u (.conv .u8) (.o (.shr .u64) (.o (.shr .u64) (.v 0) (.i 32)) (.i 16))))))]))))
 (.ite (.o .le (.i 256) (.o (.shr .u64) (.v 0) (.i 32)))
 (.aa (.o .le (.i 0) (.u (.conv .u8) (.o (.shr .u64) (.o (.shr .u64) (.v 0) (.i 32)) (.i 8)))) (.aa (.o .lt (.u (.conv .u8) (.o (.shr .u64) (.o (.shr .u64) (.v 0) (.i 32)) (.i 8))) (.u .iN (.s l))) (.ah [(.o (.add .i64) (.i 40) (.u (.conv .i64) (.o .qG (.s l) (.u (.conv .u8) (.o (.shr .u64) (.o (.shr .u64) (.v 0) (.i 32)) (.i 8))))))])))
 (.aa (.o .le (.i 0) (.u (.conv .u8) (.o (.shr .u64) (.v 0) (.i 32)))) (.aa (.o .lt (.u (.conv .u8) (.o (.shr .u64) (.v 0) (.i 32))) (.u .iN (.s l))) (.ah [(.o (.add .i64) (.i 32) (.u (.conv .i64) (.o .qG (.s l) (.u (.conv .u8) (.o (.shr .u64) (.v 0) (.i 32))))))])))))
 (.ite (.o .le (.i 65536) (.v 0))
 (.ite (.o .le (.i 256) (.o (.shr .u64) (.v 0) (.i 16)))
 (.aa (.o .le (.i 0) (.u (.conv .u8) (.o (.shr .u64) (.o (.shr .u64) (.v 0) (.i 16)) (.i 8)))) (.aa (.o .lt (.u (.conv .u8) (.o (.shr .u64) (.o (.shr .u64) (.v 0) (.i 16)) (.i 8))) (.u .iN (.s l))) (.ah [(.o (.add .i64) (.i 24) (.u (.conv .i64) (.o .qG (.s l) (.u (.conv .u8) (.o (.shr .u64) (.o (.shr .u64) (.v 0) (.i 16)) (.i 8))))))])))
 (.aa (.o .le (.i 0) (.u (.conv .u8) (.o (.shr .u64) (.v 0) (.i 16)))) (.aa (.o .lt (.u (.conv .u8) (.o (.shr .u64) (.v 0) (.i 16))) (.u .iN (.s l))) (.ah [(.o (.add .i64) (.i 16) (.u (.conv .i64) (.o .qG (.s l) (.u (.conv .u8) (.o (.shr .u64) (.v 0) (.i 16))))))]))))
 (.ite (.o .le (.i 256) (.v 0))
 (.aa (.o .le (.i 0) (.u (.conv .u8) (.o (.shr .u64) (.v 0) (.i 8)))) (.aa (.o .lt (.u (.conv .u8) (.o (.shr .u64) (.v 0) (.i 8))) (.u .iN (.s l))) (.ah [(.o (.add .i64) (.i 8) (.u (.conv .i64) (.o .qG (.s l) (.u (.conv .u8) (.o (.shr .u64) (.v 0) (.i 8))))))])))
 (.aa (.o .le (.i 0) (.u (.conv .u8) (.v 0))) (.aa (.o .lt (.u (.conv .u8) (.v 0)) (.u .iN (.s l))) (.ah [(.o (.add .i64) (.i 0) (.u (.conv .i64) (.o .qG (.s l) (.u (.conv .u8) (.v 0)))))]))))))
def ahD:uC=anf wo:=rfl
def RK(z:Nat):fdiv (z:Int) (2^(Min.min (32:Int).toNat IntKind.u64.bits))=((z/4294967296:Nat):Int):=ae2 _
def aif(z:Nat):fdiv (z:Int) (2^(Min.min (16:Int).toNat IntKind.u64.bits))=((z/65536:Nat):Int):=Gt z 16
def anS(z:Nat):fdiv (z:Int) (2^(Min.min (8:Int).toNat IntKind.u64.bits))=((z/256:Nat):Int):=Gt z 8
def PP{z:Nat}(h:z<256):IntKind.u8.wrap (z:Int)=z:=by have e:IntKind.u8.wrap (z:Int)=(z:Int)%256:=rfl;rw[e];omega
def acx:∀i:Nat,i<256->0<i->1<=((wo.map UInt8.ofNat).getD i 0).toNat/\((wo.map UInt8.ofNat).getD i 0).toNat<=8/\2^(((wo.map UInt8.ofNat).getD i 0).toNat-1)<=i/\i<2^((wo.map UInt8.ofNat).getD i 0).toNat:=by decide+kernel
def Y7(y k i:Nat)(hi:i=y/2^k)(h1:0<i)(h2:i<256)(hk:k<=56):∃L:Nat,some [Sc.i (IntKind.i64.wrap ((k:Int)+IntKind.i64.wrap (((wo.map UInt8.ofNat).getD i 0).toNat:Int)))]=some [Sc.i L]/\1<=L/\L<=64/\2^(L-1)<=y/\y<2^L:=by
 obtain⟨t1,t2,t3,t4⟩:=acx i h2 h1;generalize((wo.map UInt8.ofNat).getD i 0).toNat=t at*;refine⟨k+t,?_,by omega,by omega,?_,?_⟩
 ·rw[wrI (z:=(t:Int)) (by omega) (by omega),wrI (by omega) (by omega)];simp
 ·have:=fu (2^k) t3;rw[<-Nat.pow_add,show t-1+k=k+t-1 by omega,hi]at this;exact bI this (div_mul_le_self y _)
 ·rw[hi,Uy (NA _),<-Nat.pow_add,Nat.add_comm]at t4;exact t4
def Y8:({data:=(wo.map UInt8.ofNat).toArray}:ByteArray).size=256:=by decide+kernel
def acw(y:Nat)(h0:0<y)(hy:y<18446744073709551616):∃L:Nat,Gf 385 [.i y]=some [.i L]/\1<=L/\L<=64/\2^(L-1)<=y/\y<2^L:=by
 rw[H2,ahD];have sz:=Y8;have ah:=Y7 y;generalize wo=l at*;simp only[anf,Go.Proofs.YtnfambhakdnncaaGreatDoor.T.aF,Ex.ev,U1.ev,U2.ev,List.map,LD,length,qO,KR,LQ,Sc.PG,RK,aif,anS,sz];by_cases b0:(4294967296:Int)<=((y:Nat):Int)
 ·by_cases b1:(65536:Int)<=((y/4294967296:Nat):Int)
  ·by_cases b2:(256:Int)<=((y/4294967296/65536:Nat):Int)
   ·have w:=PP (z:=y/4294967296/65536/256) (by omega);have i0:(0:Int)<=((y/4294967296/65536/256:Nat):Int):=by omega
    have i1:((y/4294967296/65536/256:Nat):Int)<((256:Nat):Int):=by omega
    have lf:=ah 56 (y/4294967296/65536/256) (by rw[wY,wY]) (by omega) (by omega) (by omega);have c0:((56:Nat):Int)=56:=rfl;rw[c0]at lf;simp only[b0,b1,b2,w,i0,i1,om,xW,Ho];exact lf
   ·have w:=PP (z:=y/4294967296/65536) (by omega);have i0:(0:Int)<=((y/4294967296/65536:Nat):Int):=by omega
    have i1:((y/4294967296/65536:Nat):Int)<((256:Nat):Int):=by omega
    have lf:=ah 48 (y/4294967296/65536) (by rw[wY]) (by omega) (by omega) (by omega);have c0:((48:Nat):Int)=48:=rfl;rw[c0]at lf;simp only[b0,b1,b2,w,i0,i1,om,xW,Ho];exact lf
  ·by_cases b2:(256:Int)<=((y/4294967296:Nat):Int)
   ·have w:=PP (z:=y/4294967296/256) (by omega);have i0:(0:Int)<=((y/4294967296/256:Nat):Int):=by omega
    have i1:((y/4294967296/256:Nat):Int)<((256:Nat):Int):=by omega
    have lf:=ah 40 (y/4294967296/256) (by rw[wY]) (by omega) (by omega) (by omega);have c0:((40:Nat):Int)=40:=rfl;rw[c0]at lf;simp only[b0,b1,b2,w,i0,i1,om,xW,Ho];exact lf
   ·have w:=PP (z:=y/4294967296) (by omega);have i0:(0:Int)<=((y/4294967296:Nat):Int):=by omega
    have i1:((y/4294967296:Nat):Int)<((256:Nat):Int):=by omega
    have lf:=ah 32 (y/4294967296) (by rfl) (by omega) (by omega) (by omega);have c0:((32:Nat):Int)=32:=rfl;rw[c0]at lf;simp only[b0,b1,b2,w,i0,i1,om,xW,Ho];exact lf
 ·by_cases b1:(65536:Int)<=((y:Nat):Int)
  ·by_cases b2:(256:Int)<=((y/65536:Nat):Int)
   ·have w:=PP (z:=y/65536/256) (by omega);have i0:(0:Int)<=((y/65536/256:Nat):Int):=by omega
    have i1:((y/65536/256:Nat):Int)<((256:Nat):Int):=by omega
    have lf:=ah 24 (y/65536/256) (by rw[wY]) (by omega) (by omega) (by omega);have c0:((24:Nat):Int)=24:=rfl;rw[c0]at lf;simp only[b0,b1,b2,w,i0,i1,om,xW,Ho];exact lf
   ·have w:=PP (z:=y/65536) (by omega);have i0:(0:Int)<=((y/65536:Nat):Int):=by omega
    have i1:((y/65536:Nat):Int)<((256:Nat):Int):=by omega
    have lf:=ah 16 (y/65536) (by rfl) (by omega) (by omega) (by omega);have c0:((16:Nat):Int)=16:=rfl;rw[c0]at lf;simp only[b0,b1,b2,w,i0,i1,om,xW,Ho];exact lf
  ·by_cases b2:(256:Int)<=((y:Nat):Int)
   ·have w:=PP (z:=y/256) (by omega);have i0:(0:Int)<=((y/256:Nat):Int):=by omega
    have i1:((y/256:Nat):Int)<((256:Nat):Int):=by omega
    have lf:=ah 8 (y/256) (by rfl) (by omega) (by omega) (by omega);have c0:((8:Nat):Int)=8:=rfl;rw[c0]at lf;simp only[b0,b1,b2,w,i0,i1,om,xW,Ho];exact lf
   ·have w:=PP (z:=y) (by omega);have i0:(0:Int)<=((y:Nat):Int):=by omega
    have i1:((y:Nat):Int)<((256:Nat):Int):=by omega
    have lf:=ah 0 (y) (by simp) (by omega) (by omega) (by omega);have c0:((0:Nat):Int)=0:=rfl;rw[c0]at lf;simp only[b0,b1,b2,w,i0,i1,om,xW,Ho];simp only[xW]at lf;exact lf
def ahI(y:Nat)(h0:0<y)(hy:y<18446744073709551616):∃s:Nat,Gf 376 [.i y]=some [.i s]/\s<64/\9223372036854775808<=y*2^s/\y*2^s<18446744073709551616:=by
 obtain⟨L,e,l1,l2,l3,l4⟩:=acw y h0 hy;refine⟨64-L,?_,by omega,ahN l1 l2 l3 l4⟩;have w:IntKind.i64.wrap (64-(L:Int))=((64-L:Nat):Int):=by rw[wrI (by omega) (by omega)];omega
 simp only[vo,jf,e,w,Zc,Go.Proofs.YtnfambhakdnncaaGreatDoor.T.aF,Ex.ev,U2.ev,List.map,LD,Qe,length,Fe,rU,qO,KR]
def G0(a s:Nat):((a*2^s:Nat):Int)=(a:Int)*2^s:=by simp
def Sr(z:Nat)(h:z<18446744073709551616):IntKind.u64.wrap ((BitVec.ofInt IntKind.u64.bits (z:Int)&&&BitVec.ofInt IntKind.u64.bits 4294967295).toNat:Int)=((z%4294967296:Nat):Int):=LM _ (by omega) (by omega)
def N8{g:dK->dK}{Y y1 y0 U n:Nat}{R:Option ab}(K:Nat->Option ab)(hY:Y=4294967296*y1+y0)(h0:y0<4294967296)(h1:2147483648<=y1)(h2:y1<4294967296)(hU:U<Y)(hn:n<4294967296)(stop:∀q r rec,q<4294967296->r<4294967296->¬4294967296*r+n<q*y0->g rec [.i ((q:Nat):Int),.i ((r:Nat):Int)]=K q)(exit:∀q r rec,q<=4294967296->r<4294967296->(4294967296<=q+1\/4294967296*r+n<(q+1)*y0)->4294967296<=r+y1->g rec [.i ((q+1:Nat):Int),.i ((r:Nat):Int)]=K q)(cont:∀q r rec,q<=4294967296->r<4294967296->(4294967296<=q+1\/4294967296*r+n<(q+1)*y0)->r+y1<4294967296->g rec [.i ((q+1:Nat):Int),.i ((r:Nat):Int)]=rec [.i (q:Int),.i ((r+y1:Nat):Int)])(fin:K ((U*4294967296+n)/Y)=R):cH g fg [.i ((U/y1:Nat):Int),.i ((U%y1:Nat):Int)]=R:=by
 have st:=US hY h0 h1 hU hn
 have dm:=tu U y1
 refine EV (S:=Nat×Nat) (fun s=>[.i s.1,.i s.2]) (fun _=>R) (fun s=>U=s.1*y1+s.2/\s.2<4294967296/\s.1<=4294967297/\(U*4294967296+n)/Y<=s.1) (fun s=>s.1) ?_ (U/y1,U%y1) ⟨by rw[Kf];exact dm.symm,by simp only;omega,by simp only;omega,by simp only;omega⟩ (by simp only;omega)
 rintro⟨q,r⟩ rec ⟨e,hr,hq,hQ⟩ lE
 simp only at e hr hq hQ⊢
 have ct:=Xj hY hU hn e
 by_cases bi:(U*4294967296+n)/Y<q
 ·obtain⟨q,rfl⟩:∃k,q=k+1:=⟨q-1,(succ_pred_eq_of_pos (Nat.lt_of_le_of_lt (xA _) bi)).symm⟩;have hc:=ct.2 bi;by_cases he:4294967296<=r+y1
  ·have x:=Xh hY h0 hU hn e bi he;rw[exit q r rec (by omega) hr hc he,<-x,fin]
  ·rw[cont q r rec (by omega) hr hc (by omega)];exact lE (q,r+y1) ⟨by show U=q*y1+(r+y1);rw[e,succ_mul];omega,by simp only;omega,by simp only;omega,le_of_lt_succ bi⟩ (by simp only;omega)
 ·have hc:¬(4294967296<=q\/4294967296*r+n<q*y0):=fun h=>bi (ct.1 h);have Tj:q<4294967296:=Nat.lt_of_not_le (fun h=>hc (.inl h));have x:(U*4294967296+n)/Y=q:=Nat.le_antisymm hQ (Kg bi);rw[stop q r rec Tj hr (fun h=>hc (.inr h)),<-x,fin]
def afV{U Nd Q Y R:Nat}(h:Y*Q+R=U*4294967296+Nd)(hR:R<18446744073709551616):IntKind.u64.wrap (IntKind.u64.wrap (IntKind.u64.wrap ((U:Int)*4294967296)+Nd)-IntKind.u64.wrap ((Q:Int)*Y))=R:=by
 have e:(Q:Int)*Y=((Y*Q:Nat):Int):=by rw[Kf];simp
 rw[e];simp only[IntKind.wrap_u64];omega
def ZM{a b:Nat}(h:a<18446744073709551616):IntKind.u64.wrap ((a:Int)-IntKind.u64.wrap (((a/b:Nat):Int)*b))=((a%b:Nat):Int):=by
 have e:((a/b:Nat):Int)*b=((b*(a/b):Nat):Int):=by rw[Kf];simp
 have d:=tu a b;rw[e];simp only[IntKind.wrap_u64];omega
def Kx{q r n y1 y0:Nat}(hq:q<=4294967297)(hr:r<4294967296)(hn:n<4294967296)(h2:y1<4294967296)(h0:y0<4294967296):
 IntKind.u64.wrap (IntKind.u64.wrap (4294967296*(r:Int))+n)=((4294967296*r+n:Nat):Int)/\IntKind.u64.wrap ((q:Int)*y0)=((q*y0:Nat):Int)/\IntKind.u64.wrap ((r:Int)+y1)=((r+y1:Nat):Int):=by
 have m:q*y0<=4294967297*4294967295:=Nat.mul_le_mul hq (by omega)
 refine⟨?_,?_,?_⟩
 ·rw[Sb (z:=4294967296*(r:Int)) (by omega) (by omega),Sb (by omega) (by omega)];omega
 ·rw[<-natCast_mul,Sb (by omega) (by omega)]
 ·rw[Sb (by omega) (by omega)];omega
def ao7{a b:Nat}(h:a*4294967296+b<18446744073709551616):IntKind.u64.wrap (IntKind.u64.wrap ((a:Int)*4294967296)+b)=((a*4294967296+b:Nat):Int):=by simp only[IntKind.wrap_u64];omega
def abT(hi lo y:Nat)(h:hi<y)(hl:lo<18446744073709551616)(hy:y<18446744073709551616):Gf 356 [.i hi,.i lo,.i y]=some [.i (((hi*18446744073709551616+lo)/y:Nat):Int),.i (((hi*18446744073709551616+lo)%y:Nat):Int)]:=by
 obtain⟨s,ls,hs,n1,n2⟩:=ahI y (by omega) hy;have ws:IntKind.u64.wrap (s:Int)=s:=Sb (by omega) (by omega);have w64:IntKind.u64.wrap (64-(s:Int))=((64-s:Nat):Int):=by rw[Sb (by omega) (by omega)];omega
 have t1:Min.min (s:Int).toNat IntKind.u64.bits=s:=by show Min.min s 64=s;omega
 have t2:Min.min ((64-s:Nat):Int).toNat IntKind.u64.bits=64-s:=by show Min.min (64-s) 64=64-s;omega
 have py:IntKind.u64.wrap ((y:Int)*2^s)=((y*2^s:Nat):Int):=by rw[<-G0,Sb (by omega) (by omega)]
 have bi:=aie (s:=s) (by omega) h hl;have Cq:lo/2^(64-s)<2^s:=by rw[Uy (NA _),<-Nat.pow_add,show s+(64-s)=64 by omega];exact hl
 have hh:hi*2^s<18446744073709551616:=Nat.lt_of_le_of_lt (le_add_right _ _) (Nat.lt_trans bi n2);have ph:IntKind.u64.wrap ((hi:Int)*2^s)=((hi*2^s:Nat):Int):=by rw[<-G0,Sb (by omega) (by omega)]
 have pl:IntKind.u64.wrap ((lo:Int)*2^s)=((lo*2^s%18446744073709551616:Nat):Int):=by rw[<-G0,IntKind.wrap_u64];omega
 have bo:=aby (a:=hi) (b:=lo/2^(64-s)) (s:=s) (by rw[Kf];omega) Cq;have jn:=Z9 (hi:=hi) (lo:=lo) (s:=s) (by omega);have sy:=RK (y*2^s);have by':=Sr (y*2^s) n2;have sl:=RK (lo*2^s%18446744073709551616);have bl:=Sr (lo*2^s%18446744073709551616) (by omega);have c0:(0:Int)<=s:=by omega
 have c1:(0:Int)<=((64-s:Nat):Int):=by omega
 rw[Kf (2^s) hi]at bo;have dj:=Xi (N:=hi*18446744073709551616+lo) (y:=y) (s:=s) (Y:=y*2^s) (U:=hi*2^s+lo/2^(64-s)) (Nd:=lo*2^s%18446744073709551616/4294967296) (Uq:=lo*2^s%18446744073709551616%4294967296) (by omega) rfl (by rw[div_add_mod'];exact jn);have g0:¬(y:Int)=0:=by omega
 have g1:¬(y:Int)<=hi:=by omega
 have hyd:=tu (y*2^s) 4294967296;have Yh:y*2^s%4294967296<4294967296:=mod_lt _ (by omega);have OK:2147483648<=y*2^s/4294967296/\y*2^s/4294967296<4294967296:=by omega
 have Wn:lo*2^s%18446744073709551616/4294967296<4294967296:=by omega
 have HI:lo*2^s%18446744073709551616%4294967296<4294967296:=by omega
 have g2:¬((y*2^s/4294967296:Nat):Int)=0:=by omega
 have anT:=fun z:Nat=>Gt z s;simp only[H1,uB,ls,ws,w64,t1,t2,py,Gt lo (64-s),auE,Zc,Go.Proofs.YtnfambhakdnncaaGreatDoor.T.aF,Ex.ev,U1.ev,U2.ev,List.map,LD,Qe,length,Fe,rU,qO,KR,LQ,getElem?_cons_zero,getElem?_cons_succ];simp only[ph,bo,pl,sy,by',sl,bl];generalize hYY:y*2^s=Y at*;generalize hUU:hi*2^s+lo/2^(64-s)=U at*;generalize Oq:lo*2^s%18446744073709551616/4294967296=Nd at*;generalize h00:lo*2^s%18446744073709551616%4294967296=Uq at*;generalize Y/4294967296=y1 at*;generalize Y%4294967296=y0 at*;simp only[g0,g1,g2,c0,c1,AO,Ho];by_cases hz:(hi:Int)=0
 ·have hz':hi=0:=by omega
  have q:=MT (a:=lo) (b:=y) hl;have m:tmod (lo:Int) (y:Int)=((lo%y:Nat):Int):=rfl;rw[aA hz,q,m,hz',Nz,eG]
 rw[aE hz];have alC:U<18446744073709551616:=by omega
 have iq:=MT (a:=U) (b:=y1) alC;have ir:=ZM (a:=U) (b:=y1) alC;rw[iq,ir];have amS:Y=4294967296*y1+y0:=by omega
 have key:=fun g R K st ex co fi=>N8 (g:=g) (R:=R) K amS Yh OK.1 OK.2 bi Wn st ex co fi;refine key _ _ ?_ ?_ ?_ ?_ ?_
 case refine_2=>
  intro q r rec hq hr hc;obtain⟨w1,w2,w3⟩:=Kx (q:=q) (by omega) hr Wn OK.2 Yh;have k1:¬(4294967296:Int)<=q:=by omega
  have k2:¬((4294967296*r+Nd:Nat):Int)<((q*y0:Nat):Int):=by omega
  simp only[w1,w2,k1,k2,Ho];rfl
 case refine_3=>
  intro q r rec hq hr hc he;obtain⟨w1,w2,w3⟩:=Kx (q:=q+1) (by omega) hr Wn OK.2 Yh;have w4:IntKind.u64.wrap (((q+1:Nat):Int)-1)=q:=by rw[Sb (by omega) (by omega)];omega
  have k3:(4294967296:Int)<=((r+y1:Nat):Int):=by omega
  by_cases hb:4294967296<=q+1
  ·have k1:(4294967296:Int)<=((q+1:Nat):Int):=by omega
   simp only[w3,w4,k1,k3,Ho]
  ·have k1:¬(4294967296:Int)<=((q+1:Nat):Int):=by omega
   have k2:((4294967296*r+Nd:Nat):Int)<(((q+1)*y0:Nat):Int):=by omega
   simp only[w1,w2,w3,w4,k1,k2,k3,Ho]
 case refine_4=>
  intro q r rec hq hr hc he;obtain⟨w1,w2,w3⟩:=Kx (q:=q+1) (by omega) hr Wn OK.2 Yh;have w4:IntKind.u64.wrap (((q+1:Nat):Int)-1)=q:=by rw[Sb (by omega) (by omega)];omega
  have k3:¬(4294967296:Int)<=((r+y1:Nat):Int):=by omega
  by_cases hb:4294967296<=q+1
  ·have k1:(4294967296:Int)<=((q+1:Nat):Int):=by omega
   simp only[w3,w4,k1,k3,Ho]
  ·have k1:¬(4294967296:Int)<=((q+1:Nat):Int):=by omega
   have k2:((4294967296*r+Nd:Nat):Int)<(((q+1)*y0:Nat):Int):=by omega
   simp only[w1,w2,w3,w4,k1,k2,k3,Ho]
 have d1:=tu (U*4294967296+Nd) Y;have hR1:=mod_lt (U*4294967296+Nd) (show 0<Y by omega);obtain⟨Q1,eQ1⟩:∃Q1,(U*4294967296+Nd)/Y=Q1:=⟨_,rfl⟩;obtain⟨R1,eR1⟩:∃R1,(U*4294967296+Nd)%Y=R1:=⟨_,rfl⟩;rw[eQ1,eR1]at d1 dj;rw[eR1]at hR1;rw[eQ1];have agL:R1<18446744073709551616:=by omega
 have u1:=afV d1 agL;have iq1:=MT (a:=R1) (b:=y1) agL;have ir1:=ZM (a:=R1) (b:=y1) agL;have d0:=tu (R1*4294967296+Uq) Y;have hR0:=mod_lt (R1*4294967296+Uq) (show 0<Y by omega);simp only[u1,iq1,ir1];have auN:=fun g R K st ex co fi=>N8 (g:=g) (R:=R) K amS Yh OK.1 OK.2 hR1 HI st ex co fi;refine auN _ _ ?_ ?_ ?_ ?_ ?_
 case refine_2=>
  intro q r rec hq hr hc;obtain⟨w1,w2,w3⟩:=Kx (q:=q) (by omega) hr HI OK.2 Yh;have k1:¬(4294967296:Int)<=q:=by omega
  have k2:¬((4294967296*r+Uq:Nat):Int)<((q*y0:Nat):Int):=by omega
  simp only[w1,w2,k1,k2,Ho];rfl
 case refine_3=>
  intro q r rec hq hr hc he;obtain⟨w1,w2,w3⟩:=Kx (q:=q+1) (by omega) hr HI OK.2 Yh;have w4:IntKind.u64.wrap (((q+1:Nat):Int)-1)=q:=by rw[Sb (by omega) (by omega)];omega
  have k3:(4294967296:Int)<=((r+y1:Nat):Int):=by omega
  by_cases hb:4294967296<=q+1
  ·have k1:(4294967296:Int)<=((q+1:Nat):Int):=by omega
   simp only[w3,w4,k1,k3,Ho]
  ·have k1:¬(4294967296:Int)<=((q+1:Nat):Int):=by omega
   have k2:((4294967296*r+Uq:Nat):Int)<(((q+1)*y0:Nat):Int):=by omega
   simp only[w1,w2,w3,w4,k1,k2,k3,Ho]
 case refine_4=>
  intro q r rec hq hr hc he;obtain⟨w1,w2,w3⟩:=Kx (q:=q+1) (by omega) hr HI OK.2 Yh;have w4:IntKind.u64.wrap (((q+1:Nat):Int)-1)=q:=by rw[Sb (by omega) (by omega)];omega
  have k3:¬(4294967296:Int)<=((r+y1:Nat):Int):=by omega
  by_cases hb:4294967296<=q+1
  ·have k1:(4294967296:Int)<=((q+1:Nat):Int):=by omega
   simp only[w3,w4,k1,k3,Ho]
  ·have k1:¬(4294967296:Int)<=((q+1:Nat):Int):=by omega
   have k2:((4294967296*r+Uq:Nat):Int)<(((q+1)*y0:Nat):Int):=by omega
   simp only[w1,w2,w3,w4,k1,k2,k3,Ho]
 have u0:=afV d0 (Nat.lt_trans hR0 n2);obtain⟨j1,j2⟩:=dj;have amz:(hi*18446744073709551616+lo)/y<18446744073709551616:=by rw[Uy (by omega)];have:=Aj 18446744073709551616 (show hi+1<=y by omega);omega
 have q0:IntKind.u64.wrap (IntKind.u64.wrap ((Q1:Int)*4294967296)+(((R1*4294967296+Uq)/Y:Nat):Int))=(((hi*18446744073709551616+lo)/y:Nat):Int):=by rw[<-j1]at amz⊢;exact ao7 amz
 simp only[u0,q0,anT,j2]
def trV(W:Int)(A B:Nat):Nat->Nat->Nat->Nat
 |0,_,_=>B|f+1,t,k=>if((t*(A-1)/A:Nat):Int)<=W then k else trV W A B f (t*(A-1)/A) (k+1)
def aas(op n:Int)(L M:ab)(A B:Nat)(u:Int)(hA:1<=A/\A<=1000)(hB:1<=B/\B<=1000):Gf 334 [.i op,.i A,.i B,.i n,.l L,.l M,.i u]=some [.i (trV (aaH 18446744073709551615 u) A B (B-1) 18446744073709551615 1:Nat)]:=by
 simp only[FC,sS,auE,Zc,Go.Proofs.YtnfambhakdnncaaGreatDoor.T.aF,Ex.ev,U1.ev,U2.ev,List.map,LD,Qe,length,Fe,rU,qO,KR,LQ,getElem?_cons_zero];refine EV (S:=Nat×Nat) (fun s=>[.i (s.1:Int),.i (s.2:Int)]) (fun s=>some [.i (trV (aaH 18446744073709551615 u) A B (B-s.2) s.1 s.2:Nat)]) (fun s=>s.1<18446744073709551616/\1<=s.2/\s.2<=B) (fun s=>B-s.2) ?_ (18446744073709551615,1) ⟨by simp only;omega,by simp only;omega,by simp only;omega⟩ (by simp only;omega);rintro⟨t,k⟩ rec ⟨t1,k1,k2⟩ lE;simp only at t1 k1 k2⊢;by_cases bi:k<B
 ·have c1:(k:Int)<B:=by omega
  have p1:t*(A-1)/A<=t:=by refine Nat.div_le_of_le_mul ?_;rw[Kf A t];exact Aj _ (by omega)
  have hr:=lE (t*(A-1)/A,k+1) ⟨by simp only;omega,by simp only;omega,by simp only;omega⟩ (by simp only;omega);simp only at hr;have wa:IntKind.u64.wrap (IntKind.i64.wrap ((A:Int)-1))=((A-1:Nat):Int):=by rw[show(A:Int)-1=((A-1:Nat):Int)by omega,wrI (by omega) (by omega),Sb (by omega) (by omega)]
  have wA:IntKind.u64.wrap (A:Int)=A:=Sb (by omega) (by omega);have m:=acD t (A-1) t1 (by omega);have hq:t*(A-1)<18446744073709551616*A:=Nat.lt_of_le_of_lt (Aj _ (by omega:A-1<=A)) (Nat.mul_lt_mul_of_pos_right t1 (by omega));have d:=abT (t*(A-1)/18446744073709551616) (t*(A-1)%18446744073709551616) A (by rw[Uy (by omega),Kf A 18446744073709551616];exact hq) (mod_lt _ (by omega)) (by omega);have ej:t*(A-1)/18446744073709551616*18446744073709551616+t*(A-1)%18446744073709551616=t*(A-1):=by omega
  rw[ej]at d;unfold hiW loW at m;have hk:IntKind.i64.wrap ((k:Int)+1)=((k+1:Nat):Int):=by rw[wrI (by omega) (by omega)];omega
  have f1:B-k=(B-(k+1))+1:=by omega
  rw[f1];simp only[trV];by_cases c2:((t*(A-1)/A:Nat):Int)<=aaH 18446744073709551615 u
  ·rw[aA c2];unfold aaH at c2;simp only[c1,wa,wA,m,d,c2,Ho,Nat.reduceAdd]
  ·rw[aE c2];unfold aaH at c2;simp only[c1,wa,wA,m,d,c2,hk,hr,Ho,Nat.reduceAdd]
 ·have c1:¬(k:Int)<B:=by omega
  have f1:B-k=0:=by omega
  rw[f1];simp only[c1,trV,Ho]
section
variable{pm:Pm}(hp:dG pm)(N:Nat)
include hp
theorem Ft:dQ am (II pm) (JJ pm N) Gf fN:=by
 intro xs hx gk
 match xs,hx with
 |[x0,x1,x2,x3,x4,x5,x6],hx=>
  obtain⟨⟨z0,rfl⟩,⟨z1,rfl⟩,⟨z2,rfl⟩,⟨z3,rfl⟩,⟨l4,rfl,_⟩,⟨l5,rfl,_⟩,⟨z6,rfl⟩,_⟩:=hx;have p1:(1:Int)<=z1:=fv (gk (.t (.o .le (.i 1) (.v 1)) true) (by simp[fN]));have p2:z1<=1000:=fv (gk (.t (.o .le (.v 1) (.i 1000)) true) (by simp[fN]));have p3:(1:Int)<=z2:=fv (gk (.t (.o .le (.i 1) (.v 2)) true) (by simp[fN]));have p4:z2<=1000:=fv (gk (.t (.o .le (.v 2) (.i 1000)) true) (by simp[fN]));obtain⟨A,rfl⟩:∃A:Nat,z1=A:=⟨z1.toNat,by omega⟩;obtain⟨B,rfl⟩:∃B:Nat,z2=B:=⟨z2.toNat,by omega⟩;exact⟨_,aas z0 z3 l4 l5 A B z6 ⟨by omega,by omega⟩ ⟨by omega,by omega⟩,⟨⟨_,rfl⟩,trivial⟩,nofun⟩
end
def chP:T bZ:=(.loop [(.v 18),(.i 0)]
 (.ite (.o .lt (.v 20) (.u .len (.v 13)))
 (.aa (.o .le (.i 0) (.v 20)) (.aa (.o .lt (.v 20) (.u .len (.v 13))) (.aa (.o .le (.i 0) (.o .idx (.v 13) (.v 20))) (.aa (.o .lt (.o .idx (.v 13) (.v 20)) (.u .len (.v 5))) (.ite (.o .lt (.v 19) (.o .idx (.v 5) (.o .idx (.v 13) (.v 20))))
 (.aa (.o .le (.i 0) (.o .idx (.v 13) (.v 20))) (.aa (.o .lt (.o .idx (.v 13) (.v 20)) (.u .len (.v 4))) (.ah [(.o .idx (.v 4) (.o .idx (.v 13) (.v 20)))])))
 (.aa (.o .le (.i 0) (.o .idx (.v 13) (.v 20))) (.aa (.o .lt (.o .idx (.v 13) (.v 20)) (.u .len (.v 5))) (.next 4 [(.o (.sub .i64) (.v 19) (.o .idx (.v 5) (.o .idx (.v 13) (.v 20)))),(.o (.add .i64) (.v 20) (.i 1))]))))))))
 (.ah [(.i 0)])))
def chE:T bZ:=(.loop [(.v 9),(.v 10),(.i 20)]
 (.ite (.o .lt (.v 16) (.u .len (.v 7)))
 (.loop [(.i 0),(.o (.mul .i64) (.i 2) (.v 16))]
 (.ite (.o .le (.v 18) (.u .len (.v 7)))
 (.fail "op")
 (.ite (.o .lt (.o (.add .i64) (.v 17) (.v 16)) (.u .len (.v 7)))
 (.fail "op")
 (.next 3 [(.v 17),(.v 18),(.o (.mul .i64) (.v 16) (.i 2))]))))
 (.call 355 [(.v 0),(.v 1),(.v 2),(.v 3),(.v 4),(.v 5)] 1
 (.call 332 [(.v 6),(.v 17)] 1
 chP))))
def chI:T bZ:=(.loop [(.v 12),(.v 13)]
 (.ite (.o .lt (.v 9) (.v 14))
 (.aa (.o .le (.i 0) (.v 14)) (.aa (.o .lt (.v 14) (.u .len (.v 15))) (.aa (.o .le (.i 0) (.o (.sub .i64) (.v 14) (.i 1))) (.aa (.o .lt (.o (.sub .i64) (.v 14) (.i 1)) (.u .len (.v 15))) (.aa (.o .le (.i 0) (.o .idx (.v 15) (.v 14))) (.aa (.o .lt (.o .idx (.v 15) (.v 14)) (.u .len (.v 4))) (.aa (.o .le (.i 0) (.o .idx (.v 15) (.o (.sub .i64) (.v 14) (.i 1)))) (.aa (.o .lt (.o .idx (.v 15) (.o (.sub .i64) (.v 14) (.i 1))) (.u .len (.v 4))) (.call 44 [(.o .idx (.v 4) (.o .idx (.v 15) (.v 14))),(.o .idx (.v 4) (.o .idx (.v 15) (.o (.sub .i64) (.v 14) (.i 1))))] 1
 (.ite (.o .lt (.v 16) (.i 0))
 (.aa (.o .le (.i 0) (.o (.sub .i64) (.v 14) (.i 1))) (.aa (.o .lt (.o (.sub .i64) (.v 14) (.i 1)) (.u .len (.v 15))) (.aa (.o .le (.i 0) (.v 14)) (.aa (.o .lt (.v 14) (.u .len (.v 15))) (.aa (.o .le (.i 0) (.v 14)) (.aa (.o .lt (.v 14) (.u .len (.v 15))) (.aa (.o .le (.i 0) (.o (.sub .i64) (.v 14) (.i 1))) (.aa (.o .lt (.o (.sub .i64) (.v 14) (.i 1)) (.u .len (.t .mu (.v 15) (.v 14) (.o .idx (.v 15) (.o (.sub .i64) (.v 14) (.i 1)))))) (.next 3 [(.o (.sub .i64) (.v 14) (.i 1)),(.t .mu (.t .mu (.v 15) (.v 14) (.o .idx (.v 15) (.o (.sub .i64) (.v 14) (.i 1)))) (.o (.sub .i64) (.v 14) (.i 1)) (.o .idx (.v 15) (.v 14)))])))))))))
 (.next 2 [(.o (.add .i64) (.v 12) (.i 1)),(.v 15)])))))))))))
 (.next 2 [(.o (.add .i64) (.v 12) (.i 1)),(.v 15)])))
def chA:T bZ:=(.loop [(.o (.add .i64) (.v 9) (.i 1)),(.v 11)]
 (.ite (.o .lt (.v 12) (.v 10))
 chI
 (.next 1 [(.v 10),(.o (.add .i64) (.v 10) (.i 20)),(.v 13)])))
def chB:T bZ:=(.loop [(.o (.add .i64) (.v 9) (.i 1)),(.v 11)]
 (.ite (.o .lt (.v 12) (.u .len (.v 7)))
 chI
 chE))
def chL:T bZ:=(.loop [(.i 0),(.i 20),(.v 7)]
 (.ite (.o .le (.v 10) (.u .len (.v 7)))
 chA
 chB))
def chT:T bZ:=(.aa (.o .le (.i 0) (.u .len (.v 4))) (.aa (.o .le (.u .len (.v 4)) (.i 16777216)) (.loop [(.o .Bp (.i 0) (.i 0)),(.i 0)]
 (.ite (.o .lt (.v 8) (.u .len (.v 4)))
 (.aa (.o .le (.u .len (.o .gx (.v 7) (.v 8))) (.i 17592186044416)) (.next 0 [(.o .gx (.v 7) (.v 8)),(.o (.add .i64) (.v 8) (.i 1))]))
 chL))))
theorem UK:sR=chT:=rfl
theorem ww{S:Type}{g:dK->dK}{Q:ab->Prop}(enc:S->ab)(I:S->Prop)(μ:S->Nat)(h:∀s rec,I s->(∀s',I s'->μ s'<μ s->bW (rec (enc s')) Q)->bW (g rec (enc s)) Q){v:ab}(s:S)(hv:v=enc s)(hI:I s)(hm:μ s<340282366920938463463374607431768211456):bW (cH g fg v) Q:=by
 have key:∀n k s,μ s<=n->I s->bW (cH g (k+n+1) (enc s)) Q:=by
  intro n;induction n with
  |zero=>
   intro k s h1 h2;exact h s _ h2 fun s' h3 h4=>absurd h4 (by omega)
  |succ n ih=>
   intro k s h1 h2;exact h s _ h2 fun s' h3 h4=>ih k s' (by omega) h3
 obtain⟨k,hk⟩:=rE hm
 rw[hk,hv]
 exact key (μ s) k s (aX _) hI
def P9(n:Nat)(L:ab):Prop:=L.length=n/\∀i,i<n->∃j:Nat,L.getD i (.i 0)= .i (j:Int)/\j<n
theorem P9.set{n:Nat}{L:ab}(h:P9 n L)(i:Nat){j:Nat}(hj:j<n):P9 n (L.set i (.i (j:Int))):=by
 refine⟨by rw[BO];exact h.1,fun k hk=> ?_⟩;by_cases e:i=k
 ·subst e;refine⟨j,?_,hj⟩;rw[cE,getElem?_set_self (by rw[h.1];exact hk)];rfl
 ·obtain⟨m,h1,h2⟩:=h.2 k hk;refine⟨m,?_,h2⟩;rw[cE,getElem?_set_ne e,<-cE];exact h1
theorem Vr(n:Nat):P9 n ((range n).map fun(i:Nat)=>Sc.i (i:Int)):=by refine⟨by simp,fun i hi=>⟨i,?_,hi⟩⟩;rw[cE,vR,getElem?_range hi];rfl
section
variable{a b:Dk}{n:Nat}(ha:a.length=n)(hb:b.length=n)(hn:n<=20)(hc:∀x y:Int,∃z:Int,Gf 44 [.i x,.i y]=some [.i z])
theorem FR{xs:Dk}{p:Nat}(h:p<xs.length):(xs.map Sc.i).getD p (.i 0)= .i (xs.getD p 0):=by simp[cE,h]
theorem aiu(m:Nat)(h:m<4611686018427387904):IntKind.i64.wrap (((m+1:Nat):Int)-1)=(m:Int):=by rw[show((m+1:Nat):Int)-1=(m:Int)by omega];exact wrap64 (by simp only[DZ];omega) (by simp only[vk];omega)
include ha hb hn hc
theorem Sx{Q:ab->Prop}{z0 z1 z2 z3 u v7 v8 hi v11:Sc}{lo i:Nat}{L:ab}(hL:P9 n L)(EO:i<n)(k0 k1 k2:dK)(hk:∀L',P9 n L'->bW (k2 [.i ((i+1:Nat):Int),.l L']) Q):bW (chI.aF Gf [z0,z1,z2,z3,.l (a.map .i),.l (b.map .i),u,v7,v8,.i (lo:Int),hi,v11,.i (i:Int),.l L] [k0,k1,k2]) Q:=by
 unfold chI
 rw[T.aF]
 refine ww (S:=Nat×ab) (fun s=>[.i (s.1:Int),.l s.2]) (fun s=>s.1<=i/\P9 n s.2) (fun s=>s.1) ?_ (i,L) rfl ⟨aX _,hL⟩ (by show i<_;omega)
 rintro⟨j,M⟩ rec ⟨h1,h2⟩ hr
 have wi:=zF (show i<4611686018427387904 by omega)
 simp only at h1
 by_cases bi:lo<j
 ·obtain⟨m,rfl⟩:∃m,j=m+1:=⟨j-1,by omega⟩;have wm:=aiu m (by omega);obtain⟨p,p1,p2⟩:=h2.2 (m+1) (by omega);obtain⟨q,q1,q2⟩:=h2.2 m (by omega);have ap:=FR (xs:=a) (p:=p) (by omega);have aq:=FR (xs:=a) (p:=q) (by omega);obtain⟨z,hz⟩:=hc (a.getD p 0) (a.getD q 0);have l2:=h2.1;simp only[wm,wi,p1,q1,ap,aq,hz,l2,E3,BO,aT,Nat.reduceAdd];repeat rw[aA (by omega)]
  split
  ·repeat rw[aA (by omega)]
   exact hr (m,(M.set (m+1) (.i (q:Int))).set m (.i (p:Int))) ⟨by show m<=i;omega,(h2.set _ q2).set _ p2⟩ (by show m<m+1;omega)
  ·exact hk M h2
 ·simp only[wi,aT];rw[aE (by omega)];exact hk M h2
theorem abF{Q:ab->Prop}{z0 z1 z2 z3 u v8 v9 v10 v11:Sc}{i:Sc}{L V:ab}(hQ:∀z:Int,Q [.i z])(hw:∃z:Int,Gf 355 [z0,z1,z2,z3,.l (a.map .i),.l (b.map .i)]=some [.i z])(hu:∀z:Int,∃y:Int,Gf 332 [u,.i z]=some [.i y])(hL:P9 n L)(hV:V.length=n)(K:List dK)(hK:K.length=3):bW (chE.aF Gf [z0,z1,z2,z3,.l (a.map .i),.l (b.map .i),u,.l V,v8,v9,v10,v11,i,.l L] K) Q:=by
 obtain⟨k0,k1,k2,rfl⟩:∃k0 k1 k2,K=[k0,k1,k2]:=by
  match K,hK with
  |[x,y,z],_=>exact⟨x,y,z,rfl⟩
 unfold chE
 rw[T.aF]
 refine ww (S:=Unit) (fun _=>[v9,v10,.i 20]) (fun _=>True) (fun _=>0) ?_ () rfl trivial (by decide)
 intro _ rec _ _
 obtain⟨z,hz⟩:=hw
 obtain⟨y,hy⟩:=hu z
 simp only[hV,aT]
 rw[aE (by omega)]
 simp only[hz,hy,aT,Nat.reduceAdd]
 unfold chP
 rw[T.aF]
 refine ww (S:=Nat×Int) (fun s=>[.i s.2,.i (s.1:Int)]) (fun s=>s.1<=n) (fun s=>n-s.1) ?_ (0,y) rfl (xA _) (by show n-0<_;omega)
 rintro⟨m,k⟩ tp hm hr
 simp only at hm
 have l2:=hL.1
 by_cases bi:m<n
 ·obtain⟨p,p1,p2⟩:=hL.2 m bi;have ap:=FR (xs:=a) (p:=p) (by omega);have bp:=FR (xs:=b) (p:=p) (by omega);have wi:=zF (show m<4611686018427387904 by omega);simp only[wi,p1,ap,bp,l2,Ab,aT];repeat rw[aA (by omega)]
  split
  ·repeat rw[aA (by omega)]
   exact bW.some (hQ _)
  ·repeat rw[aA (by omega)]
   exact hr (m+1,_) (by show m+1<=n;omega) (by show n-(m+1)<n-m;omega)
 ·have e:m=n:=by omega
  subst e;simp only[l2,aT];rw[aE (by omega)];exact bW.some (hQ _)
theorem abD{Q:ab->Prop}{z0 z1 z2 z3 u v7 v8:Sc}{lo hi:Nat}{L:ab}(hL:P9 n L)(hh:hi<=n)(Cq:lo<=20)(k0 k1:dK)(hk:∀L',P9 n L'->bW (k1 [.i (hi:Int),.i ((hi+20:Nat):Int),.l L']) Q):bW (chA.aF Gf [z0,z1,z2,z3,.l (a.map .i),.l (b.map .i),u,v7,v8,.i (lo:Int),.i (hi:Int),.l L] [k0,k1]) Q:=by
 unfold chA
 rw[T.aF]
 refine ww (S:=Nat×ab) (fun s=>[.i (s.1:Int),.l s.2]) (fun s=>P9 n s.2) (fun s=>n-s.1) ?_ (lo+1,L) (by have wl:=zF (show lo<4611686018427387904 by omega);simp only[wl,aT]) hL (by show n-(lo+1)<_;omega)
 rintro⟨i,M⟩ rec h hr
 simp only at h
 by_cases bi:i<hi
 ·simp only[aT];rw[aA (by omega)];exact Sx ha hb hn hc h (by omega) k0 k1 rec fun L' hL'=>hr (i+1,L') hL' (by show n-(i+1)<n-i;omega)
 ·have w20:IntKind.i64.wrap ((hi:Int)+20)=((hi+20:Nat):Int):=wrap64 (z:=((hi+20:Nat):Int)) (by simp only[DZ];omega) (by simp only[vk];omega);simp only[w20,aT];rw[aE (by omega)];exact hk M h
theorem abE{Q:ab->Prop}{z0 z1 z2 z3 u v8 v10:Sc}{lo:Nat}{L V:ab}(hQ:∀z:Int,Q [.i z])(hw:∃z:Int,Gf 355 [z0,z1,z2,z3,.l (a.map .i),.l (b.map .i)]=some [.i z])(hu:∀z:Int,∃y:Int,Gf 332 [u,.i z]=some [.i y])(hL:P9 n L)(hV:V.length=n)(Cq:lo<=20)(k0 k1:dK):bW (chB.aF Gf [z0,z1,z2,z3,.l (a.map .i),.l (b.map .i),u,.l V,v8,.i (lo:Int),v10,.l L] [k0,k1]) Q:=by
 unfold chB
 rw[T.aF]
 refine ww (S:=Nat×ab) (fun s=>[.i (s.1:Int),.l s.2]) (fun s=>P9 n s.2) (fun s=>n-s.1) ?_ (lo+1,L) (by have wl:=zF (show lo<4611686018427387904 by omega);simp only[wl,aT]) hL (by show n-(lo+1)<_;omega)
 rintro⟨i,M⟩ rec h hr
 simp only at h
 by_cases bi:i<n
 ·simp only[hV,aT];rw[aA (by omega)];exact Sx ha hb hn hc h (by omega) k0 k1 rec fun L' hL'=>hr (i+1,L') hL' (by show n-(i+1)<n-i;omega)
 ·simp only[hV,aT];rw[aE (by omega)];exact abF ha hb hn hc hQ hw hu h hV _ rfl
theorem abG{Q:ab->Prop}{z0 z1 z2 z3 u v8:Sc}{V:ab}(hQ:∀z:Int,Q [.i z])(hw:∃z:Int,Gf 355 [z0,z1,z2,z3,.l (a.map .i),.l (b.map .i)]=some [.i z])(hu:∀z:Int,∃y:Int,Gf 332 [u,.i z]=some [.i y])(hV:P9 n V)(k0:dK):bW (chL.aF Gf [z0,z1,z2,z3,.l (a.map .i),.l (b.map .i),u,.l V,v8] [k0]) Q:=by
 unfold chL
 rw[T.aF]
 have l2:=hV.1
 refine ww (S:=Nat×ab) (fun s=>[.i ((20*s.1:Nat):Int),.i ((20*s.1+20:Nat):Int),.l s.2]) (fun s=>s.1<=1/\P9 n s.2) (fun s=>1-s.1) ?_ (0,V) rfl ⟨xA _,hV⟩ (show 1-0<_ by decide)
 rintro⟨r,M⟩ rec ⟨h1,h⟩ hr
 simp only at h h1
 by_cases bi:20*r+20<=n
 ·have r0:r=0:=by omega
  subst r0;simp only[l2,aT];rw[aA (by omega)];exact abD ha hb hn hc h (lo:=20*0) (hi:=20*0+20) (by omega) (by omega) k0 rec fun L' hL'=>hr (1,L') ⟨aX 1,hL'⟩ (show 1-1<1-0 by decide)
 ·simp only[l2,aT];rw[aE (by omega)];exact abE ha hb hn hc hQ hw hu h l2 (by omega) k0 rec
theorem abH{Q:ab->Prop}{z0 z1 z2 z3 u:Sc}(hQ:∀z:Int,Q [.i z])(hw:∃z:Int,Gf 355 [z0,z1,z2,z3,.l (a.map .i),.l (b.map .i)]=some [.i z])(hu:∀z:Int,∃y:Int,Gf 332 [u,.i z]=some [.i y]):
 bW (sR.aF Gf [z0,z1,z2,z3,.l (a.map .i),.l (b.map .i),u] []) Q:=by
 rw[UK]
 unfold chT
 rw[T.aF,T.aF,T.aF]
 simp only[Ab,ha,aT]
 rw[aA (by omega)]
 refine ww (S:=Nat) (fun m=>[.l ((range m).map fun(i:Nat)=>Sc.i (i:Int)),.i (m:Int)]) (fun m=>m<=n) (fun m=>n-m) ?_ 0 rfl (xA _) (by show n-0<_;omega)
 intro m rec hm hr
 have wi:=zF (show m<4611686018427387904 by omega)
 by_cases bi:m<n
 ·have:=hr (m+1) (by omega) (by omega);rw[range_succ,BP,jQ,map_nil]at this;simp only[wi,Ab,fR,length_range,aT,Nat.reduceAdd];rw[aA (by omega),aA (by omega)];exact this
 ·have e:m=n:=by omega
  subst e;simp only[aT];rw[aE (by omega)];exact abG ha hb hn hc hQ hw hu (Vr _) rec
end
section
variable{pm:Pm}(hp:dG pm)(N:Nat)
include hp
theorem Vo{zs:Dk}(h:zs.length<=1000000):has am (II pm) (JJ pm N) (.ae 3) (.l (zs.map Sc.i)):=by refine bA (t:= .ae 3) ((cY hp (N:=N)).free 3 _ (by decide+kernel) (aj (by decide+kernel)) (by rw[Ab];exact bI h (by decide+kernel)) fun y hy=> ?_);obtain⟨z,_,rfl⟩:=pB.1 hy;unfold cA;rw[show am.tk 3= .vec .int by kernel_rfl];exact⟨z,rfl⟩
theorem Fr(h1:dQ am (II pm) (JJ pm N) Gf sN)(h2:dQ am (II pm) (JJ pm N) Gf zh)(h3:dQ am (II pm) (JJ pm N) Gf AE):dQ am (II pm) (JJ pm N) Gf iD:=by
 have aht:∀{key:Nat}{xs:ab}{us:List Ty},dQ am (II pm) (JJ pm N) Gf ⟨key,us,[],[.int],[]⟩->cR am (II pm) (JJ pm N) us xs->∃z:Int,Gf key xs=some [.i z]:=by
  intro key xs us hs hx;obtain⟨rs,e,hr,_⟩:=hs xs hx (nofun)
  match rs,hr with
  |[r],hr=>
   obtain⟨z,rfl⟩:=hr.1;exact⟨z,e⟩
 intro xs hx gk
 match xs,hx with
 |[x0,x1,x2,x3,x4,x5,x6],hx=>
  obtain⟨⟨z0,rfl⟩,⟨z1,rfl⟩,⟨z2,rfl⟩,⟨z3,rfl⟩,h4,h5,⟨z6,rfl⟩,_⟩:=hx;obtain⟨a,rfl⟩:=HY hp N h4;obtain⟨b,rfl⟩:=HY hp N h5;have p1:((a.map Sc.i).length:Int)=(b.map Sc.i).length:=vK.1 (gk (.t (.o .eq (.u .len (.v 4)) (.u .len (.v 5))) true) (by simp[iD]));have p2:((a.map Sc.i).length:Int)<=20:=fv (gk (.t (.o .le (.u .len (.v 4)) (.i 20)) true) (by simp[iD]));rw[Ab]at p1 p2;rw[Ab]at p1;obtain⟨r,hr,z,rfl⟩:=abH (a:=a) (b:=b) (n:=a.length) (z0:= .i z0) (z1:= .i z1) (z2:= .i z2) (z3:= .i z3) (u:= .i z6) rfl (by omega) (by omega) (fun x y=>aht h1 ⟨⟨x,rfl⟩,⟨y,rfl⟩,trivial⟩) (Q:=fun r=>∃z:Int,r=[.i z]) (fun z=>⟨z,rfl⟩)
   (aht h2 ⟨⟨z0,rfl⟩,⟨z1,rfl⟩,⟨z2,rfl⟩,⟨z3,rfl⟩,h4,Vo hp N (by omega),trivial⟩)
   (fun z=>aht h3 ⟨⟨z6,rfl⟩,⟨z,rfl⟩,trivial⟩)
  refine⟨[.i z],by rw[show iD.key=333 from rfl,JB];exact hr,⟨⟨z,rfl⟩,trivial⟩,nofun⟩
end
section
variable{pm:Pm}(hp:dG pm)(N:Nat)
include hp
theorem mG:dQ am (II pm) (JJ pm N) Gf du:=by
 intro xs hx gk;obtain⟨x,r,rfl,o,k⟩:=af hx;cases dI k
 have hT:=cY hp (N:=N);obtain⟨ys,rfl,h1,h2⟩:=hT.list 361 x (aj (by decide+kernel)) o;have hl:((rD (ys.map qV)).toList.map JH).length=ys.length:=by rw[Ab,cW,zU,Ab]
 refine⟨[.l ((rD (ys.map qV)).toList.map JH)],?_,⟨?_,trivial⟩,fun f hf=> ?_⟩
 ·show Gf 442000440 [.l ys]=_;rw[jY gF];show(if ys.length<4611686018427387904 then _ else none)=_;exact aA (Nat.lt_of_le_of_lt h1 (by decide+kernel))
 ·refine bA (t:= .ae 361) (hT.free 361 _ (by decide+kernel) (aj (by decide+kernel)) (by rw[hl];exact h1) fun y hy=> ?_);obtain⟨c,hc,rfl⟩:=pB.1 hy;unfold cA;rw[show am.tk 361= .row [.int,.int,.int,.int,.bool]by kernel_rfl];refine⟨⟨_,rfl,⟨_,rfl⟩,⟨_,rfl⟩,⟨_,rfl⟩,⟨_,rfl⟩,⟨_,rfl⟩,trivial⟩,fun q hq=> ?_⟩;have:(am.ma 361).isEmpty=true:=by decide+kernel
  rw[uO.1 this]at hq;cases hq
 ·simp only[du,bX,nV,AR]at hf;subst hf;show((rD (ys.map qV)).toList.map JH).length<=ys.length+0;rw[hl];exact aX _
end
abbrev Al(S:List Sp):Prop:=∀pm,dG pm->BI am (II pm) (J0 pm) S
def bJ{s:Sp}{S:List Sp}(h1:∀pm,dG pm->∀N,dQ am (II pm) (JJ pm N) Gf s)(h2:Al S):Al (s::S):=fun pm hp N x hx=>by
 rcases bX.1 hx with rfl|hx
 ·exact h1 pm hp N
 ·exact h2 pm hp N x hx
def bn{S:List Sp}{tab:List (Sp×List LH)}(h:Al S)(hk:mR am S tab=true):Al (tab.map (·.1)++S):=fun pm hp=>BI.step (fun N=>cY hp) (h pm hp) hk
def jZ{S:List Sp}{Nm:List (Nat×Sp×List LH)}(h:Al S)(hk:LS am S Nm=true):Al (Nm.map (·.2.1)++S):=fun pm hp=>BI.Nm (fun N=>cY hp) Ix ZF Gl (h pm hp) hk
def agd:Al []:=nofun
def arE:Al S0:=(bJ (fun pm hp N=>eB hp N (k:=115) (jY lY))
 (bJ (fun pm hp N=>eB hp N (k:=63) (jY fU))
 (bJ (fun pm hp N=>eB hp N (k:=76) (jY gZ))
 (bJ (fun pm hp N=>eB hp N (k:=35) (jY fE))
 (bJ (fun pm hp N=>eB hp N (k:=1025) (jY fW))
 (bJ (fun pm hp N=>eB hp N (k:=3) (jY fW))
 (bJ (fun pm hp N=>eB hp N (k:=187) (jY fD))
 (bJ (fun pm hp N=>eB hp N (k:=196) (jY g8))
 (bJ (fun pm hp N=>eB hp N (k:=203) (jY iE))
 (bJ (fun pm hp N=>eB hp N (k:=67) (jY gn))
 (bJ (fun pm hp N=>eB hp N (k:=208) (jY gm))
 (bJ (fun pm hp N=>eB hp N (k:=283) (jY g9))
 (bJ (fun pm hp N=>eB hp N (k:=213) (jY gY))
 (bJ (fun pm hp N=>Rh hp N (k:=88) (jY lm))
 (bJ (fun pm hp N=>eB hp N (k:=88) (jY lW))
 (bJ (fun pm hp N=>eB hp N (k:=173) (jY gX))
 (bJ (fun pm hp N=>eB hp N (k:=1027) (jY mU))
 (bJ (fun pm hp N=>Rh hp N (k:=1027) (jY lZ))
 (bJ (fun pm hp N=>eB hp N (k:=361) (jY lV))
 (bJ (fun pm hp N=>Rh hp N (k:=361) (jY ll))
 (bJ (fun pm hp N=>agz hp N (k:=361) (jY lj))
 (bJ (fun pm hp N=>eB hp N (k:=373) (jY lX))
 (bJ (fun pm hp N=>mG hp N)
 agd)))))))))))))))))))))))
def arF:Al S1:=jZ arE ava
def arG:Al S2:=jZ arF avb
def aj7:Al S3:=bn arG avc
def arH:Al S4:=(bJ (fun pm hp N=>HA hp N (aj7 pm hp N _ (d9 (i:=7) (by kernel_rfl)))) aj7)
def arI:Al S5:=bn arH avd
def arJ:Al S6:=(bJ (fun pm hp N=>rb hp N) arI)
def arK:Al S7:=jZ arJ ave
def arL:Al S8:=jZ arK avf
def arM:Al S9:=bn arL avg
def ajN:Al S10:=jZ arM avh
def ajO:Al S11:=bn ajN aoc
def ajP:Al S12:=jZ ajO aod
def ajQ:Al S13:=jZ ajP aoe
def ajR:Al S14:=bn ajQ aof
def ajS:Al S15:=jZ ajR aog
def ajT:Al S16:=bn ajS aoh
def ajU:Al S17:=jZ ajT aoi
def ajV:Al S18:=bn ajU aoj
def ajW:Al S19:=bn ajV aok
def ajX:Al S20:=jZ ajW aol
def ajY:Al S21:=bn ajX aom
def ajZ:Al S22:=bn ajY aon
def aj0:Al S23:=jZ ajZ aoo
def aj1:Al S24:=bn aj0 aop
def aj2:Al S25:=jZ aj1 aoq
def aj3:Al S26:=bn aj2 aor
def aj4:Al S27:=bn aj3 aos
def aj5:Al S28:=jZ aj4 aot
def aj6:Al S29:=bn aj5 aou
def aj8:Al S30:=jZ aj6 aov
def aj9:Al S31:=bn aj8 aow
def aka:Al S32:=jZ aj9 aox
def akb:Al S33:=bn aka aoy
def akc:Al S34:=bn akb aoz
def akd:Al HV:=jZ akc aoA
def ake:Al S36:=bn akd aoB
def akf:Al S37:=bn ake aoC
def akg:Al S38:=bn akf aoD
def akh:Al S39:=bn akg aoE
def Sk:Al S40:=bn akh aoF
def aki:Al S41:=(bJ (fun pm hp N=>Fr hp N (Sk pm hp N _ (d9 (i:=10) (by kernel_rfl))) (Sk pm hp N _ (d9 (i:=8) (by kernel_rfl))) (Sk pm hp N _ (d9 (i:=7) (by kernel_rfl)))) Sk)
def akj:Al S42:=(bJ (fun pm hp N=>Ft hp N) aki)
def akk:Al S43:=bn akj aoG
def akl:Al S44:=bn akk aoH
def akm:Al S45:=bn akl aoI
def akn:Al S46:=(bJ (fun pm hp N=>qX hp N) akm)
def ako:Al S47:=bn akn aoJ
def akp:Al S48:=bn ako aoK
def akq:Al S49:=bn akp aoL
def akr:Al S50:=bn akq aoM
def aks:Al S51:=bn akr aoN
def akt:Al S52:=(bJ (fun pm hp N=>vd hp N) aks)
def aku:Al S53:=bn akt aoO
def akv:Al S54:=bn aku aoP
def akw:Al S55:=(bJ (fun pm hp N=>DD hp N) akv)
def akx:Al S56:=bn akw aoQ
def aky:Al S57:=bn akx aoR
def akz:Al S58:=jZ aky aoS
def akA:Al S59:=bn akz aoT
def akB:Al S60:=bn akA aoU
def akC:Al S61:=bn akB aoV
def akD:Al S62:=(bJ (fun pm hp N=>qY hp N) (bJ (fun pm hp N=>qZ hp N) akC))
def Sl:Al S63:=bn akD aoW
def akE:Al S64:=(bJ (fun pm hp N=>xL hp N (Sl pm hp N _ (d9 (i:=46) (by kernel_rfl))) (Sl pm hp N _ (d9 (i:=246) (by kernel_rfl))) (Sl pm hp N _ (d9 (i:=25) (by kernel_rfl)))) Sl)
def akF:Al S65:=bn akE aoX
def akG:Al S66:=(bJ (fun pm hp N=>uq hp N) (bJ (fun pm hp N=>ur hp N) akF))
def akH:Al S67:=bn akG aoY
def adL:Al S68:=bn akH aoZ
def akI:Al S69:=(bJ (fun pm hp N=>yu hp N (fun pm hp=>adL pm hp N _ (d9 (i:=0) (by kernel_rfl)))) adL)
def adM:Al S70:=bn akI ao0
def akJ:Al S71:=(bJ (fun pm hp N=>Fu hp N (adM pm hp N _ (d9 (i:=0) (by kernel_rfl)))) adM)
def akK:Al S72:=bn akJ ao1
def Am:Al S73:=bn akK ao2
def adS(N:Nat):Cts N where
 nx:=(fun pm hp=>Am pm hp N _ (d9 (i:=68) (by kernel_rfl)))
 ck:=(fun pm hp=>Am pm hp N _ (d9 (i:=66) (by kernel_rfl)))
 cnt:=(fun pm hp=>Am pm hp N _ (d9 (i:=101) (by kernel_rfl)))
 pc:=(fun pm hp=>Am pm hp N _ (d9 (i:=64) (by kernel_rfl)))
 pc1:=(fun pm hp=>Am pm hp N _ (d9 (i:=83) (by kernel_rfl)))
 ms:=(fun pm hp=>Am pm hp N _ (d9 (i:=229) (by kernel_rfl)))
 ev:=(fun pm hp=>Am pm hp N _ (d9 (i:=126) (by kernel_rfl)))
 pi:=(fun pm hp=>Am pm hp N _ (d9 (i:=151) (by kernel_rfl)))
 pf:=(fun pm hp=>Am pm hp N _ (d9 (i:=0) (by kernel_rfl)))
def akL:Al S74:=(bJ (fun pm hp N=>JK (adS N) hp) Am)
def nd:Al S75:=bn akL ao3
section
variable{Γ:Nat->dK}{ρ:ab}{K:List dK}{Q:ab->Prop}
theorem uA{a b:Ex}{x y:Int}{p q:T bZ}(ha:a.ev ρ= .i x)(hb:b.ev ρ= .i y)(h1:x<y->bW (p.aF Γ ρ K) Q)(h2:¬x<y->bW (q.aF Γ ρ K) Q):bW ((T.ite (.o .lt a b) p q).aF Γ ρ K) Q:=by
 rw[T.aF];have e:((Ex.o .lt a b).ev ρ).bool=decide (x<y):=by show(U2.ev .lt (a.ev ρ) (b.ev ρ)).bool=_;rw[ha,hb];rfl
 rw[e];by_cases h:x<y
 ·rw[aA (by simp[h])];exact h1 h
 ·rw[aE (by simp[h])];exact h2 h
theorem GZ{f n:Nat}{es:bZ}{k:T bZ}{rs:ab}(h:Γ f (es.map (Ex.ev ρ))=some rs)(hn:rs.length=n)(hk:bW (k.aF Γ (ρ++rs) K) Q):bW ((T.call f es n k).aF Γ ρ K) Q:=by rw[T.aF,h];show bW (if rs.length=n then _ else _) Q;rw[aA hn];exact hk
theorem OZ{es:bZ}(h:Q (es.map (Ex.ev ρ))):bW ((T.ah es).aF Γ ρ K) Q:=by rw[T.aF];exact bW.some h
end
def wx:Ex:=(.u (.conv .i64) (.o (.shr .u64) (.u (.conv .u64) (.o (.add .i64) (.v 1) (.v 3))) (.i 1)))
def CE:Ex:=(.u (.conv .i64) (.o (.shr .u64) (.u (.conv .u64) (.o (.add .i64) (.v 4) (.v 5))) (.i 1)))
def Fq:Ex:=(.o (.sub .i64) (.o (.add .i64) wx (.v 2)) (.v 4))
def V0(k:Nat)(d:Ex):T bZ:= .ite (.o .lt wx Fq) (.ite (.o .lt Fq (.v 3)) (.call 43000146 [d,wx,Fq,.v 3] 1 (.ah [.v k])) (.ah [d])) (.ah [d])
def VZ(k:Nat)(d:Ex):T bZ:= .ite (.o .lt (.v 1) (.v 4)) (.ite (.o .lt (.v 4) wx) (.call 43000146 [d,.v 1,.v 4,wx] 1 (V0 (k+1) (.v k))) (V0 k d)) (V0 k d)
def V3:T bZ:= .ite (.o .lt (.v 4) (.v 2)) (.ite (.o .lt (.v 2) Fq) (.call 43000238 [.v 0,.v 4,.v 2,Fq] 1 (VZ 7 (.v 6))) (VZ 6 (.v 0))) (VZ 6 (.v 0))
def ZY(v:Nat)(j:Ex):Ex:= .o .cons (.u (.cell 0) (.o .idx (.v v) j)) (.o .cons (.u (.cell 1) (.o .idx (.v v) j)) (.o .cons (.u (.cell 2) (.o .idx (.v v) j)) (.o .cons (.u (.cell 3) (.o .idx (.v v) j)) (.o .cons (.u (.cell 4) (.o .idx (.v v) j)) (.o .cons (.u (.cell 5) (.o .idx (.v v) j)) (.o .cons (.u (.cell 6) (.o .idx (.v v) j)) (.o .cons (.u (.cell 7) (.o .idx (.v v) j)) (.o .cons (.u (.cell 8) (.o .idx (.v v) j)) (.o .cons (.u (.cell 9) (.o .idx (.v v) j)) .nil)))))))))
def RN(x y:Ex)(g:Ex->Ex)(rest:T bZ):T bZ:=
 (.ite (.o .lt (.v 4) (.v 5))
 (.aa (.o .le (.i 0) x) (.aa (.o .lt x (.u .len (.v 0))) (.aa (.o .le (.i 0) y) (.aa (.o .lt y (.u .len (.v 0))) (.call 44 [(.u (.cell 0) (.o .idx (.v 0) x)),(.u (.cell 0) (.o .idx (.v 0) y))] 1
 (.call 44 [(.u (.cell 4) (.o .idx (.v 0) x)),(.u (.cell 4) (.o .idx (.v 0) y))] 1
 (.call 43 [(.o .cons (.v 6) (.o .cons (.v 7) .nil))] 1
 (.ite (g (.o .lt (.v 8) (.i 0)))
 (.next 0 [(.o (.add .i64) CE (.i 1)),(.v 5)])
 (.next 0 [(.v 4),CE]))))))))) rest)
def smS(c j2:Ex):T bZ:=
 (.loop [(.v 1),(.v 0)]
 (.ite c
 (.aa (.o .le (.i 0) j2) (.aa (.o .lt j2 (.u .len (.v 7))) (.aa (.o .le (.i 0) (.v 6)) (.aa (.o .lt (.v 6) (.u .len (.v 7))) (.aa (.o .le (.i 0) (.v 6)) (.aa (.o .lt (.v 6) (.u .len (.v 7))) (.aa (.o .le (.i 0) j2) (.aa (.o .lt j2 (.u .len (.t .mu (.v 7) (.v 6) (ZY 7 j2))))
 (.next 1 [j2,(.t .mu (.t .mu (.v 7) (.v 6) (ZY 7 j2)) j2 (ZY 7 (.v 6)))])))))))))
 (.ah [(.v 7)])))
def pX:Ex:=(.o (.sub .i64) (.o (.sub .i64) (.o (.add .i64) wx (.v 2)) (.i 1)) CE)
theorem PK:bx=(.ite (.o .eq (.o (.sub .i64) (.v 2) (.v 1)) (.i 1))
 (.loop [(.v 2),(.v 3)] (RN CE (.v 1) id (smS (.o .lt (.v 6) (.o (.sub .i64) (.v 4) (.i 1))) (.o (.add .i64) (.v 6) (.i 1)))))
 (.ite (.o .eq (.o (.sub .i64) (.v 3) (.v 2)) (.i 1))
 (.loop [(.v 1),(.v 2)] (RN (.v 2) CE (.u .not) (match smS (.o .lt (.v 4) (.v 6)) (.o (.sub .i64) (.v 6) (.i 1))with| .loop _ b=> .loop [(.v 2),(.v 0)] b|t=>t)))
 (.ite (.o .lt wx (.v 2))
 (.loop [(.o (.sub .i64) (.o (.add .i64) wx (.v 2)) (.v 3)),wx] (RN pX CE (.u .not) V3))
 (.loop [(.v 1),(.v 2)] (RN pX CE (.u .not) V3))))):=rfl
theorem CF{x0 x1 x2 x3:Sc}{i j:Nat}(hi:i<=100000000000)(hj:j<=100000000000)(l:ab):CE.ev (x0::x1::x2::x3:: .i (i:Int):: .i (j:Int)::l)= .i (((i+j)/2:Nat):Int):=by
 have:=D5 (ρ:=x0::x1::x2::x3:: .i (i:Int):: .i (j:Int)::l) (a:= .v 4) (b:= .v 5) (by show(0:Int)<=(i:Int);omega) (by show(0:Int)<=(j:Int);omega) (by show(i:Int)+(j:Int)<vk;unfold vk;omega);have e:((i:Int)+(j:Int))/2=(((i+j)/2:Nat):Int):=by omega
 have h2:CE.ev (x0::x1::x2::x3:: .i (i:Int):: .i (j:Int)::l)= .i (CE.ev (x0::x1::x2::x3:: .i (i:Int):: .i (j:Int)::l)).int:=rfl;rw[h2];congr 1
theorem MJ{x0 x2:Sc}{i j:Nat}(hi:i<=100000000000)(hj:j<=100000000000)(l:ab):wx.ev (x0:: .i (i:Int)::x2:: .i (j:Int)::l)= .i (((i+j)/2:Nat):Int):=by
 have:=D5 (ρ:=x0:: .i (i:Int)::x2:: .i (j:Int)::l) (a:= .v 1) (b:= .v 3) (by show(0:Int)<=(i:Int);omega) (by show(0:Int)<=(j:Int);omega) (by show(i:Int)+(j:Int)<vk;unfold vk;omega);have e:((i:Int)+(j:Int))/2=(((i+j)/2:Nat):Int):=by omega
 have h2:wx.ev (x0:: .i (i:Int)::x2:: .i (j:Int)::l)= .i (wx.ev (x0:: .i (i:Int)::x2:: .i (j:Int)::l)).int:=rfl;rw[h2];congr 1
section
variable{Γ:Nat->dK}(hc:∀x y:Int,Γ 44 [.i x,.i y]=some [.i (cI x y)])(ho:∀u v:Int,Γ 43 [.l [.i u,.i v]]=some [.i (oI u v)])
variable{xs:ab}(hE:uM xs)(hl:xs.length<=100000000000)
include hc ho hE hl
theorem aih{Q:ab->Prop}{z1 z2 z3:Sc}{i j p q:Nat}{k:dK}{x y:Ex}{rest:T bZ}(Ov:i<j)(hj:j<=100000000000)(hx:∀l,x.ev (.l xs::z1::z2::z3:: .i (i:Int):: .i (j:Int)::l)= .i (p:Int))(hy:∀l,y.ev (.l xs::z1::z2::z3:: .i (i:Int):: .i (j:Int)::l)= .i (q:Int))(hp:p<xs.length)(hq:q<xs.length)(h1:dM (xs.getD q (.i 0)) (xs.getD p (.i 0))=false->bW (k [.i (((i+j)/2+1:Nat):Int),.i (j:Int)]) Q)(h2:dM (xs.getD q (.i 0)) (xs.getD p (.i 0))=true->bW (k [.i (i:Int),.i (((i+j)/2:Nat):Int)]) Q):
 bW ((RN x y id rest).aF Γ [.l xs,z1,z2,z3,.i (i:Int),.i (j:Int)] [k]) Q:=by
 have hm:=fun l=>CF (x0:= .l xs) (x1:=z1) (x2:=z2) (x3:=z3) (i:=i) (j:=j) (by omega) hj l
 have w:IntKind.i64.wrap ((((i+j)/2:Nat):Int)+1)=(((i+j)/2+1:Nat):Int):=by rw[iO]<;>omega
 unfold RN id
 have t1:=(hE.at hp).tm
 have t2:=(hE.at hq).tm
 have s1:=(hE.at hp).st
 have s2:=(hE.at hq).st
 simp only[hx,hy,hm,w,t1,t2,s1,s2,hc,ho,aT,Nat.reduceAdd]
 repeat rw[aA (by omega)]
 by_cases h:oI (cI (Nc (xs.getD p (.i 0))) (Nc (xs.getD q (.i 0)))) (cI (RP (xs.getD p (.i 0))) (RP (xs.getD q (.i 0))))<0
 ·rw[aA h];exact h1 (yH.1 h)
 ·rw[aE h];refine h2 ?_;rw[yH]at h;cases e:dM (xs.getD q (.i 0)) (xs.getD p (.i 0))with
  |true=>rfl|false=>exact absurd e h
theorem Ui{Q:ab->Prop}{z1 z2 z3:Sc}{i j p q:Nat}{k:dK}{x y:Ex}{rest:T bZ}(Ov:i<j)(hj:j<=100000000000)(hx:∀l,x.ev (.l xs::z1::z2::z3:: .i (i:Int):: .i (j:Int)::l)= .i (p:Int))(hy:∀l,y.ev (.l xs::z1::z2::z3:: .i (i:Int):: .i (j:Int)::l)= .i (q:Int))(hp:p<xs.length)(hq:q<xs.length)(h1:dM (xs.getD q (.i 0)) (xs.getD p (.i 0))=true->bW (k [.i (((i+j)/2+1:Nat):Int),.i (j:Int)]) Q)(h2:dM (xs.getD q (.i 0)) (xs.getD p (.i 0))=false->bW (k [.i (i:Int),.i (((i+j)/2:Nat):Int)]) Q):
 bW ((RN x y (.u .not) rest).aF Γ [.l xs,z1,z2,z3,.i (i:Int),.i (j:Int)] [k]) Q:=by
 have hm:=fun l=>CF (x0:= .l xs) (x1:=z1) (x2:=z2) (x3:=z3) (i:=i) (j:=j) (by omega) hj l
 have w:IntKind.i64.wrap ((((i+j)/2:Nat):Int)+1)=(((i+j)/2+1:Nat):Int):=by rw[iO]<;>omega
 unfold RN
 have t1:=(hE.at hp).tm
 have t2:=(hE.at hq).tm
 have s1:=(hE.at hp).st
 have s2:=(hE.at hq).st
 simp only[hx,hy,hm,w,t1,t2,s1,s2,hc,ho,aT,Nat.reduceAdd]
 repeat rw[aA (by omega)]
 have XZ:=yH (x:=xs.getD p (.i 0)) (y:=xs.getD q (.i 0))
 generalize oI (cI (Nc (xs.getD p (.i 0))) (Nc (xs.getD q (.i 0)))) (cI (RP (xs.getD p (.i 0))) (RP (xs.getD q (.i 0))))=g at XZ⊢
 by_cases h:g<0
 ·first|rw[aE (by simp[h])]|simp only[h,qO]
  exact h2 (XZ.1 h)
 ·have hh:dM (xs.getD q (.i 0)) (xs.getD p (.i 0))=true:=by
   cases e:dM (xs.getD q (.i 0)) (xs.getD p (.i 0))with
   |true=>rfl|false=>exact absurd (XZ.2 e) h
  first|rw[aA (by simp[h])]|simp only[h,na]
  exact h1 hh
end
theorem RF{ys:ab}{a b:Nat}(h1:a<=b)(h2:b<=ys.length)(h:od dM (dA ys a b)):sY dM ys ys a b:=⟨dA ys a b,fa h2 h1,(Gk h1).symm,lI.rfl,h⟩
theorem sY.lK{xs ys:ab}{a b:Nat}(h:sY dM xs ys a b)(h1:a<=b)(hE:uM xs):uM ys:=fun y hy=>hE y (h.mem ij h1 hy)
def SM(Γ:Nat->dK)(n:Nat):Prop:=∀(xs:ab)(a m b:Nat),uM xs->xs.length<=100000000000->a<m->m<b->b<=xs.length->b-a<=n->od dM (dA xs a m)->od dM (dA xs m b)->∃ys,Γ 43000146 [.l xs,.i (a:Int),.i (m:Int),.i (b:Int)]=some [.l ys]/\sY dM xs ys a b
section
variable{Γ:Nat->dK}{n:Nat}(ih:SM Γ n)
include ih
variable{x0 x2 x4 x5:Sc}{a b mid e:Nat}
theorem PC{ρ:ab}{K:List dK}{Q:ab->Prop}{k:Nat}{d:Ex}{ys:ab}(hm:wx.ev ρ= .i (mid:Int))(he:Fq.ev ρ= .i (e:Int))(h3:(Ex.v 3).ev ρ= .i (b:Int))(hd:d.ev ρ= .l ys)(hk:ρ.length=k)(hE:uM ys)(hl:ys.length<=100000000000)(g1:mid<=e)(g2:e<=b)(g3:b<=ys.length)(hn:b-mid<=n)(i1:od dM (dA ys mid e))(i2:od dM (dA ys e b))(hQ:∀zs,sY dM ys zs mid b->Q [.l zs]):bW ((V0 k d).aF Γ ρ K) Q:=by
 have same:(mid=e\/e=b)->bW ((T.ah [d]).aF Γ ρ K) Q:=by
  intro h;refine OZ ?_;show Q [d.ev ρ];rw[hd];refine hQ ys (RF (by omega) g3 ?_);rcases h with rfl|rfl
  ·exact i2
  ·exact i1
 unfold V0
 refine uA hm he (fun h1=> ?_) (fun h1=>same (by omega))
 refine uA he h3 (fun h2=> ?_) (fun h2=>same (by omega))
 obtain⟨zs,hz,hr⟩:=ih ys mid e b hE hl (by omega) (by omega) g3 hn i1 i2
 refine GZ (rs:=[.l zs]) ?_ rfl (OZ ?_)
 ·show Γ 43000146 [d.ev ρ,wx.ev ρ,Fq.ev ρ,(Ex.v 3).ev ρ]=_;rw[hd,hm,he,h3];exact hz
 ·show Q [(ρ++[Sc.l zs]).getD k (.i 0)];rw[cE,lR (by omega),hk,Ad];exact hQ zs hr
theorem PB{ρ:ab}{K:List dK}{Q:ab->Prop}{k s:Nat}{d:Ex}{ys:ab}(hm:∀l,wx.ev (ρ++l)= .i (mid:Int))(he:∀l,Fq.ev (ρ++l)= .i (e:Int))(h3:∀l,(Ex.v 3).ev (ρ++l)= .i (b:Int))(h1:(Ex.v 1).ev ρ= .i (a:Int))(h4:(Ex.v 4).ev ρ= .i (s:Int))(hd:d.ev ρ= .l ys)(hk:ρ.length=k)(hE:uM ys)(hl:ys.length<=100000000000)(f1:a<=s)(f2:s<=mid)(g1:mid<=e)(g2:e<=b)(g3:b<=ys.length)(hn:b-mid<=n)(P7:mid-a<=n)(j1:od dM (dA ys a s))(j2:od dM (dA ys s mid))(i1:od dM (dA ys mid e))(i2:od dM (dA ys e b))(hQ:∀y1 zs,sY dM ys y1 a mid->sY dM y1 zs mid b->Q [.l zs]):bW ((VZ k d).aF Γ ρ K) Q:=by
 have Q4:wx.ev ρ= .i (mid:Int):=by simpa using hm []
 have he0:Fq.ev ρ= .i (e:Int):=by simpa using he []
 have h30:(Ex.v 3).ev ρ= .i (b:Int):=by simpa using h3 []
 have same:(a=s\/s=mid)->bW ((V0 k d).aF Γ ρ K) Q:=by
  intro h;refine PC ih Q4 he0 h30 hd hk hE hl g1 g2 g3 hn i1 i2 fun zs hz=>hQ ys zs (RF (by omega) (by omega) ?_) hz;rcases h with rfl|rfl
  ·exact j2
  ·exact j1
 unfold VZ
 refine uA h1 h4 (fun c1=> ?_) (fun c1=>same (by omega))
 refine uA h4 Q4 (fun c2=> ?_) (fun c2=>same (by omega))
 obtain⟨y1,hz,hr⟩:=ih ys a s mid hE hl (by omega) (by omega) (by omega) P7 j1 j2
 refine GZ (rs:=[.l y1]) ?_ rfl ?_
 ·show Γ 43000146 [d.ev ρ,(Ex.v 1).ev ρ,(Ex.v 4).ev ρ,wx.ev ρ]=_;rw[hd,h1,h4,Q4];exact hz
 ·have hlen:=hr.len (by omega) (by omega);obtain⟨W,w1,w2,w3,w4⟩:=id hr;refine PC ih (hm _) (he _) (h3 _) (d:= .v k) (ys:=y1) ?_ (by rw[fR,hk];rfl) (hr.lK (by omega) hE) (by omega) g1 g2 (by omega) hn ?_ ?_ fun zs hz=>hQ y1 zs hr hz
  ·show(ρ++[Sc.l y1]).getD k (.i 0)=_;rw[cE,lR (by omega),hk,Ad];rfl
  ·rw[w2,Bu (aX _) (by omega) (by omega) w1];exact i1
  ·rw[w2,Bu (by omega) (by omega) (by omega) w1];exact i2
end
section
variable{Γ:Nat->dK}(hΓ:∀l,Γ 43000309 l=if l.length=4 then aw.aF Γ l []else none)(hR:∀l,Γ 43000238 l=if l.length=4 then aI.aF Γ l []else none){n:Nat}(ih:SM Γ n)
include hΓ hR ih
theorem aae{K:List dK}{xs:ab}{x5:Sc}{a m b s mid e:Nat}(hE:uM xs)(hl:xs.length<=100000000000)(acj:mid=(a+b)/2)(he:e=mid+m-s)(ham:a<m)(OI:m<b)(hb:b<=xs.length)(has:a<=s)(X7:s<=m)(hme:m<=e)(heb:e<=b)(hn:b-mid<=n)(P7:mid-a<=n)(iU:od dM (dA xs a m))(iV:od dM (dA xs m b))(c1:s<m->m<e->dM (xs.getD s (.i 0)) (xs.getD (e-1) (.i 0))=false)(c2:a<s->e<b->dM (xs.getD (s-1) (.i 0)) (xs.getD e (.i 0))=true):
 bW (V3.aF Γ [.l xs,.i (a:Int),.i (m:Int),.i (b:Int),.i (s:Int),x5] K) fun r=>∃ys,r=[.l ys]/\sY dM xs ys a b:=by
 have hm:=fun l=>MJ (x0:= .l xs) (x2:= .i (m:Int)) (i:=a) (j:=b) (by omega) (by omega) l
 rw[<-acj]at hm
 have mf:∀l,Fq.ev (.l xs:: .i (a:Int):: .i (m:Int):: .i (b:Int):: .i (s:Int)::l)= .i (e:Int):=by
  intro l;have w1:IntKind.i64.wrap ((mid:Int)+m)=((mid+m:Nat):Int):=by rw[iO]<;>omega
  have w2:IntKind.i64.wrap (((mid+m:Nat):Int)-s)=(e:Int):=by rw[iO]<;>omega
  unfold Fq;simp only[hm,w1,w2,aT]
 have e2:s+(e-m)=mid:=by omega
 have lT:=IB (xs:=xs) X7 hme (by omega)
 have lV1:=fa (xs:=xs) (a:=m) (b:=e) (by omega) hme
 have lU2:=fa (xs:=xs) (a:=s) (b:=m) (by omega) X7
 have Vd:=zX (xs:=xs) X7 hme (by omega)
 have q1:od dM (dA (nR xs s m e) a s):=by unfold nR;rw[RJ (s:=s) (e:=e) (aX _) (by omega) (by omega) lT];rw[gM has X7]at iU;exact(nU.1 iU).1
 have q2:od dM (dA (nR xs s m e) s mid):=by unfold nR;rw[Gr (s:=s) (e:=e) (aX _) (by omega) (by omega) (by omega) (by omega) lT,Ad,Ud (by rw[lV1];omega)];rw[gM hme heb]at iV;exact(nU.1 iV).1
 have q3:od dM (dA (nR xs s m e) mid e):=by unfold nR;rw[Gr (s:=s) (e:=e) (by omega) (by omega) (aX _) (by omega) (by omega) lT,Ue (by rw[lV1];omega) (by rw[lU2];omega)];rw[gM has X7]at iU;exact(nU.1 iU).2.1
 have q4:od dM (dA (nR xs s m e) e b):=by unfold nR;rw[Bu (s:=s) (e:=e) (aX _) (by omega) (by omega) lT];rw[gM hme heb]at iV;exact(nU.1 iV).2.1
 have fin:∀y1 zs,sY dM (nR xs s m e) y1 a mid->sY dM y1 zs mid b->sY dM xs zs a b:=fun y1 zs r1 r2=>
  sY.merge ij (.i 0) has X7 hme heb hb e2.symm iU iV c1 c2 r1 r2
 have same:(s=m\/m=e)->bW ((VZ 6 (.v 0)).aF Γ [.l xs,.i (a:Int),.i (m:Int),.i (b:Int),.i (s:Int),x5] K) fun r=>∃ys,r=[.l ys]/\sY dM xs ys a b:=by
  intro h;have er:nR xs s m e=xs:=by
   rcases h with rfl|rfl
   ·exact(C0 (by omega) (by omega)).1
   ·exact(C0 (by omega) (by omega)).2
  rw[er]at q1 q2 q3 q4 fin;exact PB ih (mid:=mid) (e:=e) (a:=a) (b:=b) (s:=s) (ys:=xs) (fun l=>hm _) (fun l=>mf _) (fun l=>rfl) rfl rfl rfl rfl hE hl has (by omega) (by omega) heb hb hn P7 q1 q2 q3 q4 fun y1 zs r1 r2=>⟨zs,rfl,fin y1 zs r1 r2⟩
 unfold V3
 refine uA (x:=(s:Int)) (y:=(m:Int)) rfl rfl (fun c1=> ?_) (fun c1=>same (by omega))
 refine uA (x:=(m:Int)) (y:=(e:Int)) rfl (mf _) (fun c2=> ?_) (fun c2=>same (by omega))
 refine GZ (rs:=[.l (nR xs s m e)]) ?_ rfl ?_
 ·show Γ 43000238 [.l xs,.i (s:Int),.i (m:Int),Fq.ev _]=_;rw[mf,hR];exact(aA rfl).trans (Rz hΓ hE hl (by omega) (by omega) (by omega))
 ·exact PB ih (mid:=mid) (e:=e) (a:=a) (b:=b) (s:=s) (ys:=nR xs s m e) (fun l=>hm _) (fun l=>mf _) (fun l=>rfl) rfl rfl rfl rfl (Gn hE) (by omega) has (by omega) (by omega) heb (by omega) hn P7 q1 q2 q3 q4 fun y1 zs r1 r2=>⟨zs,rfl,fin y1 zs r1 r2⟩
end
section
variable{Γ:Nat->dK}(hc:∀x y:Int,Γ 44 [.i x,.i y]=some [.i (cI x y)])(ho:∀u v:Int,Γ 43 [.l [.i u,.i v]]=some [.i (oI u v)])(hΓ:∀l,Γ 43000309 l=if l.length=4 then aw.aF Γ l []else none)(hR:∀l,Γ 43000238 l=if l.length=4 then aI.aF Γ l []else none)
variable{xs:ab}{a m b:Nat}(hE:uM xs)(hl:xs.length<=100000000000)(ham:a<m)(OI:m<b)(hb:b<=xs.length)(iU:od dM (dA xs a m))(iV:od dM (dA xs m b))
include hE hl ham OI hb
omit ham in
theorem air(hm:m=a+1)(iV:od dM (dA xs m b)){i:Nat}(h1:m<=i)(h2:i<=b)(c1:m<i->dM (xs.getD a (.i 0)) (xs.getD (i-1) (.i 0))=false)(c2:i<b->dM (xs.getD a (.i 0)) (xs.getD i (.i 0))=true){x5:Sc}{k0:dK}:
 bW ((smS (.o .lt (.v 6) (.o (.sub .i64) (.v 4) (.i 1))) (.o (.add .i64) (.v 6) (.i 1))).aF Γ [.l xs,.i (a:Int),.i (m:Int),.i (b:Int),.i (i:Int),x5] [k0]) fun r=>∃ys,r=[.l ys]/\sY dM xs ys a b:=by
 subst hm
 have w0:IntKind.i64.wrap ((i:Int)-1)=((i-1:Nat):Int):=by rw[iO]<;>omega
 unfold smS
 rw[T.aF]
 refine xk (S:=Nat) (fun k=>[.i (k:Int),.l (nR xs a (a+1) (k+1))]) (fun k=>a<=k/\k<=i-1) (fun k=>i-k) ?_ a ?_ ⟨aX _,by omega⟩ (by omega)
 ·rintro k rec ⟨q1,q2⟩ hr;have hlk:=zX (xs:=xs) (a:=a) (m:=a+1) (b:=k+1) (by omega) (by omega) (by omega);have hEk:uM (nR xs a (a+1) (k+1)):=Gn hE;have w1:IntKind.i64.wrap ((k:Int)+1)=((k+1:Nat):Int):=by rw[iO]<;>omega
  by_cases hk:k<i-1
  ·have r1:=(hEk.at (i:=k) (by omega)).row;have r2:=(hEk.at (i:=k+1) (by omega)).row;unfold ZY;simp only[w0,w1,r1,r2,E3,BO,hlk,aT];repeat rw[aA (by omega)]
   have:=hr (k+1) ⟨by omega,by omega⟩ (by omega);rw[<-ah6 q1 (by omega)]at this;exact this
  ·have e:k+1=i:=by omega
   simp only[w0,aT];rw[aE (by omega)];refine bW.some ⟨_,rfl,?_⟩;rw[e];exact sY.up h1 h2 hb iV c1 c2
 ·rw[(C0 (xs:=xs) (a:=a) (b:=a+1) (by omega) (by omega)).2];rfl
omit hb in
theorem Xm(hm:b=m+1)(hb:b<=xs.length)(iU:od dM (dA xs a m)){i:Nat}(h1:a<=i)(h2:i<=m)(c1:i<m->dM (xs.getD i (.i 0)) (xs.getD m (.i 0))=false)(c2:a<i->dM (xs.getD (i-1) (.i 0)) (xs.getD m (.i 0))=true){x5:Sc}{k0:dK}:
 bW ((match smS (.o .lt (.v 4) (.v 6)) (.o (.sub .i64) (.v 6) (.i 1))with| .loop _ b=>T.loop [(.v 2),(.v 0)] b|t=>t).aF Γ [.l xs,.i (a:Int),.i (m:Int),.i (b:Int),.i (i:Int),x5] [k0]) fun r=>∃ys,r=[.l ys]/\sY dM xs ys a b:=by
 subst hm
 unfold smS
 show bW (T.aF Γ (T.loop _ _) _ _) _
 rw[T.aF]
 refine xk (S:=Nat) (fun k=>[.i (k:Int),.l (nR xs k m (m+1))]) (fun k=>i<=k/\k<=m) (fun k=>k) ?_ m ?_ ⟨h2,aX _⟩ (by omega)
 ·rintro k rec ⟨q1,q2⟩ hr;have hlk:=zX (xs:=xs) (a:=k) (m:=m) (b:=m+1) (by omega) (by omega) (by omega);have hEk:uM (nR xs k m (m+1)):=Gn hE;by_cases hk:i<k
  ·have w1:IntKind.i64.wrap ((k:Int)-1)=((k-1:Nat):Int):=by rw[iO]<;>omega
   have r1:=(hEk.at (i:=k) (by omega)).row;have r2:=(hEk.at (i:=k-1) (by omega)).row;unfold ZY;simp only[w1,r1,r2,E3,BO,hlk,aT];repeat rw[aA (by omega)]
   have:=hr (k-1) ⟨by omega,by omega⟩ (by omega);rw[<-ZR (by omega) q2 (by omega)]at this;exact this
  ·have e:k=i:=by omega
   subst e;simp only[aT];rw[aE (by omega)];exact bW.some ⟨_,rfl,sY.down h1 h2 (by omega) iU c1 c2⟩
 ·rw[(C0 (xs:=xs) (a:=m) (b:=m+1) (by omega) (by omega)).1];rfl
include hc ho hΓ hR iU iV
theorem IM{n:Nat}(ih:SM Γ n){lo hi mid:Nat}(acj:mid=(a+b)/2)(hn:b-mid<=n)(P7:mid-a<=n)(hh:(mid<m/\lo=mid+m-b/\hi=mid)\/(m<=mid/\lo=a/\hi=m)):
 bW (cH (fun rec v=>(RN pX CE (.u .not) V3).aF Γ ([.l xs,.i (a:Int),.i (m:Int),.i (b:Int)]++v) ([]++[rec])) fg [.i (lo:Int),.i (hi:Int)]) fun r=>∃ys,r=[.l ys]/\sY dM xs ys a b:=by
 refine xk (S:=Nat×Nat) (fun s=>[.i (s.1:Int),.i (s.2:Int)]) (fun s=>lo<=s.1/\s.1<=s.2/\s.2<=hi/\(lo<s.1->dM (xs.getD (s.1-1) (.i 0)) (xs.getD (mid+m-1-(s.1-1)) (.i 0))=true)/\(s.2<hi->dM (xs.getD s.2 (.i 0)) (xs.getD (mid+m-1-s.2) (.i 0))=false)) (fun s=>s.2-s.1) ?_ (lo,hi) rfl ⟨aX _,by omega,aX _,fun h=>by omega,fun h=>by omega⟩ (by show hi-lo<_;omega)
 rintro⟨s,r⟩ rec ⟨q1,q2,q3,q4,q5⟩ hr
 simp only at q1 q2 q3 q4 q5
 show bW ((RN pX CE (.u .not) V3).aF Γ [.l xs,.i (a:Int),.i (m:Int),.i (b:Int),.i (s:Int),.i (r:Int)] [rec]) _
 by_cases hsr:s<r
 ·have hm:=fun l=>MJ (x0:= .l xs) (x2:= .i (m:Int)) (i:=a) (j:=b) (by omega) (by omega) l;rw[<-acj]at hm;have hy:=fun l=>CF (x0:= .l xs) (x1:= .i (a:Int)) (x2:= .i (m:Int)) (x3:= .i (b:Int)) (i:=s) (j:=r) (by omega) (by omega) l;refine Ui hc ho hE hl (p:=mid+m-1-(s+r)/2) (q:=(s+r)/2) hsr (by omega) (fun l=> ?_) hy (by omega) (by omega) (fun hle=> ?_) (fun hle=> ?_)
  ·have w1:IntKind.i64.wrap ((mid:Int)+m)=((mid+m:Nat):Int):=by rw[iO]<;>omega
   have w2:IntKind.i64.wrap (((mid+m:Nat):Int)-1)=((mid+m-1:Nat):Int):=by rw[iO]<;>omega
   have w3:IntKind.i64.wrap (((mid+m-1:Nat):Int)-(((s+r)/2:Nat):Int))=((mid+m-1-(s+r)/2:Nat):Int):=by rw[iO]<;>omega
   unfold pX;simp only[hm,hy,w1,w2,w3,aT]
  ·exact hr ((s+r)/2+1,r) ⟨by show lo<=(s+r)/2+1;omega,by show(s+r)/2+1<=r;omega,q3,fun _=>by show dM (xs.getD ((s+r)/2+1-1) (.i 0)) (xs.getD (mid+m-1-((s+r)/2+1-1)) (.i 0))=true;rw[Nat.add_sub_cancel];exact hle,q5⟩ (by show r-((s+r)/2+1)<r-s;omega)
  ·exact hr (s,(s+r)/2) ⟨q1,by show s<=(s+r)/2;omega,by show(s+r)/2<=hi;omega,q4,fun _=>hle⟩ (by show(s+r)/2-s<r-s;omega)
 ·have e:r=s:=by omega
  subst e;unfold RN;refine uA (x:=(r:Int)) (y:=(r:Int)) rfl rfl (fun h=>absurd h (by omega)) (fun _=> ?_);refine aae hΓ hR ih hE hl acj (e:=mid+m-r) rfl ham OI hb (by omega) (by omega) (by omega) (by omega) hn P7 iU iV (fun g1 g2=> ?_) (fun g1 g2=> ?_)
  ·have:=q5 (by omega);rw[show mid+m-r-1=mid+m-1-r by omega];exact this
  ·have:=q4 (by omega);rw[show mid+m-r=mid+m-1-(r-1)by omega];exact this
end
section
variable{Γ:Nat->dK}(hc:∀x y:Int,Γ 44 [.i x,.i y]=some [.i (cI x y)])(ho:∀u v:Int,Γ 43 [.l [.i u,.i v]]=some [.i (oI u v)])(hΓ:∀l,Γ 43000309 l=if l.length=4 then aw.aF Γ l []else none)(hR:∀l,Γ 43000238 l=if l.length=4 then aI.aF Γ l []else none)
 (hS:∀l,Γ 43000146 l=if l.length=4 then bx.aF Γ l []else none)
include hc ho hΓ hR hS
theorem R2:∀n,SM Γ n:=by
 intro n;induction n with
 |zero=>intro xs a m b _ _ h1 h2 _ h3;omega|succ n ih=>
  intro xs a m b hE hl ham OI hb hn iU iV;suffices h:bW (Γ 43000146 [.l xs,.i (a:Int),.i (m:Int),.i (b:Int)]) fun r=>∃ys,r=[.l ys]/\sY dM xs ys a b by obtain⟨r,h1,ys,rfl,h2⟩:=h;exact⟨ys,h1,h2⟩
  rw[hS];show bW (bx.aF Γ [.l xs,.i (a:Int),.i (m:Int),.i (b:Int)] []) _;rw[PK];have w1:IntKind.i64.wrap ((m:Int)-a)=((m-a:Nat):Int):=by rw[iO]<;>omega
  have w2:IntKind.i64.wrap ((b:Int)-m)=((b-m:Nat):Int):=by rw[iO]<;>omega
  rw[T.aF];have c1:((Ex.o .eq (.o (.sub .i64) (.v 2) (.v 1)) (.i 1)).ev [.l xs,.i (a:Int),.i (m:Int),.i (b:Int)]).bool=decide (m=a+1):=by simp only[w1,aT];first|(congr 1;apply propext;constructor<;>(intro h;omega))|(simp;omega)
  rw[c1];by_cases k1:m=a+1
  ·rw[aA (by simp[k1]),T.aF];refine xk (S:=Nat×Nat) (fun s=>[.i (s.1:Int),.i (s.2:Int)]) (fun s=>m<=s.1/\s.1<=s.2/\s.2<=b/\(m<s.1->dM (xs.getD a (.i 0)) (xs.getD (s.1-1) (.i 0))=false)/\(s.2<b->dM (xs.getD a (.i 0)) (xs.getD s.2 (.i 0))=true)) (fun s=>s.2-s.1) ?_ (m,b) rfl ⟨aX _,by omega,aX _,fun h=>by omega,fun h=>by omega⟩ (by show b-m<_;omega);rintro⟨i,j⟩ rec ⟨q1,q2,q3,q4,q5⟩ hr;simp only at q1 q2 q3 q4 q5;show bW ((RN CE (.v 1) id _).aF Γ [.l xs,.i (a:Int),.i (m:Int),.i (b:Int),.i (i:Int),.i (j:Int)] [rec]) _;by_cases Ov:i<j
   ·have hy:=fun l=>CF (x0:= .l xs) (x1:= .i (a:Int)) (x2:= .i (m:Int)) (x3:= .i (b:Int)) (i:=i) (j:=j) (by omega) (by omega) l;refine aih hc ho hE hl (p:=(i+j)/2) (q:=a) Ov (by omega) hy (fun l=>rfl) (by omega) (by omega) (fun hle=> ?_) (fun hle=> ?_)
    ·exact hr ((i+j)/2+1,j) ⟨by show m<=(i+j)/2+1;omega,by show(i+j)/2+1<=j;omega,q3,fun _=>by show dM (xs.getD a (.i 0)) (xs.getD ((i+j)/2+1-1) (.i 0))=false;rw[Nat.add_sub_cancel];exact hle,q5⟩ (by show j-((i+j)/2+1)<j-i;omega)
    ·exact hr (i,(i+j)/2) ⟨q1,by show i<=(i+j)/2;omega,by show(i+j)/2<=b;omega,q4,fun _=>hle⟩ (by show(i+j)/2-i<j-i;omega)
   ·have e:j=i:=by omega
    subst e;unfold RN;refine uA (x:=(j:Int)) (y:=(j:Int)) rfl rfl (fun h=>absurd h (by omega)) (fun _=> ?_);exact air hE hl OI hb k1 iV q1 q3 q4 q5
  ·rw[aE (by simp[k1]),T.aF];have c2:((Ex.o .eq (.o (.sub .i64) (.v 3) (.v 2)) (.i 1)).ev [.l xs,.i (a:Int),.i (m:Int),.i (b:Int)]).bool=decide (b=m+1):=by simp only[w2,aT];first|(congr 1;apply propext;constructor<;>(intro h;omega))|(simp;omega)
   rw[c2];by_cases k2:b=m+1
   ·rw[aA (by simp[k2]),T.aF];refine xk (S:=Nat×Nat) (fun s=>[.i (s.1:Int),.i (s.2:Int)]) (fun s=>a<=s.1/\s.1<=s.2/\s.2<=m/\(a<s.1->dM (xs.getD (s.1-1) (.i 0)) (xs.getD m (.i 0))=true)/\(s.2<m->dM (xs.getD s.2 (.i 0)) (xs.getD m (.i 0))=false)) (fun s=>s.2-s.1) ?_ (a,m) rfl ⟨aX _,by omega,aX _,fun h=>by omega,fun h=>by omega⟩ (by show m-a<_;omega);rintro⟨i,j⟩ rec ⟨q1,q2,q3,q4,q5⟩ hr;simp only at q1 q2 q3 q4 q5;show bW ((RN (.v 2) CE (.u .not) _).aF Γ [.l xs,.i (a:Int),.i (m:Int),.i (b:Int),.i (i:Int),.i (j:Int)] [rec]) _;by_cases Ov:i<j
    ·have hy:=fun l=>CF (x0:= .l xs) (x1:= .i (a:Int)) (x2:= .i (m:Int)) (x3:= .i (b:Int)) (i:=i) (j:=j) (by omega) (by omega) l;refine Ui hc ho hE hl (p:=m) (q:=(i+j)/2) Ov (by omega) (fun l=>rfl) hy (by omega) (by omega) (fun hle=> ?_) (fun hle=> ?_)
     ·exact hr ((i+j)/2+1,j) ⟨by show a<=(i+j)/2+1;omega,by show(i+j)/2+1<=j;omega,q3,fun _=>by show dM (xs.getD ((i+j)/2+1-1) (.i 0)) (xs.getD m (.i 0))=true;rw[Nat.add_sub_cancel];exact hle,q5⟩ (by show j-((i+j)/2+1)<j-i;omega)
     ·exact hr (i,(i+j)/2) ⟨q1,by show i<=(i+j)/2;omega,by show(i+j)/2<=m;omega,q4,fun _=>hle⟩ (by show(i+j)/2-i<j-i;omega)
    ·have e:j=i:=by omega
     subst e;unfold RN;refine uA (x:=(j:Int)) (y:=(j:Int)) rfl rfl (fun h=>absurd h (by omega)) (fun _=> ?_);exact Xm hE hl ham OI k2 hb iU q1 q3 q5 q4
   ·rw[aE (by simp[k2])];have hm:=fun l=>MJ (x0:= .l xs) (x2:= .i (m:Int)) (i:=a) (j:=b) (by omega) (by omega) l;refine uA (x:=(((a+b)/2:Nat):Int)) (y:=(m:Int)) (hm _) rfl (fun k3=> ?_) (fun k3=> ?_)
    ·rw[T.aF];have w3:IntKind.i64.wrap ((((a+b)/2:Nat):Int)+m)=(((a+b)/2+m:Nat):Int):=by rw[iO]<;>omega
     have w4:IntKind.i64.wrap ((((a+b)/2+m:Nat):Int)-b)=(((a+b)/2+m-b:Nat):Int):=by rw[iO]<;>omega
     have e1:[(Ex.o (.sub .i64) (.o (.add .i64) wx (.v 2)) (.v 3)),wx].map (Ex.ev [.l xs,.i (a:Int),.i (m:Int),.i (b:Int)])=[.i (((a+b)/2+m-b:Nat):Int),.i (((a+b)/2:Nat):Int)]:=by simp only[hm,w3,w4,aT]
     rw[e1];exact IM hc ho hΓ hR hE hl ham OI hb iU iV ih rfl (by omega) (by omega) (.inl ⟨by omega,rfl,rfl⟩)
    ·rw[T.aF];exact IM hc ho hΓ hR hE hl ham OI hb iU iV ih (lo:=a) (hi:=m) rfl (by omega) (by omega) (.inr ⟨by omega,rfl,rfl⟩)
end
theorem sY.stb{xs ys:ab}{a b:Nat}(h:sY dM xs ys a b)(h1:a<=b):lI dM xs ys:=by
 obtain⟨W,hW,rfl,h3,_⟩:=h;have:=((lI.rfl (le:=dM) (xs:=xs.take a)).app h3).app (lI.rfl (le:=dM) (xs:=xs.drop b))
 rwa [<-Ub h1]at this
theorem sY.lo{xs ys:ab}{a b i j:Nat}(h:sY dM xs ys a b)(h1:a<=b)(h2:b<=xs.length)(hj:j<=a):dA ys i j=dA xs i j:=by obtain⟨W,hW,rfl,_,_⟩:=h;exact RJ hj h1 h2 hW
theorem sY.hi{xs ys:ab}{a b i j:Nat}(h:sY dM xs ys a b)(h1:a<=b)(h2:b<=xs.length)(hj:b<=i):dA ys i j=dA xs i j:=by obtain⟨W,hW,rfl,_,_⟩:=h;exact Bu hj h1 h2 hW
def Bkk(n bs lim:Nat)(ys:ab):Prop:=∀q,q*bs<lim->od dM (dA ys (q*bs) (min (q*bs+bs) n))
section
variable{Γ:Nat->dK}(hc:∀x y:Int,Γ 44 [.i x,.i y]=some [.i (cI x y)])(ho:∀u v:Int,Γ 43 [.l [.i u,.i v]]=some [.i (oI u v)])(hI:∀l,Γ 43000145 l=if l.length=3 then aM.aF Γ l []else none)
include hc ho hI
theorem EQ{xs:ab}(hE:uM xs)(hx:xs.length<=100000000000){a b:Nat}(h1:a<=b)(h2:b<=xs.length):∃ys,Γ 43000145 [.l xs,.i (a:Int),.i (b:Int)]=some [.l ys]/\uM ys/\sY dM xs ys a b:=by
 suffices h:bW (Γ 43000145 [.l xs,.i (a:Int),.i (b:Int)]) fun r=>∃ys,r=[.l ys]/\uM ys/\sY dM xs ys a b by obtain⟨r,h1,ys,rfl,h2,h3⟩:=h;exact⟨ys,h1,h2,h3⟩
 rw[hI];show bW (aM.aF Γ [.l xs,.i (a:Int),.i (b:Int)] []) _;rcases vU h1 with h|rfl
 ·exact J2 hc ho hE hx h h2
 ·unfold aM;rw[T.aF];have w:IntKind.i64.wrap ((a:Int)+1)=((a+1:Nat):Int):=by rw[iO]<;>omega
  refine xk (S:=Unit) (fun _=>[.i ((a+1:Nat):Int),.l xs]) (fun _=>True) (fun _=>0) ?_ () ?_ trivial (by omega)
  ·intro _ rec _ _;simp only[aT];rw[aE (by omega)];refine bW.some ⟨xs,rfl,hE,RF (aX _) h2 ?_⟩;rw[Gs];exact Pairwise.nil
  ·simp only[w,aT]
variable(hΓ:∀l,Γ 43000309 l=if l.length=4 then aw.aF Γ l []else none)(hR:∀l,Γ 43000238 l=if l.length=4 then aI.aF Γ l []else none)
 (hS:∀l,Γ 43000146 l=if l.length=4 then bx.aF Γ l []else none)
include hΓ hR hS
theorem RQ{xs:ab}(hE:uM xs)(hx:xs.length<=100000000000):bW (cZ.aF Γ [.l xs,.i (xs.length:Int)] []) fun r=>∃ys,r=[.l ys]/\ys.length=xs.length/\uM ys/\lI dM xs ys/\od dM ys:=by
 have hSM:=R2 hc ho hΓ hR hS;obtain⟨n,hn⟩:∃n,n=xs.length:=⟨_,rfl⟩;rw[<-hn];unfold cZ;rw[T.aF];refine xk (S:=Nat×ab) (fun s=>[.i ((s.1*20:Nat):Int),.i ((s.1*20+20:Nat):Int),.l s.2]) (fun s=>s.1*20<=n/\s.2.length=n/\uM s.2/\lI dM xs s.2/\Bkk n 20 (s.1*20) s.2) (fun s=>n-s.1) ?_ (0,xs) rfl ⟨xA _,hn.symm,hE,lI.rfl,fun q h=>by omega⟩ (by show n-0<_;omega);rintro⟨k,ys⟩ rec ⟨g1,g2,g3,g4,g5⟩ hr;simp only at g1 g2 g3 g4 g5;by_cases hb:k*20+20<=n
 ·obtain⟨zs,hz,ux,nQ⟩:=EQ hc ho hI g3 (by omega) (a:=k*20) (b:=k*20+20) (by omega) (by omega);have w:IntKind.i64.wrap (((k*20+20:Nat):Int)+20)=(((k+1)*20+20:Nat):Int):=by rw[iO]<;>omega
  simp only[hz,w,aT,Nat.reduceAdd];rw[aA (by omega)];have e:k*20+20=(k+1)*20:=by omega
  rw[e];refine hr (k+1,zs) ⟨by show(k+1)*20<=n;omega,(nQ.len (by omega) (by omega)).trans g2,ux,g4.trans (nQ.stb (by omega)),fun q hq=> ?_⟩ (by show n-(k+1)<n-k;omega);simp only at hq;show od dM (dA zs _ _);by_cases X5:q*20<k*20
  ·rw[nQ.lo (by omega) (by omega) (by omega)];exact g5 q X5
  ·have:q=k:=by omega
   subst this;rw[show min (q*20+20) n=q*20+20 by omega];exact nQ.inc (by omega) (by omega)
 ·obtain⟨zs,hz,ux,nQ⟩:=EQ hc ho hI g3 (by omega) (a:=k*20) (b:=n) g1 (by omega);simp only[hz,aT,Nat.reduceAdd];rw[aE (by omega)];have hlen:zs.length=n:=(nQ.len g1 (by omega)).trans g2;have hBk:Bkk n 20 n zs:=by
   intro q hq;by_cases X5:q*20<k*20
   ·rw[nQ.lo (by omega) (by omega) (by omega)];exact g5 q X5
   ·have:q=k:=by omega
    subst this;rw[show min (q*20+20) n=n by omega];exact nQ.inc g1 (by omega)
  have fC:lI dM xs zs:=g4.trans (nQ.stb g1);refine xk (S:=Sc×Sc×Nat×ab) (fun s=>[s.1,s.2.1,.i (s.2.2.1:Int),.l s.2.2.2]) (fun s=>0<s.2.2.1/\s.2.2.1<=2*n+20/\s.2.2.2.length=n/\uM s.2.2.2/\lI dM xs s.2.2.2/\Bkk n s.2.2.1 n s.2.2.2) (fun s=>n-s.2.2.1) ?_ (_,_,20,zs) rfl ⟨by show 0<20;omega,by show 20<=2*n+20;omega,hlen,ux,fC,hBk⟩ (by show n-20<_;omega);rintro⟨y6,y7,bs,us⟩ tp ⟨p1,p2,p3,p4,p5,p6⟩ oa;simp only at p1 p2 p3 p4 p5 p6;by_cases hbs:bs<n
  ·have w1:IntKind.i64.wrap (2*(bs:Int))=((2*bs:Nat):Int):=by rw[iO]<;>omega
   have w2:IntKind.i64.wrap ((bs:Int)*2)=((2*bs:Nat):Int):=by rw[iO]<;>omega
   simp only[w1,ant,aT];rw[aA (by omega)];refine xk (S:=Nat×ab) (fun s=>[.i ((s.1*(2*bs):Nat):Int),.i ((s.1*(2*bs)+2*bs:Nat):Int),.l s.2]) (fun s=>s.1*(2*bs)<=n/\s.2.length=n/\uM s.2/\lI dM xs s.2/\Bkk n (2*bs) (s.1*(2*bs)) s.2/\∀q,s.1*(2*bs)<=q*bs->q*bs<n->od dM (dA s.2 (q*bs) (min (q*bs+bs) n))) (fun s=>n-s.1*(2*bs)) ?_ (0,us) ?_ ⟨by show 0*(2*bs)<=n;omega,p3,p4,p5,fun q h=>by simp only[Nz]at h;omega,fun q _ h=>p6 q h⟩ (by show n-0*(2*bs)<_;omega)
   ·rintro⟨k2,vs⟩ au4 ⟨f1,f2,f3,f4,f5,f6⟩ HM;simp only at f1 f2 f3 f4 f5 f6;have d1:(2*k2)*bs=k2*(2*bs):=by rw[Kf 2 k2,Nat.mul_assoc]
    have d2:(2*k2+1)*bs=k2*(2*bs)+bs:=by rw[succ_mul,d1]
    have d3:(k2+1)*(2*bs)=k2*(2*bs)+2*bs:=succ_mul _ _;generalize hA:k2*(2*bs)=A at*;have w3:IntKind.i64.wrap ((A:Int)+bs)=((A+bs:Nat):Int):=by rw[iO]<;>omega
    have w4:IntKind.i64.wrap (((A+2*bs:Nat):Int)+((2*bs:Nat):Int))=((A+2*bs+2*bs:Nat):Int):=by rw[iO]<;>omega
    have old:∀q,q*(2*bs)<A->q*(2*bs)+2*bs<=A:=by intro q hq;rw[<-hA]at hq⊢;have:=Nat.lt_of_mul_lt_mul_right hq;rw[<-succ_mul];exact fu _ this
    have same:∀q,¬q*(2*bs)<A->q*(2*bs)<A+2*bs->q*(2*bs)=A:=by intro q hq h2;rw[<-d3]at h2;have h3:=Nat.lt_of_mul_lt_mul_right h2;rw[<-hA]at hq⊢;have h4:k2<=q:=Nat.le_of_mul_le_mul_right (Kg hq) (by omega);rw[show q=k2 by omega]
    by_cases SY:A+2*bs<=n
    ·have iU:=f6 (2*k2) (by omega) (by omega);have iV:=f6 (2*k2+1) (by omega) (by omega);rw[d1,show min (A+bs) n=A+bs by omega]at iU;rw[d2,show min (A+bs+bs) n=A+2*bs by omega]at iV;obtain⟨ws,hw,DS⟩:=hSM (2*bs) vs A (A+bs) (A+2*bs) f3 (by omega) (by omega) (by omega) (by omega) (by omega) iU iV;simp only[w3,hw,w4,aT,Nat.reduceAdd];rw[aA (by omega)];have:=HM (k2+1,ws) ⟨by show(k2+1)*(2*bs)<=n;omega,(DS.len (by omega) (by omega)).trans f2,DS.lK (by omega) f3,f4.trans (DS.stb (by omega)),fun q hq=>by
      have hq:=Nat.lt_of_lt_of_eq hq d3;by_cases X5:q*(2*bs)<A
      ·have:=old q X5;show od dM (dA ws _ _);rw[DS.lo (by omega) (by omega) (by omega)];exact f5 q X5
      ·have e:=same q X5 hq;show od dM (dA ws _ _);rw[e,show min (A+2*bs) n=A+2*bs by omega];exact DS.inc (by omega) (by omega),fun q hq Tj=>by
      have hq:=bI (Nat.le_of_eq d3.symm) hq;show od dM (dA ws _ _);rw[DS.hi (by omega) (by omega) (by omega)];exact f6 q (by omega) Tj⟩ (by show n-(k2+1)*(2*bs)<n-A;omega)
     simp only[d3]at this;exact this
    ·have fin:∀ws,ws.length=n->uM ws->lI dM xs ws->Bkk n (2*bs) A ws->od dM (dA ws A n)->bW (tp [.i (A:Int),.i ((A+2*bs:Nat):Int),.i ((2*bs:Nat):Int),.l ws]) fun r=>∃ys,r=[.l ys]/\ys.length=n/\uM ys/\lI dM xs ys/\od dM ys:=by
      intro ws e1 e2 e3 e4 e5;refine oa (_,_,2*bs,ws) ⟨by show 0<2*bs;omega,by show 2*bs<=2*n+20;omega,e1,e2,e3,fun q hq=> ?_⟩ (by show n-2*bs<n-bs;omega);simp only at hq;show od dM (dA ws (q*(2*bs)) (min (q*(2*bs)+2*bs) n));by_cases X5:q*(2*bs)<A
      ·exact e4 q X5
      ·have e:=same q X5 (by omega);rw[e,show min (A+2*bs) n=n by omega];exact e5
     by_cases hab:A+bs<n
     ·have iU:=f6 (2*k2) (by omega) (by omega);have iV:=f6 (2*k2+1) (by omega) (by omega);rw[d1,show min (A+bs) n=A+bs by omega]at iU;rw[d2,show min (A+bs+bs) n=n by omega]at iV;obtain⟨ws,hw,DS⟩:=hSM (n-A) vs A (A+bs) n f3 (by omega) (by omega) (by omega) (by omega) (by omega) iU iV;simp only[w3,hw,w2,aT,Nat.reduceAdd];rw[aE (by omega),aA (by omega)];refine fin ws ((DS.len (by omega) (by omega)).trans f2) (DS.lK (by omega) f3) (f4.trans (DS.stb (by omega))) (fun q hq=> ?_) (DS.inc (by omega) (by omega));have:=old q hq;rw[DS.lo (by omega) (by omega) (by omega)];exact f5 q hq
     ·simp only[w3,w2,aT];rw[aE (by omega),aE (by omega)];refine fin vs f2 f3 f4 f5 ?_;by_cases hAn:A<n
      ·have iU:=f6 (2*k2) (by omega) (by omega);rw[d1,show min (A+bs) n=n by omega]at iU;exact iU
      ·rw[show A=n by omega,Gs];exact Pairwise.nil
   ·simp only[Nz,eG];rfl
  ·simp only[aT];rw[aE (by omega)];refine bW.some ⟨us,rfl,p3,p4,p5,?_⟩;by_cases h0:0<n
   ·have:=p6 0 (by omega);rw[Nz,eG,show min bs n=n by omega]at this;unfold dA at this;rw[Ki,Nat.sub_zero,lQ (by omega)]at this;exact this
   ·have:us=[]:=px (by omega);rw[this];exact Pairwise.nil
end
def acu(z:Int):Gf 85 [.i z]=some [.b false]:=by rw[Fl];show oR.aF Gf [.i z] []=_;unfold oR;simp only[aT]
def Xb(x y:Int):Gf 44 [.i x,.i y]=some [.i (cI x y)]:=by
 rw[B8];show mL.aF Gf [.i x,.i y] []=_;unfold mL;simp only[acu,aT,Nat.reduceAdd];unfold cI;repeat' split
 all_goals first|rfl|omega
def TW:Dk->Int
 |[]=>0|u::l=>if u=0 then TW l else u
def Zw(l:Dk)(hl:l.length<=1000):Gf 43 [.l (l.map .i)]=some [.i (TW l)]:=by
 rw[L0];show pn.aF Gf [.l (l.map .i)] []=_;suffices h:bW (pn.aF Gf [.l (l.map .i)] []) fun r=>r=[.i (TW l)]by
  obtain⟨r,h1,rfl⟩:=h;exact h1
 unfold pn;rw[T.aF];refine dv (S:=Unit) (fun i _=>[.i (i:Int)]) (fun i _=>TW (l.drop i)=TW l) l.length (s:=()) rfl (by omega) rfl ?_ ?_
 ·intro i _ rec hi hI hr;have w1:=cM (i:=i) (by omega);have hd:(l.map Sc.i).getD i (.i 0)= .i l[i]:=by rw[cE,vR,cB hi];rfl
  have hdr:l.drop i=l[i]::l.drop (i+1):=xD hi;rw[hdr]at hI;simp only[w1,hd,Ab,aT];repeat rw[aA (by omega)]
  by_cases hu:l[i]=0
  ·rw[aE (by simpa using hu)];refine hr () ?_;rw[<-hI,TW,aA hu]
  ·rw[aA (by simpa using hu)];refine bW.some ?_;rw[<-hI,TW,aE hu]
 ·intro _ rec hI;rw[drop_length]at hI;simp only[Ab,aT];rw[aE (by omega)];exact bW.some (by rw[<-hI];rfl)
def auW(u v:Int):Gf 43 [.l [.i u,.i v]]=some [.i (oI u v)]:=by
 have:=Zw [u,v] (by simp);rw[show[u,v].map Sc.i=[.i u,.i v]from rfl]at this;rw[this];unfold oI TW TW;simp only[TW];by_cases h:u=0
 ·rw[aA h,aA h];by_cases h2:v=0
  ·rw[aA h2,h2]
  ·rw[aE h2]
 ·rw[aE h,aE h]
def pJ(e r:Sc):Sc:= .l (aU 9 e++[r])
def Wh(x:Sc):Sc:= .l (aU 9 x)
def Jp(x:Sc):ab:=(x.list.getD 9 (.i 0)).list
def ajv(E:ab):Prop:=∀e∈E,(∃z,e.list.getD 0 (.i 0)= .i z)/\∃z,e.list.getD 4 (.i 0)= .i z
def Om{T:ab}{B:Nat}(h:∀x∈T,(Jp x).length<=B):∀i,((T.take i).flatMap Jp).length<=i*B:=by
 intro i;induction i with
 |zero=>simp|succ i ih=>
  by_cases hi:i<T.length
  ·rw[take_add_one,cB hi,flatMap_append,fR,succ_mul];have:=h _ (BQ hi);simp only[Option.toList_some,AQ,flatMap_nil,uP];omega
  ·rw[lQ (by omega)];rw[lQ (by omega)]at ih;rw[succ_mul];omega
def acM{E R:ab}(hE:ajv E)(hl:E.length<=5000)(hR:R.length=E.length)(hr:∀r∈R,r.list.length<=400000000):
 ∃T,Gf 19 [.l E,.l R]=some [.l (T.map Wh),.l (T.flatMap Jp)]/\lI dM (zipWith pJ E R) T/\od dM T/\T.length<=5000:=by
 suffices h:bW (wQ.aF Gf [.l E,.l R] []) fun rs=>∃T,rs=[.l (T.map Wh),.l (T.flatMap Jp)]/\lI dM (zipWith pJ E R) T/\od dM T/\T.length<=5000 by obtain⟨rs,h1,T,rfl,h2⟩:=h;exact⟨T,by rw[N9];exact h1,h2⟩
 have hzl:(zipWith pJ E R).length=E.length:=by rw[length_zipWith,hR,Nat.min_self]
 have hzE:uM (zipWith pJ E R):=by
  intro y hy;obtain⟨i,hi,rfl⟩:=mem_iff_getElem.1 hy;rw[getElem_zipWith];obtain⟨⟨z0,h0⟩,z4,h4⟩:=hE (E[i]'(by omega)) (BQ _);refine⟨_,rfl,rfl,⟨z0,?_⟩,z4,?_⟩
  ·exact h0
  ·exact h4
 unfold wQ
 rw[T.aF]
 refine dv (S:=Unit) (fun i _=>[.l ((zipWith pJ E R).take i),.i (i:Int)]) (fun _ _=>True) E.length (s:=()) rfl (by omega) trivial ?_ ?_
 ·intro i _ rec hi _ lE;have w1:=cM (i:=i) (by omega);have qu:=lE () trivial;rw[take_add_one,cB (by omega),getElem_zipWith]at qu;have e1:E.getD i (.i 0)=E[i]:=by rw[cE,cB hi];rfl
  have e2:R.getD i (.i 0)=R[i]'(by omega):=by rw[cE,cB (by omega)];rfl
  have hlen:((zipWith pJ E R).take i).length<=5000:=by rw[iW];omega
  simp only[w1,fR,aT,Nat.reduceAdd];repeat rw[aA (by omega)]
  rw[e1,e2];exact qu
 ·intro _ rec _;obtain⟨_,Wo,T,rfl,X6,hs3,hs4,hs5⟩:=RQ Xb auW iL jV lC kh hzE (by omega);have amF:Gf 43000041 [.l (zipWith pJ E R)]=some [.l T]:=by
   rw[kO];show cU.aF Gf [.l (zipWith pJ E R)] []=_;unfold cU;have hc:Gf 43000084 [.l (zipWith pJ E R),.i ((zipWith pJ E R).length:Int)]=some [.l T]:=by rw[lD];exact Wo
   simp only[hc,aT,Nat.reduceAdd]
  have Wp:(zipWith pJ E R).take E.length=zipWith pJ E R:=lQ (by omega);rw[Wp];simp only[amF,aT,Nat.reduceAdd];rw[aE (by omega)];have hTl:T.length<=5000:=by omega
  have hTr:∀x∈T,(Jp x).length<=400000000:=by intro x hx;have:=lI.mem ij hs4.symm hx;obtain⟨i,hi,rfl⟩:=mem_iff_getElem.1 this;rw[getElem_zipWith];exact hr _ (BQ _)
  have ut:∀i,i<=5000->((T.take i).flatMap Jp).length<=2000000000000:=fun i hi=>by have h1:=Om (B:=400000000) hTr i;have h2:i*400000000<=5000*400000000:=fu _ hi;exact bI h1 (bI h2 (by decide))
  refine dv (S:=Unit) (fun i _=>[.i (i:Int),.l ((T.take i).map Wh),.l ((T.take i).flatMap Jp)]) (fun _ _=>True) T.length (s:=()) rfl (by omega) trivial ?_ ?_
  ·intro i _ tp hi _ lE;have w1:=cM (i:=i) (by omega);have qu:=lE () trivial;rw[take_add_one,cB hi,BP,flatMap_append]at qu;have e1:T.getD i (.i 0)=T[i]:=by rw[cE,cB hi];rfl
   have h1:=ut i (by omega);have h2:=hTr _ (BQ hi);have h3:((T.take i).map Wh).length<=5000:=by rw[Ab,iW];omega
   have P4:(((T.getD i (.i 0)).list.getD 9 (.i 0)).list.length:Int)<=400000000:=by rw[e1];exact ofNat_le.2 h2
   simp only[w1,fR,aT,Nat.reduceAdd];repeat rw[aA (by omega)]
   rw[e1];simp only[Option.toList_some,jQ,map_nil,AQ,flatMap_nil,uP]at qu;rw[show Wh T[i]= .l [T[i].list.getD 0 (.i 0),T[i].list.getD 1 (.i 0),T[i].list.getD 2 (.i 0),T[i].list.getD 3 (.i 0),T[i].list.getD 4 (.i 0),T[i].list.getD 5 (.i 0),T[i].list.getD 6 (.i 0),T[i].list.getD 7 (.i 0),T[i].list.getD 8 (.i 0)]from rfl,show Jp T[i]=(T[i].list.getD 9 (.i 0)).list from rfl]at qu;have h3':(T.take i).length<=5000:=by rw[iW];omega
   have h4':(T[i].list.getD 9 (.i 0)).list.length<=400000000:=h2;rw[aA (by omega),aA (by omega)];exact qu
  ·intro _ tp _;simp only[aT];rw[aE (by omega)];exact bW.some ⟨T,by rw[take_length],hs4,hs5,hTl⟩
noncomputable section
theorem ahG{S:Type}{g:dK->dK}{Q:S->ab->Prop}(enc:S->ab)(I:S->Prop)(μ:S->Nat)(h:∀s rec,I s->(∀s',I s'->μ s'<μ s->bW (rec (enc s')) (Q s'))->bW (g rec (enc s)) (Q s)){v:ab}(s:S)(hv:v=enc s)(hI:I s)(hm:μ s<340282366920938463463374607431768211456):bW (cH g fg v) (Q s):=by
 have key:∀n k s,μ s<=n->I s->bW (cH g (k+n+1) (enc s)) (Q s):=by
  intro n;induction n with
  |zero=>
   intro k s h1 h2;exact h s _ h2 fun s' h3 h4=>absurd h4 (by omega)
  |succ n ih=>
   intro k s h1 h2;exact h s _ h2 fun s' h3 h4=>ih k s' (by omega) h3
 obtain⟨k,hk⟩:=rE hm
 rw[hk,hv]
 exact key (μ s) k s (aX _) hI
def Ev9(e:ab):Prop:=∃z0 z1 z2 z3 z4 z5 z6 z7 a,e=[.i z0,.i z1,.i z2,.i z3,.i z4,.i z5,.i z6,.i z7,a]
def tm9(e:ab):Int:=(e.getD 0 (.i 0)).int
theorem Zx(z0 z1 z2 z3 z4 z5 z6 z7 y0 y1 y2 y3 y4 y5 y6 y7:Int)(a b:Sc):Gf 45 [.i z0,.i z1,.i z2,.i z3,.i z4,.i z5,.i z6,.i z7,a,.i y0,.i y1,.i y2,.i y3,.i y4,.i y5,.i y6,.i y7,b]=some [.i (TW [cI z0 y0,cI z1 y1,cI z2 y2,cI z3 y3])]:=by rw[yj];show jv.aF Gf [.i z0,.i z1,.i z2,.i z3,.i z4,.i z5,.i z6,.i z7,a,.i y0,.i y1,.i y2,.i y3,.i y4,.i y5,.i y6,.i y7,b] []=_;have h:=Zw [cI z0 y0,cI z1 y1,cI z2 y2,cI z3 y3] (by simp);rw[show[cI z0 y0,cI z1 y1,cI z2 y2,cI z3 y3].map Sc.i=[.i (cI z0 y0),.i (cI z1 y1),.i (cI z2 y2),.i (cI z3 y3)]from rfl]at h;unfold jv;simp only[Xb,h,aT,Nat.reduceAdd]
def ls9(e l:ab):Bool:=match Gf 80 (e++l)with
 |some [.b b]=>b|_=>false
theorem Y9{e l:ab}(he:Ev9 e)(hl:Ev9 l):Gf 80 (e++l)=some [.b (ls9 e l)]/\(ls9 e l=true->tm9 e<=tm9 l):=by
 obtain⟨z0,z1,z2,z3,z4,z5,z6,z7,a,rfl⟩:=he;obtain⟨y0,y1,y2,y3,y4,y5,y6,y7,b,rfl⟩:=hl;have h:Gf 80 ([.i z0,.i z1,.i z2,.i z3,.i z4,.i z5,.i z6,.i z7,a]++[.i y0,.i y1,.i y2,.i y3,.i y4,.i y5,.i y6,.i y7,b])=some [.b (decide (TW [cI z0 y0,cI z1 y1,cI z2 y2,cI z3 y3]<0))]:=by rw[Jw];show sP.aF Gf [.i z0,.i z1,.i z2,.i z3,.i z4,.i z5,.i z6,.i z7,a,.i y0,.i y1,.i y2,.i y3,.i y4,.i y5,.i y6,.i y7,b] []=_;unfold sP;simp only[Zx,aT,Nat.reduceAdd]
 have e:ls9 [.i z0,.i z1,.i z2,.i z3,.i z4,.i z5,.i z6,.i z7,a] [.i y0,.i y1,.i y2,.i y3,.i y4,.i y5,.i y6,.i y7,b]=decide (TW [cI z0 y0,cI z1 y1,cI z2 y2,cI z3 y3]<0):=by unfold ls9;rw[h]
 refine⟨by rw[e];exact h,fun hh=> ?_⟩;rw[e,ei]at hh;show z0<=y0;unfold TW at hh;by_cases h0:cI z0 y0=0
 ·unfold cI at h0;repeat' split at h0
  all_goals first|omega|cases h0
 ·rw[aE h0]at hh;unfold cI at hh;repeat' split at hh
  all_goals omega
def pk(st:Sc):ab:=(Gf 37 (aU 18 st)).getD []
def K6(st:Sc):ab:=(pk st).take 9
def pkO(st:Sc):Bool:=((pk st).getD 9 (.i 0)).bool
def lL(W:ab):Nat->Nat×Bool×ab
 |0=>(0,false,[.i 0,.i 0,.i 0,.i 0,.i 0,.i 0,.i 0,.i 0,.l []])|k+1=>if pkO (W.getD k (.i 0))=true then
   if(lL W k).2.1=true then(if ls9 (K6 (W.getD k (.i 0))) (lL W k).2.2=true then(k,true,K6 (W.getD k (.i 0)))else lL W k)
   else(k,true,K6 (W.getD k (.i 0)))
  else lL W k
section
variable{pm:Pm}(hp:dG pm){N:Nat}(tg:dQ am (II pm) (JJ pm N) Gf eN)
def anN:List Ty:=[.int,.int,.int,.ae 88,.ae 223,.int,.ae 3,.ae 187,.ae 196,.ae 203,.ae 67,.ae 208,.ae 283,.ae 213,.ae 3,.ae 3,.ae 3,.int]
theorem M4:am.tk 76= .row anN:=by kernel_rfl
def Aa(pm:Pm)(st:Sc):Prop:=∃c,st= .l c/\fl (II pm) anN c
include hp in
theorem oT{W:ab}(h:II pm 76 (.l W)):∀st∈W,Aa pm st:=by
 obtain⟨l,e,_,h3⟩:=(cY hp (N:=0)).list 76 _ (aj (by decide+kernel)) h;cases e
 intro st fC;exact oO M4 (h3 st fC)
include hp tg
theorem MP{st:Sc}(h:Aa pm st):Gf 37 (aU 18 st)=some (K6 st++[.b (pkO st)])/\Ev9 (K6 st):=by
 obtain⟨c,rfl,hc⟩:=h;have e18:aU 18 (.l c)=c:=Kr (bb hc);have l:∀{k:Nat}{y:Sc},cT am k=true->II pm k y->has am (II pm) (JJ pm N) (.aV k) y:=fun hk hy=>wN hp hk hy;have dH:cR am (II pm) (JJ pm N) eN.args c:=by
  match c,bb hc,hc with
  |[a0,a1,a2,a3,a4,a5,a6,a7,a8,a9,Fb,GC,a12,FO,Ly,Lz,Kd,a17],_,⟨h0,h1,h2,h3,h4,h5,h6,h7,h8,h9,Mi,Oq,P3,Ji,Wi,QN,Ot,SS,_⟩=>
   exact⟨h0,h1,h2,l (by decide+kernel) h3,l (by decide+kernel) h4,h5,l (by decide+kernel) h6,l (by decide+kernel) h7,l (by decide+kernel) h8,l (by decide+kernel) h9,l (by decide+kernel) Mi,l (by decide+kernel) Oq,l (by decide+kernel) P3,l (by decide+kernel) Ji,l (by decide+kernel) Wi,l (by decide+kernel) QN,l (by decide+kernel) Ot,SS,trivial⟩
 obtain⟨rs,g1,g2,_⟩:=tg c dH (nofun);have g1:Gf 37 c=some rs:=g1;obtain⟨x0,r,rfl,⟨z0,rfl⟩,k0⟩:=af g2;obtain⟨x1,r,rfl,⟨z1,rfl⟩,k1⟩:=af k0;obtain⟨x2,r,rfl,⟨z2,rfl⟩,k2⟩:=af k1;obtain⟨x3,r,rfl,⟨z3,rfl⟩,k3⟩:=af k2;obtain⟨x4,r,rfl,⟨z4,rfl⟩,k4⟩:=af k3;obtain⟨x5,r,rfl,⟨z5,rfl⟩,k5⟩:=af k4;obtain⟨x6,r,rfl,⟨z6,rfl⟩,k6⟩:=af k5;obtain⟨x7,r,rfl,⟨z7,rfl⟩,k7⟩:=af k6;obtain⟨x8,r,rfl,_,k8⟩:=af k7;obtain⟨x9,r,rfl,⟨b,rfl⟩,k9⟩:=af k8;cases dI k9
 have ep:pk (.l c)=[.i z0,.i z1,.i z2,.i z3,.i z4,.i z5,.i z6,.i z7,x8,.b b]:=by unfold pk;rw[e18,g1];rfl
 rw[e18,g1];unfold K6 pkO;rw[ep];exact⟨rfl,z0,z1,z2,z3,z4,z5,z6,z7,x8,rfl⟩
theorem wB{W:ab}(hW:∀st∈W,Aa pm st):∀k,k<=W.length->Ev9 (lL W k).2.2/\(lL W k).1<=k/\((lL W k).2.1=true->(lL W k).1<k/\(lL W k).2.2=K6 (W.getD (lL W k).1 (.i 0))/\pkO (W.getD (lL W k).1 (.i 0))=true)
 |0,_=>⟨⟨0,0,0,0,0,0,0,0,.l [],rfl⟩,aX _,nofun⟩|k+1,hk=>by
  obtain⟨h1,h2,h3⟩:=wB hW k (by omega);have hpe:=(MP hp tg (hW _ (bh (xs:=W) (n:=k) (by omega)))).2;unfold lL;split
  ·rename_i bT;split
   ·split
    ·exact⟨hpe,le_succ _,fun _=>⟨lt_succ_self _,rfl,bT⟩⟩
    ·exact⟨h1,le_succ_of_le h2,fun h=>⟨lt_succ_of_lt (h3 h).1,(h3 h).2⟩⟩
   ·exact⟨hpe,le_succ _,fun _=>⟨lt_succ_self _,rfl,bT⟩⟩
  ·exact⟨h1,le_succ_of_le h2,fun h=>⟨lt_succ_of_lt (h3 h).1,(h3 h).2⟩⟩
theorem Zp{W:ab}(hW:∀st∈W,Aa pm st)(hl:W.length<=10000000):Gf 36 [.l W]=some [.i ((lL W W.length).1:Int),.b (lL W W.length).2.1]:=by
 suffices h:bW (uG.aF Gf [.l W] []) fun r=>r=[.i ((lL W W.length).1:Int),.b (lL W W.length).2.1]by
  obtain⟨r,h1,rfl⟩:=h;rw[L5];exact h1
 unfold uG;rw[T.aF];refine dv (S:=Unit) (fun i _=>[.i ((lL W i).1:Int),.b (lL W i).2.1,.i (i:Int)]++(lL W i).2.2) (fun _ _=>True) W.length (s:=()) rfl (by omega) trivial ?_ ?_
 ·intro i _ rec hi _ hr;have qu:=hr () trivial;have w1:=cM (i:=i) (by omega);obtain⟨Yy,z0,z1,z2,z3,z4,z5,z6,z7,a,hpe⟩:=MP hp tg (hW _ (bh (xs:=W) hi));obtain⟨⟨y0,y1,y2,y3,y4,y5,y6,y7,b,hle⟩,_,_⟩:=wB hp tg hW i (by omega);have yz:=(Y9 (e:=K6 (W.getD i (.i 0))) (l:=(lL W i).2.2) ⟨z0,z1,z2,z3,z4,z5,z6,z7,a,hpe⟩ ⟨y0,y1,y2,y3,y4,y5,y6,y7,b,hle⟩).1;have Tm:lL W (i+1)=(if pkO (W.getD i (.i 0))=true then(if(lL W i).2.1=true then(if ls9 (K6 (W.getD i (.i 0))) (lL W i).2.2=true then(i,true,K6 (W.getD i (.i 0)))else lL W i)else(i,true,K6 (W.getD i (.i 0))))else lL W i):=rfl;rw[Tm]at qu;clear Tm;generalize ls9 (K6 (W.getD i (.i 0))) (lL W i).2.2=lb at qu yz;generalize pkO (W.getD i (.i 0))=ok at qu Yy;rw[hpe]at qu Yy yz;rw[hle]at yz;have Bc:aU 18 (W.getD i (.i 0))=[(W.getD i (.i 0)).list.getD 0 (.i 0),(W.getD i (.i 0)).list.getD 1 (.i 0),(W.getD i (.i 0)).list.getD 2 (.i 0),(W.getD i (.i 0)).list.getD 3 (.i 0),(W.getD i (.i 0)).list.getD 4 (.i 0),(W.getD i (.i 0)).list.getD 5 (.i 0),(W.getD i (.i 0)).list.getD 6 (.i 0),(W.getD i (.i 0)).list.getD 7 (.i 0),(W.getD i (.i 0)).list.getD 8 (.i 0),(W.getD i (.i 0)).list.getD 9 (.i 0),(W.getD i (.i 0)).list.getD 10 (.i 0),(W.getD i (.i 0)).list.getD 11 (.i 0),(W.getD i (.i 0)).list.getD 12 (.i 0),(W.getD i (.i 0)).list.getD 13 (.i 0),(W.getD i (.i 0)).list.getD 14 (.i 0),(W.getD i (.i 0)).list.getD 15 (.i 0),(W.getD i (.i 0)).list.getD 16 (.i 0),(W.getD i (.i 0)).list.getD 17 (.i 0)]:=rfl;rw[Bc]at Yy;simp only[Fe,rU]at Yy yz;rw[hle];generalize hf:(lL W i).2.1=fb at qu⊢;cases ok<;>cases fb<;>cases lb<;>simp only[qO,na,qM,hle,hf]at qu<;>simp only[w1,Yy,yz,aT,Nat.reduceAdd]<;>rw[aA (by omega)]<;>(try rw[aA (by omega)])<;>exact qu
 ·intro _ rec _;obtain⟨⟨y0,y1,y2,y3,y4,y5,y6,y7,b,hle⟩,_,_⟩:=wB hp tg hW W.length (aX _);rw[hle];simp only[aT];rw[aE (by omega)];exact bW.some rfl
end
end
theorem iB{W:ab}{x:Sc}{k:Nat}(h:k<W.length):(W++[x]).getD k (.i 0)=W.getD k (.i 0):=by rw[cE,gA h,<-cE]
theorem vb{W:ab}{x:Sc}:(W++[x]).getD W.length (.i 0)=x:=by rw[cE,lR (aX _),Ad];rfl
theorem TV{W:ab}{x:Sc}:∀k,k<=W.length->lL (W++[x]) k=lL W k
 |0,_=>rfl|k+1,h=>by unfold lL;rw[TV k (by omega),iB (by omega)]
noncomputable def Ds(W:ab)(u:Int):Bool:=(lL W W.length).2.1&&decide (tm9 (K6 (W.getD (lL W W.length).1 (.i 0)))<=u)
section
variable{pm:Pm}(hp:dG pm){N:Nat}(tg:dQ am (II pm) (JJ pm N) Gf eN)
include hp tg
theorem alc{W:ab}(hW:∀st∈W,Aa pm st)(hl:W.length<=10000000)(u:Int):Gf 17 [.l W,.i u]=some [.b (Ds W u)]:=by
 have hn:=Zp hp tg hW hl;obtain⟨h1,h2,h3⟩:=wB hp tg hW W.length (aX _);rw[UU];show BC.aF Gf [.l W,.i u] []=_;unfold BC Ds;generalize hb:(lL W W.length).2.1=b at hn h3⊢;generalize hi:(lL W W.length).1=i at hn h2 h3⊢;cases b with
 |false=>
  simp only[hn,aT,Nat.reduceAdd]
 |true=>
  have bi:=(h3 rfl).1;obtain⟨Yy,z0,z1,z2,z3,z4,z5,z6,z7,a,hpe⟩:=MP hp tg (hW _ (bh (xs:=W) bi));have Bc:aU 18 (W.getD i (.i 0))=[(W.getD i (.i 0)).list.getD 0 (.i 0),(W.getD i (.i 0)).list.getD 1 (.i 0),(W.getD i (.i 0)).list.getD 2 (.i 0),(W.getD i (.i 0)).list.getD 3 (.i 0),(W.getD i (.i 0)).list.getD 4 (.i 0),(W.getD i (.i 0)).list.getD 5 (.i 0),(W.getD i (.i 0)).list.getD 6 (.i 0),(W.getD i (.i 0)).list.getD 7 (.i 0),(W.getD i (.i 0)).list.getD 8 (.i 0),(W.getD i (.i 0)).list.getD 9 (.i 0),(W.getD i (.i 0)).list.getD 10 (.i 0),(W.getD i (.i 0)).list.getD 11 (.i 0),(W.getD i (.i 0)).list.getD 12 (.i 0),(W.getD i (.i 0)).list.getD 13 (.i 0),(W.getD i (.i 0)).list.getD 14 (.i 0),(W.getD i (.i 0)).list.getD 15 (.i 0),(W.getD i (.i 0)).list.getD 16 (.i 0),(W.getD i (.i 0)).list.getD 17 (.i 0)]:=rfl;rw[Bc,hpe]at Yy;simp only[Fe,rU]at Yy;rw[hpe];simp only[hn,Yy,aT,Nat.reduceAdd];rw[aA (by omega)];rfl
theorem K3{W:ab}{x:Sc}(hW:∀st∈W,Aa pm st)(hx:Aa pm x):lL (W++[x]) (W++[x]).length=lL W W.length\/((lL (W++[x]) (W++[x]).length).1=W.length/\(lL (W++[x]) (W++[x]).length).2.1=true/\((lL W W.length).2.1=true->tm9 (K6 x)<=tm9 (lL W W.length).2.2)):=by
 rw[fR,BM];have e:lL (W++[x]) (W.length+1)=(if pkO x=true then(if(lL W W.length).2.1=true then(if ls9 (K6 x) (lL W W.length).2.2=true then(W.length,true,K6 x)else lL W W.length)else(W.length,true,K6 x))else lL W W.length):=by have:lL (W++[x]) (W.length+1)=(if pkO ((W++[x]).getD W.length (.i 0))=true then(if(lL (W++[x]) W.length).2.1=true then(if ls9 (K6 ((W++[x]).getD W.length (.i 0))) (lL (W++[x]) W.length).2.2=true then(W.length,true,K6 ((W++[x]).getD W.length (.i 0)))else lL (W++[x]) W.length)else(W.length,true,K6 ((W++[x]).getD W.length (.i 0))))else lL (W++[x]) W.length):=rfl;rw[this,TV _ (aX _),vb]
 rw[e];have hpx:=(MP hp tg hx).2;have hlw:=(wB hp tg hW W.length (aX _)).1;split
 ·split
  ·split
   ·rename_i h;exact .inr ⟨rfl,rfl,fun _=>(Y9 hpx hlw).2 h⟩
   ·exact .inl rfl
  ·rename_i h;exact .inr ⟨rfl,rfl,fun h2=>absurd h2 h⟩
 ·exact .inl rfl
theorem Xn{W:ab}{x:Sc}{u:Int}(hW:∀st∈W,Aa pm st)(hx:Aa pm x)(h:Ds (W++[x]) u=false):Ds W u=false:=by
 cases hd:Ds W u with
 |false=>rfl|true=>
  unfold Ds at hd;rw[aL,ei]at hd;obtain⟨_,_,h3⟩:=wB hp tg hW W.length (aX _);have hf:=h3 hd.1;unfold Ds at h;rcases K3 hp tg hW hx with e|⟨e1,e2,e3⟩
  ·rw[e,hd.1,iB hf.1]at h;simp only[Bool.true_and,LB]at h;exact absurd hd.2 h
  ·rw[e2,e1,vb]at h;simp only[Bool.true_and,LB]at h;have:=e3 hd.1;rw[hf.2.1]at this;omega
theorem abU{W:ab}{x:Sc}{u:Int}(hW:∀st∈W,Aa pm st)(hx:Aa pm x)(h:Ds (W++[x]) u=true)(hi:(lL (W++[x]) (W++[x]).length).1≠W.length):lL (W++[x]) (W++[x]).length=lL W W.length/\Ds W u=true:=by
 rcases K3 hp tg hW hx with e|⟨e1,_,_⟩
 ·refine⟨e,?_⟩;unfold Ds at h⊢;rw[e,aL]at h;have hf:=(wB hp tg hW W.length (aX _)).2.2 h.1;rw[iB hf.1]at h;rw[aL];exact h
 ·exact absurd e1 hi
end
theorem TH{r:ab}(h:r.length=30):∃a0 a1 a2 a3 a4 a5 a6 a7 a8 a9 Fb GC a12 FO Ly Lz Kd a17 PZ P0 a20 a21 a22 a23 a24 a25 a26 P1 a28 a29,r=[a0,a1,a2,a3,a4,a5,a6,a7,a8,a9,Fb,GC,a12,FO,Ly,Lz,Kd,a17,PZ,P0,a20,a21,a22,a23,a24,a25,a26,P1,a28,a29]:=by
 match r,h with
 |[a0,a1,a2,a3,a4,a5,a6,a7,a8,a9,Fb,GC,a12,FO,Ly,Lz,Kd,a17,PZ,P0,a20,a21,a22,a23,a24,a25,a26,P1,a28,a29],_=>exact⟨a0,a1,a2,a3,a4,a5,a6,a7,a8,a9,Fb,GC,a12,FO,Ly,Lz,Kd,a17,PZ,P0,a20,a21,a22,a23,a24,a25,a26,P1,a28,a29,rfl⟩
section
variable{pm:Pm}(hp:dG pm){N:Nat}(tg:dQ am (II pm) (JJ pm N) Gf eN)
include hp tg
theorem Ei{nm S lk:Sc}{W:ab}(hW:II pm 76 (.l W)){rs:ab}(h:Gf 18 [nm,S,lk,.l W]=some rs)(hb:(rs.getD 11 (.i 0)).bool=true):
 (lL W W.length).2.1=true/\(∃z,Gf 16 [nm,S,lk,.l W]=some [z]/\z.int=0)/\∃ss W' z0,Gf 38 ([nm,S,lk]++aU 18 (W.getD (lL W W.length).1 (.i 0)))=some ss/\ss.length=30/\(ss.getD 29 (.i 0)).bool=true/\
   Gf 40 [.l (W.set (lL W W.length).1 (.l (ss.take 18))),ss.getD 27 (.i 0)]=some [W',z0]/\z0.int=0/\rs=[W']++(ss.drop 18).take 9++[ss.getD 28 (.i 0),.b true]:=by
 have fC:=oT hp hW
 have hl:W.length<=10000000:=bI (vQ (k:=76) (by decide+kernel) hW) (by decide+kernel)
 have hn:=Zp hp tg fC hl
 obtain⟨_,_,h3⟩:=wB hp tg fC W.length (aX _)
 have fm:=dx hp hW
 rw[L6]at h
 replace h:pq.aF Gf [nm,S,lk,.l W] []=some rs:=h
 have bad:∀{a:ab}{C:ab->Prop},(a.getD 11 (.i 0)).bool=false->ar (some a) (fun rs=>(rs.getD 11 (.i 0)).bool=true->C rs):=fun ha=>ar.some fun e=>by rw[ha]at e;cases e
 suffices hq:ar (pq.aF Gf [nm,S,lk,.l W] []) (fun rs=>(rs.getD 11 (.i 0)).bool=true->(lL W W.length).2.1=true/\(∃z,Gf 16 [nm,S,lk,.l W]=some [z]/\z.int=0)/\∃ss W' z0,Gf 38 ([nm,S,lk]++aU 18 (W.getD (lL W W.length).1 (.i 0)))=some ss/\ss.length=30/\(ss.getD 29 (.i 0)).bool=true/\Gf 40 [.l (W.set (lL W W.length).1 (.l (ss.take 18))),ss.getD 27 (.i 0)]=some [W',z0]/\z0.int=0/\rs=[W']++(ss.drop 18).take 9++[ss.getD 28 (.i 0),.b true])from hq _ h hb
 generalize hi:(lL W W.length).1=i at hn h3⊢
 generalize hf:(lL W W.length).2.1=f at hn h3⊢
 unfold pq
 simp only[hn,iT,aT,Nat.reduceAdd]
 refine ar.ite (fun _=>bad rfl) fun hf1=> ?_
 have hf2:f=true:=by simpa using hf1
 refine ar.call fun r hc hr=> ?_
 obtain⟨y,rfl⟩:=bL hr
 simp only[aT]
 refine ar.ite (fun _=>bad rfl) fun h0=> ?_
 repeat(refine ar.aa fun _=> ?_)
 refine ar.call fun r DH hr=> ?_
 obtain⟨a0,a1,a2,a3,a4,a5,a6,a7,a8,a9,Fb,GC,a12,FO,Ly,Lz,Kd,a17,PZ,P0,a20,a21,a22,a23,a24,a25,a26,P1,a28,a29,rfl⟩:=TH hr
 simp only[fm,aT,Nat.reduceAdd]
 refine ar.ite (fun _=>bad rfl) fun SY=> ?_
 repeat(refine ar.aa fun _=> ?_)
 refine ar.call fun r Jj hr=> ?_
 obtain⟨w',z0,rfl⟩:∃a b,r=[a,b]:=by
  match r,hr with
  |[a,b],_=>exact⟨a,b,rfl⟩
 simp only[aT]
 refine ar.ite (fun _=>bad rfl) fun hz=> ?_
 refine ar.some fun _=>⟨hf2,⟨y,hc,by simpa using h0⟩,_,w',z0,DH,rfl,by simpa[U1.ev]using SY,?_,by simpa using hz,rfl⟩
 simp only[E3,om]at Jj
 exact Jj
theorem BG{nm lk:Sc}{S W:ab}(hl:W.length<=10000000){z:Sc}(h:Gf 16 [nm,.l S,lk,.l W]=some [z])(hz:z.int=0):(∃z,Gf 33 [nm,.l S,lk]=some [z]/\z.int=0)/\W.length=S.length/\
 (∀i,i<W.length->((W.getD i (.i 0)).list.getD 0 (.i 0)).int=i)/\∀i,i<W.length->∃z,Gf 35 ([nm,.l S,lk]++aU 18 (W.getD i (.i 0)))=some [z]/\z.int=0:=by
 rw[JG]at h
 replace h:nL.aF Gf [nm,.l S,lk,.l W] []=some [z]:=h
 suffices hq:ar (nL.aF Gf [nm,.l S,lk,.l W] []) (GA _)from hq _ h hz
 unfold nL
 simp only[iT,aT]
 refine ar.call fun r hc hr=> ?_
 obtain⟨y,rfl⟩:=bL hr
 simp only[aT]
 refine ar.ite (fun h=>df h) fun h0=> ?_
 refine ar.ite (fun _=>aP (by decide)) fun h1=> ?_
 refine ar.loop (fun w=>∃i:Nat,w=[.i (i:Int)]/\i<=W.length/\∀j,j<i->((W.getD j (.i 0)).list.getD 0 (.i 0)).int=j) ⟨0,rfl,xA _,fun j h=>by omega⟩ ?_
 rintro w rec ⟨i,rfl,hi,hI⟩ hr
 have w1:=cM (i:=i) (by omega)
 simp only[w1,aT]
 refine ar.ite (fun bi=> ?_) fun xj=> ?_
 ·repeat(refine ar.aa fun _=> ?_)
  refine ar.ite (fun _=>aP (by decide)) fun he=> ?_;refine hr _ ⟨i+1,rfl,by omega,fun j hj=> ?_⟩;rcases qe.1 hj with hj|rfl
  ·exact hI j hj
  ·simpa using he
 ·refine ar.loop (fun w=>∃i:Nat,w=[.i (i:Int)]/\i<=W.length/\∀j,j<i->∃z,Gf 35 ([nm,.l S,lk]++aU 18 (W.getD j (.i 0)))=some [z]/\z.int=0) ⟨0,rfl,xA _,fun j h=>by omega⟩ ?_;rintro w tp ⟨k,rfl,hk,hK⟩ oa;have w2:=cM (i:=k) (by omega);simp only[w2,aT];refine ar.ite (fun bi=> ?_) fun alY=> ?_
  ·repeat(refine ar.aa fun _=> ?_)
   refine ar.call fun r DH HM=> ?_;obtain⟨y2,rfl⟩:=bL HM;simp only[aT];refine ar.ite (fun h=>df h) fun h2=> ?_;refine oa _ ⟨k+1,rfl,by omega,fun j hj=> ?_⟩;rcases qe.1 hj with hj|rfl
   ·exact hK j hj
   ·exact⟨y2,DH,by simpa using h2⟩
  ·exact pV ⟨⟨y,hc,by simpa using h0⟩,by omega,fun j hj=>hI j (by omega),fun j hj=>hK j (by omega)⟩
end
def isV(k:Nat):Ex->Bool
 | .v m=>Nat.beq m k|_=>false
theorem DW:∀{e:Ex}{k:Nat},isV k e=true->e= .v k
 | .v m,k,h=>by rw[fh h]
def isLen(k:Nat):Ex->Bool
 | .u .len (.v m)=>Nat.beq m k|_=>false
theorem OQ:∀{e:Ex}{k:Nat},isLen k e=true->e= .u .len (.v k)
 | .u f y,k,h=>by
   cases f<;>try(cases h;done)
   cases y<;>try(cases h;done)
   rw[fh h]
def Ez(p:Nat)(q:Option Nat):Ex->Bool
 | .v k=> !Nat.beq k p| .u _ a=>Ez p q a| .o f a b=>(Ez p q a&&Ez p q b)||(match q with
   |none=>false|some m=>(decide (f= .idx)&&isV p a&&isV m b)||(decide (f= .lt)&&isV m a&&isLen p b)||(decide (f= .le)&&isLen p a&&isV m b))
 | .t _ a b c=>Ez p q a&&Ez p q b&&Ez p q c|_=>true
def We(p:Nat)(q:Option Nat)(tab:bH):T bZ->Bool
 | .ah es=>es.all (Ez p q)| .fail _=>true| .ite c a b=>Ez p q c&&(We p q tab a&&We p q tab b)| .aa c k=>Ez p q c&&We p q tab k| .call f es n k=>(es.all (Ez p q)||(tab.any (Nat.beq f)&&(isV p (es.getD p .nil)&&(es.set p .nil).all (Ez p q))))&&We p q tab k| .loop jH body=>jH.all (Ez p q)&&We p q tab body| .next _ vs=>vs.all (Ez p q)
section
variable{S:ab}{x:Sc}{p:Nat}{q:Option Nat}
theorem pW{ρ:ab}{B:Sc}{k:Nat}(h:k≠p):(ρ.set p B).getD k (.i 0)=ρ.getD k (.i 0):=by rw[cE,cE,getElem?_set_ne (Ne.symm h)]
theorem jz{ρ:ab}{B:Sc}(h:p<ρ.length):(ρ.set p B).getD p (.i 0)=B:=by rw[cE,getElem?_set_self h];rfl
def QOk(S:ab)(p:Nat)(q:Option Nat)(ρ:ab):Prop:=∀m,q=some m->m<ρ.length/\m≠p/\0<=(ρ.getD m (.i 0)).int/\(ρ.getD m (.i 0)).int<S.length
theorem QOk.app{ρ v:ab}(h:QOk S p q ρ):QOk S p q (ρ++v):=fun m hm=>by
 obtain⟨h1,h2,h3,h4⟩:=h m hm;have e:(ρ++v).getD m (.i 0)=ρ.getD m (.i 0):=by rw[cE,cE,gA h1]
 exact⟨by rw[fR];omega,h2,by rw[e];exact h3,by rw[e];exact h4⟩
theorem sa{ρ:ab}(hl:p<ρ.length)(hp:ρ.getD p (.i 0)= .l S)(hq:QOk S p q ρ):∀{e:Ex},Ez p q e=true->e.ev (ρ.set p (.l (S++[x])))=e.ev ρ
 | .v k,h=>pW (by intro e;subst e;simp only[Ez,BK,Bool.not_true]at h;cases h)| .i _,_=>rfl| .b _,_=>rfl| .s _,_=>rfl| .nil,_=>rfl| .u f a,h=>by show f.ev _=f.ev _;rw[sa hl hp hq (e:=a) h]
 | .t f a b c,h=>by simp only[Ez,aL]at h;show f.ev _ _ _=f.ev _ _ _;rw[sa hl hp hq h.1.1,sa hl hp hq h.1.2,sa hl hp hq h.2]
 | .o f a b,h=>by
   simp only[Ez,bY,aL]at h;rcases h with h|h
   ·show f.ev _ _=f.ev _ _;rw[sa hl hp hq h.1,sa hl hp hq h.2]
   ·cases q with
    |none=>cases h
    |some m=>
     obtain⟨_,h2,h3,h4⟩:=hq m rfl;simp only[bY,aL,ei]at h;rcases h with(⟨⟨rfl,ha⟩,hb⟩|⟨⟨rfl,ha⟩,hb⟩)|⟨⟨rfl,ha⟩,hb⟩
     ·rw[DW ha,DW hb];show((ρ.set p (.l (S++[x]))).getD p (.i 0)).list.getD ((ρ.set p (.l (S++[x]))).getD m (.i 0)).int.toNat (.i 0)=(ρ.getD p (.i 0)).list.getD (ρ.getD m (.i 0)).int.toNat (.i 0);rw[jz hl,pW h2,hp];exact iB (by omega)
     ·rw[DW ha,OQ hb];show Sc.b (decide (((ρ.set p (.l (S++[x]))).getD m (.i 0)).int<(((ρ.set p (.l (S++[x]))).getD p (.i 0)).list.length:Int)))=Sc.b (decide ((ρ.getD m (.i 0)).int<((ρ.getD p (.i 0)).list.length:Int)));rw[jz hl,pW h2,hp];rw[lP (by show _<((S++[x]).length:Int);rw[fR];omega),show decide ((ρ.getD m (.i 0)).int<((Sc.l S).list.length:Int))=true from lP h4]
     ·rw[OQ ha,DW hb];show Sc.b (decide ((((ρ.set p (.l (S++[x]))).getD p (.i 0)).list.length:Int)<=((ρ.set p (.l (S++[x]))).getD m (.i 0)).int))=Sc.b (decide (((ρ.getD p (.i 0)).list.length:Int)<=(ρ.getD m (.i 0)).int));rw[jz hl,pW h2,hp];rw[decide_eq_false (by show ¬((S++[x]).length:Int)<=_;rw[fR];omega),show decide (((Sc.l S).list.length:Int)<=(ρ.getD m (.i 0)).int)=false from decide_eq_false (by show ¬(S.length:Int)<=_;omega)]
theorem uk{ρ:ab}(hl:p<ρ.length)(hp:ρ.getD p (.i 0)= .l S)(hq:QOk S p q ρ){es:bZ}(h:es.all (Ez p q)=true):es.map (Ex.ev (ρ.set p (.l (S++[x]))))=es.map (Ex.ev ρ):=
 ND fun e he=>sa hl hp hq (lO.1 h e he)
theorem u6{ρ v:ab}(hl:p<ρ.length):(ρ++v).getD p (.i 0)=ρ.getD p (.i 0):=by rw[cE,cE,gA hl]
variable{Γ1 Γ2:Nat->dK}{tab:bH}(h1:∀f a r,Γ1 f a=some r->Γ2 f a=some r)
 (h2:∀f∈tab,∀a r,p<a.length->a.getD p (.i 0)= .l S->Γ1 f a=some r->Γ2 f (a.set p (.l (S++[x])))=some r)
include h1 h2
theorem wy:∀(t:T bZ)(ρ:ab)(K1 K2:List dK),We p q tab t=true->p<ρ.length->ρ.getD p (.i 0)= .l S->QOk S p q ρ->K1.length=K2.length->(∀(l:Nat)(k1 k2:dK),K1[l]? =some k1->K2[l]? =some k2->∀v r,k1 v=some r->k2 v=some r)->∀r,t.aF Γ1 ρ K1=some r->t.aF Γ2 (ρ.set p (.l (S++[x]))) K2=some r
 | .ah es,ρ,K1,K2,hc,hl,hp,hq,hK,hk,r,h=>by simp only[T.aF]at h⊢;rw[uk hl hp hq hc];exact h
 | .fail _,ρ,K1,K2,hc,hl,hp,hq,hK,hk,r,h=>by simp[T.aF]at h
 | .ite c a b,ρ,K1,K2,hc,hl,hp,hq,hK,hk,r,h=>by
   simp only[We,aL]at hc;simp only[T.aF]at h⊢;rw[sa hl hp hq hc.1];split
   ·rename_i hh;rw[aA hh]at h;exact wy a ρ K1 K2 hc.2.1 hl hp hq hK hk r h
   ·rename_i hh;rw[aE hh]at h;exact wy b ρ K1 K2 hc.2.2 hl hp hq hK hk r h
 | .aa c k,ρ,K1,K2,hc,hl,hp,hq,hK,hk,r,h=>by
   simp only[We,aL]at hc;simp only[T.aF]at h⊢;rw[sa hl hp hq hc.1];split
   ·rename_i hh;rw[aA hh]at h;exact wy k ρ K1 K2 hc.2 hl hp hq hK hk r h
   ·rename_i hh;rw[aE hh]at h;cases h
 | .call f es n k,ρ,K1,K2,hc,hl,hp,hq,hK,hk,r,h=>by
   simp only[We,aL]at hc;simp only[T.aF]at h⊢;cases hg:Γ1 f (es.map (Ex.ev ρ))with
   |none=>rw[hg]at h;cases h
   |some rs=>
    have hg2:Γ2 f (es.map (Ex.ev (ρ.set p (.l (S++[x])))))=some rs:=by
     have zM:=hc.1;simp only[bY,aL]at zM;rcases zM with ha|⟨ht,hv,ha⟩
     ·rw[uk hl hp hq ha];exact h1 f _ _ hg
     ·obtain⟨f',hf,he⟩:=fS.1 ht;rw[fh he]at hg⊢;have FA:=DW hv;have iQ:p<es.length:=by
       by_cases hh:p<es.length
       ·exact hh
       ·rw[cE,mB (by omega)]at FA;cases FA
      have e1:es.map (Ex.ev (ρ.set p (.l (S++[x]))))=(es.map (Ex.ev ρ)).set p (.l (S++[x])):=by
       have h3:=uk (x:=x) hl hp hq ha;apply f9;intro i;by_cases hi:i=p
       ·subst hi;rw[vR,getElem?_set_self (by rw[Ab];exact iQ)];rw[cE]at FA;cases hx:es[i]? with
        |none=>rw[hx]at FA;cases FA
        |some e=>
         rw[hx]at FA;cases FA
         show some _=some _;rw[show(Ex.v i).ev (ρ.set i (.l (S++[x])))=(ρ.set i (.l (S++[x]))).getD i (.i 0)from rfl,jz hl]
       ·have h4:=congrArg (fun l=>l[i]?) h3;simp only[vR,getElem?_set_ne (Ne.symm hi)]at h4;rw[getElem?_set_ne (Ne.symm hi),vR,vR];exact h4
      rw[e1];refine h2 f' hf _ _ (by rw[Ab];exact iQ) ?_ hg;rw[cE,vR];rw[cE]at FA;cases hx:es[p]? with
      |none=>rw[hx]at FA;cases FA
      |some e=>
       rw[hx]at FA;cases FA
       exact hp
    rw[hg]at h;rw[hg2];simp only at h⊢;split
    ·rename_i hh;rw[aA hh]at h;have:=wy k (ρ++rs) K1 K2 hc.2 (by rw[fR];omega) (by rw[u6 hl];exact hp) hq.app hK hk r h;rw[set_append_left _ _ hl]at this;exact this
    ·rename_i hh;rw[aE hh]at h;cases h
 | .loop jH body,ρ,K1,K2,hc,hl,hp,hq,hK,hk,r,h=>by
   simp only[We,aL]at hc;simp only[T.aF]at h⊢;rw[uk hl hp hq hc.1];have key:∀n v r,cH (fun rec v=>body.aF Γ1 (ρ++v) (K1++[rec])) n v=some r->cH (fun rec v=>body.aF Γ2 (ρ.set p (.l (S++[x]))++v) (K2++[rec])) n v=some r:=by
    intro n;induction n with
    |zero=>intro v r h;cases h
    |succ n ih=>
     intro v r h;simp only[cH]at h⊢;have:=wy body (ρ++v) (K1++[cH (fun rec v=>body.aF Γ1 (ρ++v) (K1++[rec])) n]) (K2++[cH (fun rec v=>body.aF Γ2 (ρ.set p (.l (S++[x]))++v) (K2++[rec])) n]) hc.2 (by rw[fR];omega) (by rw[u6 hl];exact hp) hq.app (by simp[hK]) ?_ r h
     ·rw[set_append_left _ _ hl]at this;exact this
     ·intro l k1 k2 e1 e2 v r hv;by_cases bi:l<K1.length
      ·rw[gA bi]at e1;rw[gA (by omega)]at e2;exact hk l k1 k2 e1 e2 v r hv
      ·rw[lR (by omega)]at e1;rw[lR (by omega)]at e2;by_cases hz:l=K1.length
       ·rw[show l-K1.length=0 by omega]at e1;rw[show l-K2.length=0 by omega]at e2;cases e1;cases e2
        exact ih v r hv
       ·rw[mB (by simp;omega)]at e1;cases e1
   exact key fg _ r h
 | .next l vs,ρ,K1,K2,hc,hl,hp,hq,hK,hk,r,h=>by
   simp only[T.aF]at h⊢;rw[uk hl hp hq hc];cases e1:K1[l]? with
   |none=>rw[e1]at h;cases h
   |some k1=>
    rw[e1]at h;have bi:l<K2.length:=by
     rw[<-hK];by_cases hh:l<K1.length
     ·exact hh
     ·rw[mB (by omega)]at e1;cases e1
    rw[cB bi];exact hk l k1 _ e1 (cB bi) _ r h
end
def nmB(s w:Sc):Bool:=(s.list.getD 0 (.i 0)).str.toList==w.str.toList
def xK(w:Sc):ab->Nat->Int
 |[],_=> -1|s::S,i=>if nmB s w=true then i else xK w S (i+1)
def QE{w:Sc}:∀(S:ab)(i:Nat),xK w S i= -1\/((i:Int)<=xK w S i/\xK w S i<i+S.length)
 |[],_=> .inl rfl|s::S,i=>by
  unfold xK;split
  ·right;rw[AM];omega
  ·rcases QE (w:=w) S (i+1)with h|h
   ·exact .inl h
   ·right;rw[AM];omega
def F1{w x:Sc}:∀(S:ab)(i:Nat),0<=xK w S i->xK w (S++[x]) i=xK w S i
 |[],_,h=>by simp[xK]at h
 |s::S,i,h=>by
  unfold xK at h;rw[Fe];unfold xK;split
  ·rfl
  ·rename_i hh;rw[aE hh]at h;exact F1 S (i+1) h
def za{a b c w:Sc}{S:ab}(hl:S.length<=10000001):Gf 32 [a,b,.l S,c,w]=some [.i (xK w S 0)]:=by
 suffices h:bW (uF.aF Gf [a,b,.l S,c,w] []) fun r=>r=[.i (xK w S 0)]by
  obtain⟨r,h1,rfl⟩:=h;rw[L3];exact h1
 unfold uF;rw[T.aF];refine dv (S:=Unit) (fun i _=>[.i (i:Int)]) (fun i _=>xK w (S.drop i) i=xK w S 0) S.length (s:=()) rfl (by omega) rfl ?_ ?_
 ·intro i _ rec hi hI hr;have w1:=cM (i:=i) (by omega);have hd:S.getD i (.i 0)=S[i]:=by rw[cE,cB hi];rfl
  rw[xD hi,xK]at hI;simp only[w1,aT];repeat rw[aA (by omega)]
  rw[hd];by_cases hn:nmB S[i] w=true
  ·rw[aA hn]at hI;rw[aA (show(U2.seq.ev (S[i].list.getD 0 (.i 0)) w).bool=true from hn),hI];exact bW.some rfl
  ·rw[aE hn]at hI;rw[aE (show ¬(U2.seq.ev (S[i].list.getD 0 (.i 0)) w).bool=true from hn)];exact hr () hI
 ·intro _ rec hI;rw[drop_length]at hI;simp only[aT];rw[aE (by omega),<-hI];exact bW.some rfl
end Go.Proofs.YtnfambhakdnncaaGreatDoor
