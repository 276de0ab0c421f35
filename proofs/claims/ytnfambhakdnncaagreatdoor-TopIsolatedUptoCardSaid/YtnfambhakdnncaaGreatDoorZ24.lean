/-
  A part of the proof of TopIsolated: Ni3, Cm1, Cm2, Cm3, Hi3, Cm4, Ni4, Ni5, Ni6, Ni7, Ni8, Ni9, Hi4, Hi5, Hi6, Hi7, Hi8, Hi9, Ni10, Cm5, Cm6, Cm7, Cm8, Cm9, Cm10, Ni11, Tp1.
-/
import Derived.Test.YtnfambhakdnncaaGreatDoorZ23
namespace Go.Proofs.YtnfambhakdnncaaGreatDoor
set_option linter.all false
set_option maxRecDepth 1000000
set_option maxHeartbeats 80000000
open List Nat Int Go.RowKit
def XL{n key:Nat}{l r:ab}(h:gN Ay (A8 nl) n key l=some r):Gf key l=some r:=(DB Ay (A8 nl) key).2.2 n l r h
def adB{key:Nat}{l r:ab}(h:Gf key l=some r):∃n,gN Ay (A8 nl) n key l=some r:=(DB Ay (A8 nl) key).2.1 l r h
def Hb{Γ:Nat->dK}{f n:Nat}{es:bZ}{k:T bZ}{ρ r:ab}{K:List dK}(h:(T.call f es n k).aF Γ ρ K=some r):∃rs,Γ f (es.map (Ex.ev ρ))=some rs/\rs.length=n/\k.aF Γ (ρ++rs) K=some r:=by
 rw[T.aF]at h;cases hg:Γ f (es.map (Ex.ev ρ))with
 |none=>rw[hg]at h;cases h
 |some rs=>
  rw[hg]at h;simp only at h;split at h
  ·rename_i hh;exact⟨rs,rfl,hh,h⟩
  ·cases h
def GY{Γ:Nat->dK}{f n:Nat}{es:bZ}{k:T bZ}{ρ rs:ab}{K:List dK}(h:Γ f (es.map (Ex.ev ρ))=some rs)(hn:rs.length=n):(T.call f es n k).aF Γ ρ K=k.aF Γ (ρ++rs) K:=by rw[T.aF,h];simp only;rw[aA hn]
def N7{Γ:Nat->dK}{c:Ex}{k:T bZ}{ρ r:ab}{K:List dK}(h:(T.aa c k).aF Γ ρ K=some r):(c.ev ρ).bool=true/\k.aF Γ ρ K=some r:=by
 rw[T.aF]at h;split at h
 ·rename_i hh;exact⟨hh,h⟩
 ·cases h
def scK:bH:=[101,190,271,272,273,274,275,276,277,323,319]
section
variable{S:ab}{x:Sc}
abbrev NiF(S:ab)(x:Sc)(n:Nat):Prop:=∀f∈scK,∀a r,2<a.length->a.getD 2 (.i 0)= .l S->gN Ay (A8 nl) n f a=some r->Gf f (a.set 2 (.l (S++[x])))=some r
def ahL{key:Nat}(hc:((fd key).any fun q=>We 2 none scK q.2)=true)(n:Nat)(ih:NiF S x n)(a r:ab)(hl:2<a.length)(hp:a.getD 2 (.i 0)= .l S)(h:gN Ay (A8 nl) (n+1) key a=some r):Gf key (a.set 2 (.l (S++[x])))=some r:=by
 cases hk:fd key with
 |none=>rw[hk]at hc;cases hc
 |some q=>
 rw[hk]at hc;rw[QI hk]at h;rw[aJ hk,BO];split at h
 ·rename_i hh;rw[aA hh];exact wy (p:=2) (q:=none) (Γ1:=gN Ay (A8 nl) n) (fun f a r h=>XL h) (fun f hf a r hl hp h=>ih f hf a r hl hp h) _ a [] [] hc hl hp (nofun) rfl (fun l k1 k2 e=>by simp at e) r h
 ·cases h
def acH(hS:S.length<=10000000)(n:Nat)(ih:NiF S x n)(a r:ab)(hl:2<a.length)(hp:a.getD 2 (.i 0)= .l S)(h:gN Ay (A8 nl) (n+1) 275 a=some r):Gf 275 (a.set 2 (.l (S++[x])))=some r:=by
 rw[QI (w:=41) (t:=eE) (by kernel_rfl)]at h;rw[pH,BO];split at h
 case isFalse=>cases h
 rename_i hh;rw[aA hh];unfold eE at h⊢;obtain⟨rs,h1,h2,h3⟩:=Hb h;have e1:=XL h1;have ea:[(Ex.v 0),(.v 1),(.v 2),(.v 3),(.v 22)].map (Ex.ev a)=[a.getD 0 (.i 0),a.getD 1 (.i 0),.l S,a.getD 3 (.i 0),a.getD 22 (.i 0)]:=by rw[<-hp];rfl
 have eb:[(Ex.v 0),(.v 1),(.v 2),(.v 3),(.v 22)].map (Ex.ev (a.set 2 (.l (S++[x]))))=[a.getD 0 (.i 0),a.getD 1 (.i 0),.l (S++[x]),a.getD 3 (.i 0),a.getD 22 (.i 0)]:=by show[(a.set 2 (.l (S++[x]))).getD 0 (.i 0),(a.set 2 (.l (S++[x]))).getD 1 (.i 0),(a.set 2 (.l (S++[x]))).getD 2 (.i 0),(a.set 2 (.l (S++[x]))).getD 3 (.i 0),(a.set 2 (.l (S++[x]))).getD 22 (.i 0)]=_;rw[pW (by decide),pW (by decide),jz hl,pW (by decide),pW (by decide)]
 rw[ea,za (by omega)]at e1;cases e1
 have hlen:(a++[Sc.i (xK (a.getD 22 (.i 0)) S 0)]).getD 41 (.i 0)= .i (xK (a.getD 22 (.i 0)) S 0):=by rw[cE,lR (by omega),hh];rfl
 have h0:0<=xK (a.getD 22 (.i 0)) S 0:=by obtain⟨RC,_,oa,h5⟩:=Hb h3;have h6:=(N7 h5).1;have h7:(((Ex.o .le (.i 0) (.v 41)).ev (a++[Sc.i (xK (a.getD 22 (.i 0)) S 0)]++RC))).bool=decide (0<=((a++[Sc.i (xK (a.getD 22 (.i 0)) S 0)]++RC).getD 41 (.i 0)).int):=rfl;rw[h7,u6 (by rw[fR,BM,hh];omega),hlen]at h6;exact fv h6
 have h8:Gf 32 ([(Ex.v 0),(.v 1),(.v 2),(.v 3),(.v 22)].map (Ex.ev (a.set 2 (.l (S++[x])))))=some [.i (xK (a.getD 22 (.i 0)) S 0)]:=by rw[eb,za (by rw[fR,BM];omega),F1 S 0 h0]
 rw[GY (n:=1) h8 rfl];have h9:=wy (x:=x) (p:=2) (q:=some 41) (Γ1:=gN Ay (A8 nl) n) (Γ2:=Gf) (tab:=scK) (fun f a r h=>XL h) (fun f hf a r hl hp h=>ih f hf a r hl hp h) _ _ [] [] (by decide+kernel) (by rw[fR];omega) (by rw[u6 hl];exact hp) (fun m hm=>by
  cases hm
  rw[hlen];rcases QE (w:=a.getD 22 (.i 0)) S 0 with h|h
  ·omega
  ·exact⟨by rw[fR,BM,hh];omega,by decide,h0,by show xK _ S 0<_;omega⟩) rfl (fun l k1 k2 e=>by simp at e) r h3
 rw[set_append_left _ _ hl]at h9;exact h9
def Z4:scK.all (fun f=>(fd f).isSome&&(Nat.beq f 275||(fd f).any fun q=>We 2 none scK q.2))=true:=by decide+kernel
def ahK(hS:S.length<=10000000):∀n,NiF S x n:=by
 intro n;induction n with
 |zero=>
  intro f hf a r _ _ h;have:=lO.1 Z4 f hf;rw[aL]at this;rw[alm this.1]at h;cases h
 |succ n ih=>
  intro f hf a r hl hp h;have:=lO.1 Z4 f hf;rw[aL,bY]at this;rcases this.2 with e|e
  ·cases fh e
   exact acH hS n ih a r hl hp h
  ·exact ahL e n ih a r hl hp h
def acG(hS:S.length<=10000000){a r:ab}(hl:2<a.length)(hp:a.getD 2 (.i 0)= .l S)(h:Gf 101 a=some r):Gf 101 (a.set 2 (.l (S++[x])))=some r:=by obtain⟨n,h⟩:=adB h;exact ahK hS n 101 (by simp[scK]) a r hl hp h
end
inductive Lm:Nat->ab->Prop where
 |nil:Lm 0 []
 |cons {s:Sc}{xs:ab}{c1 c2 c0:Nat}:Lm c1 (s.list.getD 19 (.i 0)).list->Lm c2 (s.list.getD 20 (.i 0)).list->Lm c0 xs->Lm (1+c1+c2+c0) (s::xs)
def Lm.app{c d:Nat}{xs ys:ab}(h:Lm c xs)(g:Lm d ys):Lm (c+d) (xs++ys):=by
 induction h with
 |nil=>rw[eG];exact g|cons h1 h2 _ _ _ ih=>
  rw[td];exact .cons h1 h2 ih
def Lm.one{s:Sc}{c1 c2:Nat}(h1:Lm c1 (s.list.getD 19 (.i 0)).list)(h2:Lm c2 (s.list.getD 20 (.i 0)).list):Lm (1+c1+c2) [s]:=by have:=Lm.cons h1 h2 .nil;simpa using this
def Lm.inv{c:Nat}{s:Sc}{xs:ab}(h:Lm c (s::xs)):∃c1 c2 c0,c=1+c1+c2+c0/\Lm c1 (s.list.getD 19 (.i 0)).list/\Lm c2 (s.list.getD 20 (.i 0)).list/\Lm c0 xs:=by
 cases h with|cons h1 h2 h3=>exact⟨_,_,_,rfl,h1,h2,h3⟩
def Lm.len{c:Nat}{xs:ab}(h:Lm c xs):xs.length<=c:=by
 induction h with|nil=>exact aX _|cons _ _ _ _ _ ih=>rw[AM];omega
def Lm.zero{c:Nat}(h:Lm c []):c=0:=by cases h;rfl
def R5{xs:ab}{i:Nat}(h:i<xs.length):xs.take (i+1)=xs.take i++[xs.getD i (.i 0)]:=by rw[take_add_one,cB h,cE,cB h];rfl
def aip(x:Sc):((U2.ev .le (.i 0) x).bool=true)=(0<=x.int):=propext ⟨fun h=>fv h,fun h=>lP h⟩
def RU(v:Sc):Sc:=U2.ev (.sub .i64) v (.i 1)
def aam{v:Sc}(h1: -1000000<=v.int)(h2:v.int<=1000000):(RU v).int=v.int-1:=by show IntKind.i64.wrap (v.int-1)=_;rw[iO]<;>omega
def ahB:∀n x v r,gN Ay (A8 nl) n 11 [x,v]=some r->0<=(r.getD 0 (.i 0)).int->v.int<=1000000->∃c:Nat,Lm c x.list/\(r.getD 0 (.i 0)).int+c=v.int:=by
 intro n;induction n with
 |zero=>
  intro x v r h;rw[alm (by kernel_rfl)]at h;cases h
 |succ n ih=>
  intro x v0 r h h0 Fy;rw[QI (w:=2) (t:=gQ) (by kernel_rfl)]at h;replace h:gQ.aF (gN Ay (A8 nl) n) [x,v0] []=some r:=h;suffices hq:ar (gQ.aF (gN Ay (A8 nl) n) [x,v0] []) (fun r=>0<=(r.getD 0 (.i 0)).int->∃c:Nat,Lm c x.list/\(r.getD 0 (.i 0)).int+c=v0.int)from hq _ h h0;generalize gN Ay (A8 nl) n=Γ at ih;unfold gQ;rw[T.aF];refine ar.loop (fun w=>∃(i:Nat)(v:Sc),w=[v,.i (i:Int)]/\i<=x.list.length/\(0<=v.int->∃d:Nat,Lm d (x.list.take i)/\v.int+d=v0.int)) ⟨0,v0,rfl,xA _,fun _=>⟨0,.nil,by simp⟩⟩ ?_;rintro w rec ⟨i,v,rfl,hi,hI⟩ hr;by_cases bi:i<x.list.length
  case neg=>
   have:i=x.list.length:=by omega
   subst this;simp only[aT];refine ar.ite (fun h=>absurd h (by omega)) fun _=> ?_;refine ar.some fun h=> ?_;have:=hI h;rw[take_length]at this;exact this
  simp only[aip,aT];refine ar.ite (fun _=> ?_) fun h=>absurd (by omega) h;refine ar.ite (fun hv=> ?_) fun hv=>ar.some fun h=>absurd h hv;obtain⟨d,hd,he⟩:=hI hv;have hid:=hd.len;rw[iW]at hid;have w1:=cM (i:=i) (by omega);repeat(refine ar.aa fun _=> ?_)
  have hs:(RU v).int=v.int-1:=aam (by omega) (by omega);have Wo:U2.ev (.sub .i64) v (.i 1)=RU v:=rfl;have nxt:∀(u:Sc),(0<=u.int->∃c1 c2:Nat,Lm c1 ((x.list.getD i (.i 0)).list.getD 19 (.i 0)).list/\Lm c2 ((x.list.getD i (.i 0)).list.getD 20 (.i 0)).list/\u.int+c1+c2=(RU v).int)->ar (rec [u,.i ((i+1:Nat):Int)]) (fun r=>0<=(r.getD 0 (.i 0)).int->∃c:Nat,Lm c x.list/\(r.getD 0 (.i 0)).int+c=v0.int):=by intro u hu;refine hr _ ⟨i+1,u,rfl,bi,fun h=> ?_⟩;obtain⟨c1,c2,g1,g2,g3⟩:=hu h;refine⟨d+(1+c1+c2),?_,by omega⟩;rw[R5 bi];exact hd.app (.one g1 g2)
  refine ar.loop (fun w=>∃u:Sc,w=[u]) ⟨_,rfl⟩ ?_;rintro w tp ⟨u,rfl⟩ oa;simp only[Wo,w1,aT];refine ar.ite (fun _=> ?_) fun _=> ?_
  ·refine ar.ite (fun h1=> ?_) fun h1=> ?_
   ·refine ar.ite (fun _=>ar.some fun h=>absurd h (by decide)) fun _=> ?_;repeat(refine ar.aa fun _=> ?_)
    refine ar.call fun r1 zM wj=> ?_;obtain⟨p,rfl⟩:=bL wj;simp only[aT];refine ar.ite (fun _=>ar.some fun h=>absurd h (by decide)) fun _=> ?_;exact oa _ ⟨_,rfl⟩
   ·refine ar.ite (fun h2=>absurd h2 h1) fun _=> ?_;refine ar.ite (fun h2=>absurd h2 h1) fun _=> ?_;exact nxt (RU v) fun hq=>absurd hq h1
  ·refine ar.ite (fun h1=> ?_) fun h1=> ?_
   ·repeat(refine ar.aa fun _=> ?_)
    refine ar.call fun r1 zM wj=> ?_;obtain⟨p,rfl⟩:=bL wj;simp only[aT];refine ar.ite (fun h2=> ?_) fun h2=> ?_
    ·repeat(refine ar.aa fun _=> ?_)
     refine ar.call fun r2 DH oa=> ?_;obtain⟨q,rfl⟩:=bL oa;simp only[aT];exact nxt q fun hq=>by obtain⟨c1,g1,g2⟩:=ih _ _ _ zM h2 (by omega);have g2:p.int+c1=(RU v).int:=g2;obtain⟨c2,g3,g4⟩:=ih _ _ _ DH hq (by omega);have g4:q.int+c2=p.int:=g4;exact⟨c1,c2,g1,g3,by omega⟩
    ·exact nxt p fun hq=>absurd hq h2
   ·refine ar.ite (fun h2=>absurd h2 h1) fun _=> ?_;exact nxt (RU v) fun hq=>absurd hq h1
def Y4{x v r:Sc}(h:Gf 11 [x,v]=some [r])(h0:0<=r.int)(hv:v.int<=1000000):∃c:Nat,Lm c x.list/\r.int+c=v.int:=by obtain⟨n,h⟩:=adB h;exact ahB n x v [r] h h0 hv
def Lit(S:ab):Prop:=∀s∈S,∀t∈(s.list.getD 10 (.i 0)).list,∃c:Nat,c<=80/\Lm c (t.list.getD 3 (.i 0)).list
def Ig{a b L:Sc}{S:ab}{r:Sc}(h:Gf 4 [a,b,.l S,L]=some [r])(h0:r.bool=true):Lit S/\S.length<=4:=by
 rw[xF]at h;replace h:fG.aF Gf [a,b,.l S,L] []=some [r]:=h;suffices hq:ar (fG.aF Gf [a,b,.l S,L] []) (OkB (Lit S/\S.length<=4))from hq _ h h0;unfold fG;simp only[aT];refine ar.ite (fun _=>gz) fun h4=> ?_;refine ar.ite (fun _=>gz) fun _=> ?_;refine ar.ite (fun _=>gz) fun _=> ?_;refine ar.loop (fun w=>∃(i:Nat)(v:Sc),w=[v,.i (i:Int)]/\i<=S.length/\v.int<=80/\∀j,j<i->∀t∈((S.getD j (.i 0)).list.getD 10 (.i 0)).list,∃c:Nat,c<=80/\Lm c (t.list.getD 3 (.i 0)).list) ⟨0,.i 80,rfl,xA _,by decide,fun j h=>by omega⟩ ?_;rintro w rec ⟨i,v,rfl,hi,hv,hI⟩ hr;have w1:=cM (i:=i) (by omega);simp only[w1,aT];refine ar.ite (fun bi=> ?_) fun xj=> ?_
 ·repeat(refine ar.aa fun _=> ?_)
  refine ar.ite (fun _=>gz) fun h6=> ?_;refine ar.ite (fun _=>gz) fun _=> ?_;refine ar.ite (fun _=>gz) fun _=> ?_;refine ar.ite (fun _=>gz) fun _=> ?_;refine ar.ite (fun _=>gz) fun _=> ?_;refine ar.ite (fun _=>gz) fun _=> ?_;refine ar.ite (fun _=>gz) fun _=> ?_;generalize hR:((S.getD i (.i 0)).list.getD 10 (.i 0)).list=R at*;refine ar.loop (fun w=>∃(k:Nat)(u:Sc),w=[u,.i (k:Int)]/\k<=R.length/\u.int<=80/\∀j,j<k->∃c:Nat,c<=80/\Lm c ((R.getD j (.i 0)).list.getD 3 (.i 0)).list) ⟨0,v,rfl,xA _,hv,fun j h=>by omega⟩ ?_;rintro w tp ⟨k,u,rfl,hk,hu,hJ⟩ oa;have w2:=cM (i:=k) (by omega);simp only[w2,hR,aT];refine ar.ite (fun xM=> ?_) fun alY=> ?_
  ·repeat(refine ar.aa fun _=> ?_)
   refine ar.call fun r1 zM wj=> ?_;obtain⟨p,rfl⟩:=bL wj;simp only[aT];refine ar.ite (fun _=>gz) fun hp=> ?_;have hp:¬p.int<0:=fun h=>hp (lP h);obtain⟨c,g1,g2⟩:=Y4 zM (by omega) (by omega);refine oa _ ⟨k+1,p,rfl,by omega,by omega,fun j hj=> ?_⟩;by_cases hjk:j<k
   ·exact hJ j hjk
   ·have:j=k:=by omega
    subst this;exact⟨c,by omega,g1⟩
  ·refine hr _ ⟨i+1,u,rfl,by omega,hu,fun j hj=> ?_⟩;by_cases EP:j<i
   ·exact hI j EP
   ·have:j=i:=by omega
    subst this;rw[hR];intro t ht;obtain⟨m,hm,rfl⟩:=gH ht;exact hJ m (by omega)
 ·refine ZA ⟨fun s hs=> ?_,by omega⟩;obtain⟨m,hm,rfl⟩:=gH hs;exact hI m (by omega)
def Me{r:ab}(h:r.length=5):∃p0 p1 p2 p3 p4,r=[p0,p1,p2,p3,p4]:=by
 match r,h with
 |[p0,p1,p2,p3,p4],_=>exact⟨p0,p1,p2,p3,p4,rfl⟩
def aat{r:ab}(h:r.length=2):∃p0 p1,r=[p0,p1]:=by
 match r,h with
 |[p0,p1],_=>exact⟨p0,p1,rfl⟩
def Fj{P s0 s1 s2 s3 s4 s5 s6 s7 s8 s9 Lc Ld Le Lf Lg Lh Li Lj Lk FJ FK:Sc}{r:ab}(h:Gf 99 [P,s0,s1,s2,s3,s4,s5,s6,s7,s8,s9,Lc,Ld,Le,Lf,Lg,Lh,Li,Lj,Lk,FJ,FK]=some r)(h0:(r.getD 21 (.i 0)).int=0):∃Uu z1 El z2,Gf 53 [P,FJ]=some [Uu,z1]/\z1.int=0/\Gf 53 [P,FK]=some [El,z2]/\z2.int=0/\r.getD 19 (.i 0)=Uu/\r.getD 20 (.i 0)=El:=by
 rw[AZ]at h;replace h:im.aF Gf [P,s0,s1,s2,s3,s4,s5,s6,s7,s8,s9,Lc,Ld,Le,Lf,Lg,Lh,Li,Lj,Lk,FJ,FK] []=some r:=h;suffices hq:ar (im.aF Gf [P,s0,s1,s2,s3,s4,s5,s6,s7,s8,s9,Lc,Ld,Le,Lf,Lg,Lh,Li,Lj,Lk,FJ,FK] []) (fun r=>(r.getD 21 (.i 0)).int=0->∃Uu z1 El z2,Gf 53 [P,FJ]=some [Uu,z1]/\z1.int=0/\Gf 53 [P,FK]=some [El,z2]/\z2.int=0/\r.getD 19 (.i 0)=Uu/\r.getD 20 (.i 0)=El)from hq _ h h0;unfold im;simp only[iT,aT];refine ar.call fun r1 zM wj=> ?_;obtain⟨p0,p1,p2,p3,p4,rfl⟩:=Me wj;simp only[aT];refine ar.ite (fun hz=>ar.some fun e=>absurd e hz) fun _=> ?_;refine ar.call fun r2 DH oa=> ?_;obtain⟨q0,q1,q2,q3,q4,rfl⟩:=Me oa;simp only[aT];refine ar.ite (fun hz=>ar.some fun e=>absurd e hz) fun _=> ?_;refine ar.loop (fun w=>∃u1 u2 u3,w=[u1,u2,u3]) ⟨_,_,_,rfl⟩ ?_;rintro w rec ⟨u1,u2,u3,rfl⟩ hr;simp only[aT];refine ar.ite (fun _=> ?_) fun _=> ?_
 ·repeat(refine ar.aa fun _=> ?_)
  refine ar.call fun r3 Jj HM=> ?_;obtain⟨t0,t1,t2,t3,t4,rfl⟩:=Me HM;simp only[aT];refine ar.ite (fun hz=>ar.some fun e=>absurd e hz) fun _=> ?_;repeat(refine ar.aa fun _=> ?_)
  exact hr _ ⟨_,_,_,rfl⟩
 ·refine ar.call fun r4 hc4 hr4=> ?_;obtain⟨y1,z1,rfl⟩:=aat hr4;simp only[aT];refine ar.ite (fun hz=>ar.some fun e=>absurd e hz) fun ux=> ?_;refine ar.call fun r5 hc5 hr5=> ?_;obtain⟨y2,z2,rfl⟩:=aat hr5;simp only[aT];refine ar.ite (fun hz=>ar.some fun e=>absurd e hz) fun nQ=> ?_;exact ar.some fun _=>⟨y1,z1,y2,z2,hc4,by simpa using ux,hc5,by simpa using nQ,rfl,rfl⟩
def ane{r:ab}(h:r.length=22):∃y0 y1 y2 y3 y4 y5 y6 y7 y8 y9 y10 y11 y12 y13 y14 y15 y16 y17 y18 Uu El y21,r=[y0,y1,y2,y3,y4,y5,y6,y7,y8,y9,y10,y11,y12,y13,y14,y15,y16,y17,y18,Uu,El,y21]:=by
 match r,h with
 |[y0,y1,y2,y3,y4,y5,y6,y7,y8,y9,y10,y11,y12,y13,y14,y15,y16,y17,y18,Uu,El,y21],_=>exact⟨y0,y1,y2,y3,y4,y5,y6,y7,y8,y9,y10,y11,y12,y13,y14,y15,y16,y17,y18,Uu,El,y21,rfl⟩
def W9:∀(c:Nat),c<=1000000->∀(P x y z:Sc),Lm c x.list->Gf 53 [P,x]=some [y,z]->z.int=0->Lm c y.list:=by
 intro c;induction c using Nat.strongRecOn with
 |_ c ih=>
 intro hc P x y z hL h h0;rw[AY]at h;replace h:il.aF Gf [P,x] []=some [y,z]:=h;suffices hq:ar (il.aF Gf [P,x] []) (fun r=>(r.getD 1 (.i 0)).int=0->Lm c (r.getD 0 (.i 0)).list)from hq _ h h0;have hlen:=hL.len;unfold il;rw[T.aF];refine ar.loop (fun w=>∃(i d e:Nat)(D:ab),w=[.l D,.i (i:Int)]/\i<=x.list.length/\Lm d D/\Lm e (x.list.drop i)/\d+e=c) ⟨0,0,c,[],rfl,xA _,.nil,by rw[Ki];exact hL,by omega⟩ ?_;rintro w rec ⟨i,d,e,D,rfl,hi,hD,hE,he⟩ hr;have w1:=cM (i:=i) (by omega);simp only[w1,iT,aT];refine ar.ite (fun bi=> ?_) fun xj=> ?_
 ·have bi:i<x.list.length:=by omega
  repeat(refine ar.aa fun _=> ?_)
  refine ar.call fun r1 zM wj=> ?_;obtain⟨y0,y1,y2,y3,y4,y5,y6,y7,y8,y9,y10,y11,y12,y13,y14,y15,y16,y17,y18,Uu,El,y21,rfl⟩:=ane wj;simp only[aT];refine ar.ite (fun hz=>ar.some fun e=>absurd e hz) fun ux=> ?_;obtain⟨avo,z1,avp,z2,g1,g2,g3,g4,g5,g6⟩:=Fj zM (by simpa using ux);have g5:Uu=avo:=g5;have g6:El=avp:=g6;subst g5 g6;repeat(refine ar.aa fun _=> ?_)
  have hd:x.list.drop i=x.list.getD i (.i 0)::x.list.drop (i+1):=by rw[xD bi,cE,cB bi];rfl
  rw[hd]at hE;obtain⟨c1,c2,c0,e1,e2,e3,e4⟩:=hE.inv;refine hr _ ⟨i+1,d+(1+c1+c2),c0,_,rfl,bi,hD.app (.one ?_ ?_),e4,by omega⟩
  ·exact ih c1 (by omega) (by omega) P _ _ _ e2 g1 g2
  ·exact ih c2 (by omega) (by omega) P _ _ _ e3 g3 g4
 ·refine ar.some fun _=> ?_;rw[rV (by omega)]at hE;have:=hE.zero;subst this;rw[<-he];exact hD
def N4:T bZ:=match da with
 | .call _ _ _ (.loop _ b)=>b|t=>t
theorem del_eq:da= .call 39 [.v 0] 1 (.loop [.i 0,.v 2] N4):=rfl
theorem IR{W:ab}{x y:Sc}{i:Nat}(h:i<W.length):(W++[x]).set i y=W.set i y++[x]:=set_append_left _ _ h
theorem ab4{W:ab}{x:Sc}{i:Nat}(h:i<W.length):(W++[x]).getD i (.i 0)=W.getD i (.i 0):=iB h
theorem N5{mK:ab}{x:Sc}{n:Nat}(hs:∀e∈mK,∃z:Nat,e.list.getD 4 (.i 0)= .i (z:Int)/\z<n)(hl:mK.length<=10000000){a0 a2 b0 b2:Sc}:∀(N k:Nat)(A:ab)(r:ab),A.length=n->k<=mK.length->cH (fun rec v=>N4.aF Gf ([a0,.l mK,a2]++v) ([]++[rec])) N [.i (k:Int),.l A]=some r->(r.getD 1 (.i 0)).int=0->∃B,r=[.l B,.i 0]/\B.length=n/\cH (fun rec v=>N4.aF Gf ([b0,.l mK,b2]++v) ([]++[rec])) N [.i (k:Int),.l (A++[x])]=some [.l (B++[x]),.i 0]
 |0,k,A,r,_,_,h,_=>by cases h
 |N+1,k,A,r,hA,hk,h,h0=>by
  have ih:=N5 (x:=x) hs hl (a0:=a0) (a2:=a2) (b0:=b0) (b2:=b2) N (k+1);rw[cH]at h⊢;generalize cH (fun rec v=>N4.aF Gf ([a0,.l mK,a2]++v) ([]++[rec])) N=aAK at h ih;generalize cH (fun rec v=>N4.aF Gf ([b0,.l mK,b2]++v) ([]++[rec])) N=tp at ih⊢;have w1:=cM (i:=k) (by omega);by_cases bi:k<mK.length
  ·obtain⟨z,hz,hzn⟩:=hs _ (bh (xs:=mK) bi);unfold N4 da at h⊢;have eA:(A++[x]).getD z (.i 0)=A.getD z (.i 0):=ab4 (by omega);simp only[w1,hz,iT,aT]at h;simp only[w1,hz,iT,eA,fR,aT,Nat.reduceAdd];simp only[E3,om]at h⊢;rcases jI h with⟨_,h⟩|⟨hn,_⟩
   ·obtain⟨_,h⟩:=pT h;rcases jI h with⟨hn,_⟩|⟨_,h⟩
    ·exact absurd hn (by omega)
    rcases jI h with⟨hn,_⟩|⟨_,h⟩
    ·exact absurd hn (by omega)
    obtain⟨_,h⟩:=pT h;obtain⟨rs,g,l,h⟩:=vn h;rcases jI h with⟨hb,h⟩|⟨hb,h⟩
    ·cases h
     exact absurd h0 hb
    obtain⟨_,h⟩:=pT h;obtain⟨B,e1,e2,e3⟩:=ih _ r (by rw[BO];exact hA) (by omega) h h0;refine⟨B,e1,e2,?_⟩;rw[aA (by omega),aA (by omega),aE (by omega),aE (by omega),aA (by omega),g];show(if rs.length=19 then _ else none)=_;rw[aA l,aE hb,aA (by omega),Ic,IR (by omega)];exact e3
   ·exact absurd (by omega) hn
  ·unfold N4 da at h⊢;simp only[iT,aT]at h;simp only[iT,aT];rcases jI h with⟨hn,_⟩|⟨_,h⟩
   ·exact absurd hn (by omega)
   cases h
   exact⟨A,rfl,hA,by rw[aE (by omega)]⟩
section
variable{pm:Pm}(hp:dG pm)
include hp
theorem LV{A mK:ab}{x:Sc}(hA:II pm 76 (.l A))(hAx:II pm 76 (.l (A++[x])))(hs:∀e∈mK,∃z:Nat,e.list.getD 4 (.i 0)= .i (z:Int)/\z<A.length)(hl:mK.length<=10000000){r:ab}(h:Gf 40 [.l A,.l mK]=some r)(h0:(r.getD 1 (.i 0)).int=0):
 ∃B,r=[.l B,.i 0]/\B.length=A.length/\Gf 40 [.l (A++[x]),.l mK]=some [.l (B++[x]),.i 0]:=by
 have c1:=dx hp hA
 have c2:=dx hp hAx
 have ev:∀B:ab,Gf 39 [.l B]=some [.l B]->Gf 40 [.l B,.l mK]=cH (fun rec v=>N4.aF Gf ([.l B,.l mK,.l B]++v) ([]++[rec])) fg [.i ((0:Nat):Int),.l B]:=by intro B hc;rw[xh];show da.aF Gf [.l B,.l mK] []=_;rw[del_eq,T.aF,show[Ex.v 0].map (Ex.ev [.l B,.l mK])=[.l B]from rfl,hc];exact(aA rfl).trans (by rw[T.aF];rfl)
 rw[ev A c1]at h
 rw[ev (A++[x]) c2]
 exact N5 hs hl fg 0 A r rfl (xA _) h h0
end
theorem N6{pm:Pm}(hp:dG pm){A:ab}(hA:II pm 76 (.l A)):Gf 40 [.l A,.l []]=some [.l A,.i 0]:=by
 have hc:=dx hp hA;rw[xh];show da.aF Gf [.l A,.l []] []=_;suffices h:bW (da.aF Gf [.l A,.l []] []) fun r=>r=[.l A,.i 0]by
  obtain⟨r,h1,rfl⟩:=h;exact h1
 unfold da;simp only[hc,aT,Nat.reduceAdd];refine dv (S:=Unit) (fun i _=>[.i (i:Int),.l A]) (fun _ _=>True) 0 (s:=()) rfl (by omega) trivial (fun i _ _ h=>absurd h (by omega)) ?_;intro _ rec _;simp only[aT];exact bW.some rfl
theorem LU{c:ab}(hc:c.length=18){e:ab}(he:e.length=9){z:Sc}(h:Gf 129 (c++e)=some [z])(hz:z.bool=true):(e.getD 4 (.i 0)).int=(c.getD 0 (.i 0)).int:=by
 match c,hc,e,he,h with
 |[c0,c1,c2,c3,c4,c5,c6,c7,c8,c9,fJ,fx,fA,ge,qQ,qR,qS,qT],_,[e0,e1,e2,e3,e4,e5,e6,e7,e8],_,h=>
  rw[Fp]at h;replace h:oS.aF Gf [c0,c1,c2,c3,c4,c5,c6,c7,c8,c9,fJ,fx,fA,ge,qQ,qR,qS,qT,e0,e1,e2,e3,e4,e5,e6,e7,e8] []=some [z]:=h;unfold oS at h;simp only[PQ,aT]at h;rcases jI h with⟨h4,_⟩|⟨_,h⟩
  ·exact h4
  ·cases h
   cases hz
theorem Pg{c0 c1 c2 c4 c5 c6 c7 c8 c9 fJ fx fA ge qQ qR qS qT x:Sc}{A:ab}(hA:A.length<=10000000)(h:Gf 76 [c0,c1,c2,.l A,c4,c5,c6,c7,c8,c9,fJ,fx,fA,ge,qQ,qR,qS,qT]=some [x])(hx:x.int=0):∀y∈A,∃z,Gf 129 ([c0,c1,c2,.l A,c4,c5,c6,c7,c8,c9,fJ,fx,fA,ge,qQ,qR,qS,qT]++aU 9 y)=some [z]/\z.bool=true:=by
 rw[Hf]at h;replace h:mq.aF Gf [c0,c1,c2,.l A,c4,c5,c6,c7,c8,c9,fJ,fx,fA,ge,qQ,qR,qS,qT] []=some [x]:=h;suffices hq:ar (mq.aF Gf [c0,c1,c2,.l A,c4,c5,c6,c7,c8,c9,fJ,fx,fA,ge,qQ,qR,qS,qT] []) (GA _)from hq _ h hx;unfold mq;simp only[iT,aT];refine ar.call fun r hc hr=> ?_;obtain⟨y,rfl⟩:=bL hr;simp only[aT];refine ar.ite (fun h=>df h) fun h0=> ?_;refine ar.loop (fun w=>∃i:Nat,w=[.i (i:Int)]/\i<=A.length/\∀j,j<i->∃z,Gf 129 ([c0,c1,c2,.l A,c4,c5,c6,c7,c8,c9,fJ,fx,fA,ge,qQ,qR,qS,qT]++aU 9 (A.getD j (.i 0)))=some [z]/\z.bool=true) ⟨0,rfl,xA _,fun j h=>by omega⟩ ?_;rintro w rec ⟨i,rfl,hi,hI⟩ hr;have w1:=cM (i:=i) (by omega);simp only[w1,aT];refine ar.ite (fun bi=> ?_) fun xj=> ?_
 ·repeat(refine ar.aa fun _=> ?_)
  refine ar.call fun r DH oa=> ?_;obtain⟨b,rfl⟩:=bL oa;simp only[aT];refine ar.ite (fun _=>aP (by decide)) fun hb=> ?_;refine ar.ite (fun _=>aP (by decide)) fun _=> ?_;refine hr _ ⟨i+1,rfl,by omega,fun j hj=> ?_⟩;rcases qe.1 hj with hj|rfl
  ·exact hI j hj
  ·exact⟨b,DH,by simpa[U1.ev]using hb⟩
 ·refine pV fun y hy=> ?_;obtain⟨j,hj,rfl⟩:=gH hy;exact hI j (by omega)
theorem WJ{nm:Sc}{S LK:ab}(hl:LK.length<=10000000)(hi:∀a∈LK,(∃z,a.list.getD 0 (.i 0)= .i z)/\∃z,a.list.getD 1 (.i 0)= .i z){x:Sc}(h:Gf 60 [nm,.l S,.l LK]=some [x])(hx:x.int=0):∀a∈LK,(a.list.getD 0 (.i 0)).int<S.length/\(a.list.getD 1 (.i 0)).int<S.length:=by
 rw[EB]at h;replace h:jg.aF Gf [nm,.l S,.l LK] []=some [x]:=h;suffices hq:ar (jg.aF Gf [nm,.l S,.l LK] []) (GA _)from hq _ h hx;unfold jg;simp only[aT];refine ar.ite (fun _=>aP (by decide)) fun _=> ?_;refine ar.loop (fun w=>∃(i:Nat)(m:Sc),w=[.i (i:Int),m]/\i<=LK.length/\∀j,j<i->((LK.getD j (.i 0)).list.getD 0 (.i 0)).int<S.length/\((LK.getD j (.i 0)).list.getD 1 (.i 0)).int<S.length) ⟨0,_,rfl,xA _,fun j h=>by omega⟩ ?_;rintro w rec ⟨i,m,rfl,Ns,hI⟩ hr;have w1:=cM (i:=i) (by omega);by_cases bi:i<LK.length
 ·obtain⟨⟨z0,h0⟩,z1,h1⟩:=hi _ (bh (xs:=LK) bi);simp only[w1,h0,h1,aeT,Zv,aT];refine ar.ite (fun _=> ?_) fun xj=>absurd (by omega) xj;repeat(refine ar.aa fun _=> ?_)
  refine ar.ite (fun _=>aP (by decide)) fun a1=> ?_;refine ar.ite (fun _=>aP (by decide)) fun a2=> ?_;have qu:∀m',ar (rec [.i ((i+1:Nat):Int),m']) (GA (∀a∈LK,(a.list.getD 0 (.i 0)).int<S.length/\(a.list.getD 1 (.i 0)).int<S.length)):=by
   intro m';refine hr _ ⟨i+1,m',rfl,by omega,fun j hj=> ?_⟩;rcases qe.1 hj with hj|rfl
   ·exact hI j hj
   ·rw[h0,h1];show z0<_/\z1<_;split at a2<;>omega
  refine ar.ite (fun _=> ?_) fun _=> ?_
  ·refine ar.ite (fun _=>aP (by decide)) fun _=> ?_;refine ar.ite (fun _=>aP (by decide)) fun _=>qu _
  ·refine ar.ite (fun _=>aP (by decide)) fun _=> ?_;refine ar.ite (fun _=>aP (by decide)) fun _=> ?_;refine ar.ite (fun _=>aP (by decide)) fun _=>qu _
 ·simp only[w1,aT];refine ar.ite (fun h=>absurd h (by omega)) fun _=> ?_;refine pV fun a ha=> ?_;obtain⟨j,hj,rfl⟩:=gH ha;exact hI j (by omega)
inductive Sd(V:ab):ab->Prop where
 |nil:Sd V []
 |cons {s:Sc}{xs:ab}:((s.list.getD 0 (.i 0)).int=13->0<=xK (s.list.getD 2 (.i 0)) V 0)->Sd V (s.list.getD 19 (.i 0)).list->Sd V (s.list.getD 20 (.i 0)).list->Sd V xs->Sd V (s::xs)
theorem Sd.of{V:ab}:∀{xs:ab},(∀s∈xs,((s.list.getD 0 (.i 0)).int=13->0<=xK (s.list.getD 2 (.i 0)) V 0)/\Sd V (s.list.getD 19 (.i 0)).list/\Sd V (s.list.getD 20 (.i 0)).list)->Sd V xs
 |[],_=> .nil|s::xs,h=> .cons (h s (by simp)).1 (h s (by simp)).2.1 (h s (by simp)).2.2 (Sd.of fun t ht=>h t (by simp[ht]))
theorem Sd.mem{V xs:ab}(h:Sd V xs):∀s∈xs,((s.list.getD 0 (.i 0)).int=13->0<=xK (s.list.getD 2 (.i 0)) V 0)/\Sd V (s.list.getD 19 (.i 0)).list/\Sd V (s.list.getD 20 (.i 0)).list:=by
 induction h with
 |nil=>intro s hs;cases hs
 |cons h1 h2 h3 _ _ _ ih=>
  intro s hs;rcases bX.1 hs with rfl|hs
  ·exact⟨h1,h2,h3⟩
  ·exact ih s hs
theorem Lm.mem{c:Nat}{xs:ab}(h:Lm c xs):∀s∈xs,∃c1 c2,1+c1+c2<=c/\Lm c1 (s.list.getD 19 (.i 0)).list/\Lm c2 (s.list.getD 20 (.i 0)).list:=by
 induction h with
 |nil=>intro s hs;cases hs
 |cons h1 h2 _ _ _ ih=>
  intro s hs;rcases bX.1 hs with rfl|hs
  ·exact⟨_,_,by omega,h1,h2⟩
  ·obtain⟨d1,d2,g1,g2,g3⟩:=ih s hs;exact⟨d1,d2,by omega,g2,g3⟩
section
variable{V:ab}(hV:V.length<=10000000)
include hV
theorem V8{x0 x1 x3 x4 x5 x6 x7 x8 x9 kI lu lx m6 ob oc nO nS pu pw vN x21 Wc x23 x24 x25 x26 x27 x28 x29 x30 x31 x32 x33 x34 x35 x36 x37 x38 x39 x40:Sc}{z:Sc}(h:Gf 257 [x0,x1,.l V,x3,x4,x5,x6,x7,x8,x9,kI,lu,lx,m6,ob,oc,nO,nS,pu,pw,vN,x21,Wc,x23,x24,x25,x26,x27,x28,x29,x30,x31,x32,x33,x34,x35,x36,x37,x38,x39,x40]=some [z])(h0:z.int=0):0<=xK Wc V 0:=by rw[xJ]at h;replace h:fI.aF Gf [x0,x1,.l V,x3,x4,x5,x6,x7,x8,x9,kI,lu,lx,m6,ob,oc,nO,nS,pu,pw,vN,x21,Wc,x23,x24,x25,x26,x27,x28,x29,x30,x31,x32,x33,x34,x35,x36,x37,x38,x39,x40] []=some [z]:=h;suffices hq:ar (fI.aF Gf [x0,x1,.l V,x3,x4,x5,x6,x7,x8,x9,kI,lu,lx,m6,ob,oc,nO,nS,pu,pw,vN,x21,Wc,x23,x24,x25,x26,x27,x28,x29,x30,x31,x32,x33,x34,x35,x36,x37,x38,x39,x40] []) (GA (0<=xK Wc V 0))from hq _ h h0;have hs:=za (a:=x0) (b:=x1) (c:=x3) (w:=Wc) (S:=V) (by omega);unfold fI;generalize xK Wc V 0=j at hs⊢;simp only[hs,aT,Nat.reduceAdd];refine ar.ite (fun _=>aP (by decide)) fun hj=>fun r _ _=>by omega
theorem acQ{x0 x1 x3 x4 x5 x6 x7 x8 x9 kI lu lx m6 ob oc nO nS pu pw vN x21 Wc x23 x24 x25 x26 x27 x28 x29 x30 x31 x32 x33 x34 x35 x36 x37 x38 x39 x40:Sc}{z:Sc}(Ji:vN.int=13)(h:Gf 185 [x0,x1,.l V,x3,x4,x5,x6,x7,x8,x9,kI,lu,lx,m6,ob,oc,nO,nS,pu,pw,vN,x21,Wc,x23,x24,x25,x26,x27,x28,x29,x30,x31,x32,x33,x34,x35,x36,x37,x38,x39,x40]=some [z])(h0:z.int=0):0<=xK Wc V 0:=by rw[ym]at h;replace h:fY.aF Gf [x0,x1,.l V,x3,x4,x5,x6,x7,x8,x9,kI,lu,lx,m6,ob,oc,nO,nS,pu,pw,vN,x21,Wc,x23,x24,x25,x26,x27,x28,x29,x30,x31,x32,x33,x34,x35,x36,x37,x38,x39,x40] []=some [z]:=h;suffices hq:ar (fY.aF Gf [x0,x1,.l V,x3,x4,x5,x6,x7,x8,x9,kI,lu,lx,m6,ob,oc,nO,nS,pu,pw,vN,x21,Wc,x23,x24,x25,x26,x27,x28,x29,x30,x31,x32,x33,x34,x35,x36,x37,x38,x39,x40] []) (GA (0<=xK Wc V 0))from hq _ h h0;unfold fY;simp only[PQ,Ji,aT,reduceEq];refine ar.call fun r hc hr=> ?_;obtain⟨y,rfl⟩:=bL hr;simp only[aT];exact ar.some fun e=>V8 hV hc e
theorem adk:∀(c:Nat),c<=1000000->∀(x0 x1 x3 x4 x5 x6 x7 x8 x9 kI lu lx m6 ob oc nO nS pu pw x z:Sc),Lm c x.list->Gf 93 [x0,x1,.l V,x3,x4,x5,x6,x7,x8,x9,kI,lu,lx,m6,ob,oc,nO,nS,pu,pw,x]=some [z]->z.int=0->Sd V x.list:=by
 intro c;induction c using Nat.strongRecOn with
 |_ c ih=>
 intro hc x0 x1 x3 x4 x5 x6 x7 x8 x9 kI lu lx m6 ob oc nO nS pu pw x z hL h h0;rw[xI]at h;replace h:fH.aF Gf [x0,x1,.l V,x3,x4,x5,x6,x7,x8,x9,kI,lu,lx,m6,ob,oc,nO,nS,pu,pw,x] []=some [z]:=h;suffices hq:ar (fH.aF Gf [x0,x1,.l V,x3,x4,x5,x6,x7,x8,x9,kI,lu,lx,m6,ob,oc,nO,nS,pu,pw,x] []) (GA (Sd V x.list))from hq _ h h0;have hlen:=hL.len;unfold fH;rw[T.aF];refine ar.loop (fun w=>∃i:Nat,w=[.i (i:Int)]/\i<=x.list.length/\∀j,j<i->(((x.list.getD j (.i 0)).list.getD 0 (.i 0)).int=13->0<=xK ((x.list.getD j (.i 0)).list.getD 2 (.i 0)) V 0)/\Sd V ((x.list.getD j (.i 0)).list.getD 19 (.i 0)).list/\Sd V ((x.list.getD j (.i 0)).list.getD 20 (.i 0)).list) ⟨0,rfl,xA _,fun j h=>by omega⟩ ?_;rintro w rec ⟨i,rfl,hi,hI⟩ hr;have w1:=cM (i:=i) (by omega);simp only[w1,iT,aT];refine ar.ite (fun bi=> ?_) fun xj=> ?_
 ·have bi:i<x.list.length:=by omega
  obtain⟨c1,c2,e1,e2,e3⟩:=hL.mem _ (bh (xs:=x.list) bi);repeat(refine ar.aa fun _=> ?_)
  refine ar.call fun r1 zM wj=> ?_;obtain⟨y1,rfl⟩:=bL wj;simp only[aT];refine ar.ite (fun h=>df h) fun ux=> ?_;refine ar.call fun r2 DH oa=> ?_;obtain⟨y2,rfl⟩:=bL oa;simp only[aT];refine ar.ite (fun h=>df h) fun nQ=> ?_;refine ar.call fun r3 Jj HM=> ?_;obtain⟨y3,rfl⟩:=bL HM;simp only[aT];refine ar.ite (fun h=>df h) fun Vh=> ?_;refine hr _ ⟨i+1,rfl,bi,fun j hj=> ?_⟩;by_cases EP:j<i
  ·exact hI j EP
  ·have:j=i:=by omega
   subst this;refine⟨fun Ji=>acQ hV Ji zM (by simpa using ux),?_,?_⟩
   ·exact ih c1 (by omega) (by omega) _ _ _ _ _ _ _ _ _ _ _ _ _ _ _ _ _ _ _ _ _ e2 DH (by simpa using nQ)
   ·exact ih c2 (by omega) (by omega) _ _ _ _ _ _ _ _ _ _ _ _ _ _ _ _ _ _ _ _ _ e3 Jj (by simpa using Vh)
 ·refine pV (Sd.of fun s hs=> ?_);obtain⟨m,hm,rfl⟩:=gH hs;exact hI m (by omega)
end
def W5(p:Nat):T bZ->Bool
 | .ah es=>es.all (Ez p none)||(isV p (es.getD p .nil)&&(es.set p .nil).all (Ez p none))| .fail _=>true| .ite c a b=>Ez p none c&&(W5 p a&&W5 p b)| .aa c k=>Ez p none c&&W5 p k| .call f es n k=>es.all (Ez p none)&&W5 p k| .loop jH body=>jH.all (Ez p none)&&W5 p body| .next _ vs=>vs.all (Ez p none)
def RR(S:ab)(x:Sc)(p:Nat)(r r':ab):Prop:=r'=r\/(r.getD p (.i 0)= .l S/\p<r.length/\r'=r.set p (.l (S++[x])))
section
variable{S:ab}{x:Sc}{p:Nat}
def qn{ρ:ab}:QOk S p none ρ:=nofun
def ac8{ρ:ab}(hl:p<ρ.length)(hp:ρ.getD p (.i 0)= .l S){es:bZ}(hv:isV p (es.getD p .nil)=true)(ha:(es.set p .nil).all (Ez p none)=true):
 p<es.length/\(es.map (Ex.ev ρ)).getD p (.i 0)= .l S/\es.map (Ex.ev (ρ.set p (.l (S++[x]))))=(es.map (Ex.ev ρ)).set p (.l (S++[x])):=by
 have FA:=DW hv
 have iQ:p<es.length:=by
  by_cases hh:p<es.length
  ·exact hh
  ·rw[cE,mB (by omega)]at FA;cases FA
 refine⟨iQ,?_,?_⟩
 ·rw[cE,vR];rw[cE]at FA;cases hx:es[p]? with
  |none=>rw[hx]at FA;cases FA
  |some e=>
   rw[hx]at FA;cases FA
   exact hp
 ·have h3:=uk (x:=x) hl hp qn ha;apply f9;intro i;by_cases hi:i=p
  ·subst hi;rw[vR,getElem?_set_self (by rw[Ab];exact iQ)];rw[cE]at FA;cases hx:es[i]? with
   |none=>rw[hx]at FA;cases FA
   |some e=>
    rw[hx]at FA;cases FA
    show some _=some _;rw[show(Ex.v i).ev (ρ.set i (.l (S++[x])))=(ρ.set i (.l (S++[x]))).getD i (.i 0)from rfl,jz hl]
  ·have h4:=congrArg (fun l=>l[i]?) h3;simp only[vR,getElem?_set_ne (Ne.symm hi)]at h4;rw[getElem?_set_ne (Ne.symm hi),vR,vR];exact h4
variable{Γ:Nat->dK}
def zR:∀(t:T bZ)(ρ:ab)(K1 K2:List dK),W5 p t=true->p<ρ.length->ρ.getD p (.i 0)= .l S->K1.length=K2.length->(∀(l:Nat)(k1 k2:dK),K1[l]? =some k1->K2[l]? =some k2->∀v r,k1 v=some r->∃r',k2 v=some r'/\RR S x p r r')->∀r,t.aF Γ ρ K1=some r->∃r',t.aF Γ (ρ.set p (.l (S++[x]))) K2=some r'/\RR S x p r r'
 | .ah es,ρ,K1,K2,hc,hl,hp,hK,hk,r,h=>by
   simp only[T.aF]at h⊢;simp only[W5,bY,aL]at hc;cases h
   rcases hc with hc|⟨hv,ha⟩
   ·rw[uk hl hp qn hc];exact⟨_,rfl,.inl rfl⟩
   ·obtain⟨h1,h2,h3⟩:=ac8 (x:=x) hl hp hv ha;rw[h3];exact⟨_,rfl,.inr ⟨h2,by rw[Ab];exact h1,rfl⟩⟩
 | .fail _,ρ,K1,K2,hc,hl,hp,hK,hk,r,h=>by simp[T.aF]at h
 | .ite c a b,ρ,K1,K2,hc,hl,hp,hK,hk,r,h=>by
   simp only[W5,aL]at hc;simp only[T.aF]at h⊢;rw[sa hl hp qn hc.1];split
   ·rename_i hh;rw[aA hh]at h;exact zR a ρ K1 K2 hc.2.1 hl hp hK hk r h
   ·rename_i hh;rw[aE hh]at h;exact zR b ρ K1 K2 hc.2.2 hl hp hK hk r h
 | .aa c k,ρ,K1,K2,hc,hl,hp,hK,hk,r,h=>by
   simp only[W5,aL]at hc;simp only[T.aF]at h⊢;rw[sa hl hp qn hc.1];split
   ·rename_i hh;rw[aA hh]at h;exact zR k ρ K1 K2 hc.2 hl hp hK hk r h
   ·rename_i hh;rw[aE hh]at h;cases h
 | .call f es n k,ρ,K1,K2,hc,hl,hp,hK,hk,r,h=>by
   simp only[W5,aL]at hc;simp only[T.aF]at h⊢;rw[uk hl hp qn hc.1];cases hg:Γ f (es.map (Ex.ev ρ))with
   |none=>rw[hg]at h;cases h
   |some rs=>
    rw[hg]at h;simp only at h⊢;split
    ·rename_i hh;rw[aA hh]at h;have:=zR k (ρ++rs) K1 K2 hc.2 (by rw[fR];omega) (by rw[u6 hl];exact hp) hK hk r h;rw[set_append_left _ _ hl]at this;exact this
    ·rename_i hh;rw[aE hh]at h;cases h
 | .loop jH body,ρ,K1,K2,hc,hl,hp,hK,hk,r,h=>by
   simp only[W5,aL]at hc;simp only[T.aF]at h⊢;rw[uk hl hp qn hc.1];have key:∀n v r,cH (fun rec v=>body.aF Γ (ρ++v) (K1++[rec])) n v=some r->∃r',cH (fun rec v=>body.aF Γ (ρ.set p (.l (S++[x]))++v) (K2++[rec])) n v=some r'/\RR S x p r r':=by
    intro n;induction n with
    |zero=>intro v r h;cases h
    |succ n ih=>
     intro v r h;simp only[cH]at h⊢;have:=zR body (ρ++v) (K1++[cH (fun rec v=>body.aF Γ (ρ++v) (K1++[rec])) n]) (K2++[cH (fun rec v=>body.aF Γ (ρ.set p (.l (S++[x]))++v) (K2++[rec])) n]) hc.2 (by rw[fR];omega) (by rw[u6 hl];exact hp) (by simp[hK]) ?_ r h
     ·rw[set_append_left _ _ hl]at this;exact this
     ·intro l k1 k2 e1 e2 v r hv;by_cases bi:l<K1.length
      ·rw[gA bi]at e1;rw[gA (by omega)]at e2;exact hk l k1 k2 e1 e2 v r hv
      ·rw[lR (by omega)]at e1;rw[lR (by omega)]at e2;by_cases hz:l=K1.length
       ·rw[show l-K1.length=0 by omega]at e1;rw[show l-K2.length=0 by omega]at e2;cases e1;cases e2
        exact ih v r hv
       ·rw[mB (by simp;omega)]at e1;cases e1
   exact key fg _ r h
 | .next l vs,ρ,K1,K2,hc,hl,hp,hK,hk,r,h=>by
   simp only[T.aF]at h⊢;rw[uk hl hp qn hc];cases e1:K1[l]? with
   |none=>rw[e1]at h;cases h
   |some k1=>
    rw[e1]at h;have bi:l<K2.length:=by
     rw[<-hK];by_cases hh:l<K1.length
     ·exact hh
     ·rw[mB (by omega)]at e1;cases e1
    rw[cB bi];exact hk l k1 _ e1 (cB bi) _ r h
end
def lvs:T bZ->List bZ
 | .ah es=>[es]| .fail _=>[]| .ite _ a b=>lvs a++lvs b| .aa _ k=>lvs k| .call _ _ _ k=>lvs k| .loop _ b=>lvs b| .next _ _=>[]
section
variable{Γ:Nat->dK}{P:ab->Prop}
def zI:∀(t:T bZ)(ρ:ab)(K:List dK),(∀es∈lvs t,∀σ,P (es.map (Ex.ev (ρ++σ))))->(∀(l:Nat)(k:dK),K[l]? =some k->∀v r,k v=some r->P r)->∀r,t.aF Γ ρ K=some r->P r
 | .ah es,ρ,K,hP,hk,r,h=>by simp only[T.aF,eF]at h;have:=hP es (by simp[lvs]) [];rw[uP]at this;rw[<-h];exact this
 | .fail _,ρ,K,hP,hk,r,h=>by simp[T.aF]at h
 | .ite c a b,ρ,K,hP,hk,r,h=>by
   simp only[T.aF]at h;split at h
   ·exact zI a ρ K (fun es he=>hP es (by rw[lvs];exact iv _ he)) hk r h
   ·exact zI b ρ K (fun es he=>hP es (by rw[lvs];exact cz _ he)) hk r h
 | .aa c k,ρ,K,hP,hk,r,h=>zI k ρ K hP hk r (N7 h).2| .call f es n k,ρ,K,hP,hk,r,h=>by obtain⟨rs,_,_,h3⟩:=Hb h;exact zI k (ρ++rs) K (fun es he σ=>by rw[eh];exact hP es he (rs++σ)) hk r h3
 | .loop jH body,ρ,K,hP,hk,r,h=>by
   simp only[T.aF]at h;have key:∀n v r,cH (fun rec v=>body.aF Γ (ρ++v) (K++[rec])) n v=some r->P r:=by
    intro n;induction n with
    |zero=>intro v r h;cases h
    |succ n ih=>
     intro v r h;simp only[cH]at h;refine zI body (ρ++v) _ (fun es he σ=>by rw[eh];exact hP es he (v++σ)) ?_ r h;intro l k e v r hv;by_cases bi:l<K.length
     ·rw[gA bi]at e;exact hk l k e v r hv
     ·rw[lR (by omega)]at e;by_cases hz:l=K.length
      ·rw[show l-K.length=0 by omega]at e;cases e
       exact ih v r hv
      ·rw[mB (by simp;omega)]at e;cases e
   exact key fg _ r h
 | .next l vs,ρ,K,hP,hk,r,h=>by
   simp only[T.aF]at h;cases e1:K[l]? with
   |none=>rw[e1]at h;cases h
   |some k1=>
    rw[e1]at h;exact hk l k1 e1 _ r h
end
def kOf:T bZ->T bZ| .call _ _ _ k=>k|t=>t
def Xq:T bZ->T bZ| .ite _ _ b=>b|t=>t
def Dp:T bZ:=Xq (kOf pj)
def akU:pj= .call 22 [.v 0,.v 1,.v 2,.v 3] 1 (.ite (.o .ne (.v 5) (.i 0)) (.ah [.s [],.nil,.nil,.nil,.v 5]) Dp):=rfl
def agj:lvs Dp=[[.s [],.nil,.nil,.nil,.i 5],[.s [],.nil,.nil,.nil,.i 4],[.s [],.nil,.nil,.nil,.i 2],[.s [],.nil,.nil,.nil,.i 2],[.s [],.nil,.nil,.nil,.i 5],[.v 0,.v 8,.v 2,.v 3,.i 0]]:=by kernel_rfl
def TT{ρ:ab}{k:Nat}{z:Int}(h:ρ.getD k (.i 0)= .i z):((Ex.o .ne (.v k) (.i 0)).ev ρ).bool=true↔z≠0:=by show((ρ.getD k (.i 0)).int !=0)=true↔_;rw[h];exact bne_iff_ne
section
variable{a b c g x:Sc}{S:ab}
def Ql{z:Int}(t:Gf 22 [a,b,.l S,c]=some [.i z]){r:ab}(h:Gf 13 [a,b,.l S,c,g]=some r)(h0:(r.getD 4 (.i 0)).int=0):Dp.aF Gf [a,b,.l S,c,g,.i 0] []=some r/\∃P,r=[a,P,.l S,c,.i 0]:=by
 rw[LW]at h;replace h:pj.aF Gf [a,b,.l S,c,g] []=some r:=h;rw[akU,GY (n:=1) (rs:=[.i z]) t rfl,T.aF]at h;by_cases hz:z=0
 ·subst hz;rw[aE (fun hh=>absurd ((TT (z:=0) rfl).1 hh) (by simp))]at h;refine⟨h,?_⟩;have:=zI (P:=fun r=>(r.getD 4 (.i 0)).int=0->∃P,r=[a,P,.l S,c,.i 0]) Dp _ [] (fun es he σ=>by
   rw[agj]at he;simp only[bX,nV,AR]at he;rcases he with rfl|rfl|rfl|rfl|rfl|rfl
   ·intro h;exact absurd (show(5:Int)=0 from h) (by decide)
   ·intro h;exact absurd (show(4:Int)=0 from h) (by decide)
   ·intro h;exact absurd (show(2:Int)=0 from h) (by decide)
   ·intro h;exact absurd (show(2:Int)=0 from h) (by decide)
   ·intro h;exact absurd (show(5:Int)=0 from h) (by decide)
   ·intro _;exact⟨_,rfl⟩) (fun l k e=>by simp at e) r h
  exact this h0
 ·rw[aA ((TT (z:=z) rfl).2 hz),T.aF]at h;cases h
  exact absurd h0 hz
def WR{z z':Int}(t:Gf 22 [a,b,.l S,c]=some [.i z])(t':Gf 22 [a,b,.l (S++[x]),c]=some [.i z']){r r':ab}(h:Gf 13 [a,b,.l S,c,g]=some r)(h0:(r.getD 4 (.i 0)).int=0)(h':Gf 13 [a,b,.l (S++[x]),c,g]=some r')(QM:(r'.getD 4 (.i 0)).int=0):
 ∃P,r=[a,P,.l S,c,.i 0]/\r'=[a,P,.l (S++[x]),c,.i 0]:=by
 obtain⟨d1,P,rfl⟩:=Ql t h h0
 obtain⟨d2,P',rfl⟩:=Ql t' h' QM
 obtain⟨q,d3,hR⟩:=zR (S:=S) (x:=x) (p:=2) Dp [a,b,.l S,c,g,.i 0] [] [] (by decide+kernel) (by simp) rfl rfl (fun l k1 k2 e=>by simp at e) _ d1
 replace d3:Dp.aF Gf [a,b,.l (S++[x]),c,g,.i 0] []=some q:=d3
 rw[d2]at d3
 cases d3
 refine⟨P,rfl,?_⟩
 rcases hR with hR|⟨_,_,hR⟩
 ·have e:=(GF (GF (GF hR).2).2).1;have e:=Sc.l.inj e;have:=congrArg length e;rw[fR,BM]at this;omega
 ·exact hR
def VX{v r:ab}(hl:v.length=21)(hp:v.getD 2 (.i 0)= .l S)(h:Gf 52 v=some r):Gf 52 (v.set 2 (.l (S++[x])))=some r:=by rw[B7,aA hl]at h;rw[B7,BO,aA hl];exact wy (p:=2) (q:=none) (tab:=[]) (fun f a r h=>h) (nofun) _ v [] [] (by decide+kernel) (by omega) hp (nofun) rfl (fun l k1 k2 e=>by simp at e) r h
def M7:T bZ:=Xq (kOf ue)
def anV:∃l,ue= .call 33 [.v 0,.v 1,.v 2] 1 (.ite (.o .ne (.v 6) (.i 0)) (.ah l) M7)/\l.getD 18 .nil= .v 6:=⟨_,rfl,rfl⟩
def aaf{lk s d i:Sc}{z:Int}(t:Gf 33 [a,.l S,lk]=some [.i z]){r:ab}(h:Gf 34 [a,.l S,lk,i,s,d]=some r)(h0:(r.getD 18 (.i 0)).int=0):M7.aF Gf [a,.l S,lk,i,s,d,.i 0] []=some r:=by
 rw[Qz]at h;replace h:ue.aF Gf [a,.l S,lk,i,s,d] []=some r:=h;obtain⟨l,e,el⟩:=anV;rw[e,GY (n:=1) (rs:=[.i z]) t rfl,T.aF]at h;by_cases hz:z=0
 ·subst hz;rw[aE (fun hh=>absurd ((TT (z:=0) rfl).1 hh) (by simp))]at h;exact h
 ·rw[aA ((TT (z:=z) rfl).2 hz),T.aF]at h;cases h
  rw[cE,vR]at h0;rw[cE]at el;cases hx:l[18]? with
  |none=>rw[hx]at el;cases el
  |some e=>
   rw[hx]at el h0;cases el
   exact absurd h0 hz
def acE{lk s d:Sc}{i:Nat}(hi:i<S.length){z z':Int}(t:Gf 33 [a,.l S,lk]=some [.i z])(t':Gf 33 [a,.l (S++[x]),lk]=some [.i z']){r r':ab}(h:Gf 34 [a,.l S,lk,.i (i:Int),s,d]=some r)(h0:(r.getD 18 (.i 0)).int=0)(h':Gf 34 [a,.l (S++[x]),lk,.i (i:Int),s,d]=some r')(QM:(r'.getD 18 (.i 0)).int=0):r'=r:=by
 have d1:=aaf t h h0;have d2:=aaf t' h' QM;have d3:=wy (S:=S) (x:=x) (p:=1) (q:=some 3) (tab:=[]) (Γ1:=Gf) (Γ2:=Gf) (fun f a r h=>h) (nofun) M7 [a,.l S,lk,.i (i:Int),s,d,.i 0] [] [] (by decide+kernel) (by simp) rfl (fun m hm=>by
  cases hm
  exact⟨by simp,by decide,natCast_nonneg i,by show(i:Int)<S.length;omega⟩) rfl (fun l k1 k2 e=>by simp at e) r d1
 replace d3:M7.aF Gf [a,.l (S++[x]),lk,.i (i:Int),s,d,.i 0] []=some r:=d3;rw[d2]at d3;exact xX d3
end
def Ng{l:ab}{k:Nat}{y:Sc}:U3.mu.ev (.l l) (.i (k:Int)) y= .l (l.set k y):=rfl
def set_drop{E l:ab}{y:Sc}{k:Nat}(hE:E.length=k)(hk:k<l.length):(E++l.drop k).set k y=(E++[y])++l.drop (k+1):=by subst hE;rw[set_append_right _ _ (aX _),Ad,xD hk,set_cons_zero,eh];rfl
def Hv{E l:ab}{k:Nat}(hE:E.length=k)(hk:k<l.length):(E++l.drop k).getD k (.i 0)=l[k]:=by subst hE;rw[cE,lR (aX _),Ad,xD hk];rfl
def H6{E l:ab}{k:Nat}(hE:E.length=k)(hk:k<=l.length):(E++l.drop k).length=l.length:=by rw[fR,tc];omega
def rP{E:ab}{y:Sc}{j:Nat}:(E++[y]).getD j (.i 0)=if j<E.length then E.getD j (.i 0)else if j=E.length then y else .i 0:=by
 rw[cE,cE];by_cases h:j<E.length
 ·rw[aA h,gA h]
 ·rw[aE h,lR (by omega)];by_cases h2:j=E.length
  ·rw[aA h2,h2,Ad];rfl
  ·rw[aE h2,mB (by simp;omega)];rfl
structure SiF(s:Sc):Prop where
 f:∃c0 c1 c2 c3 c4 c5 c6 c7 c8 c9 vE fx fA,s= .l [c0,c1,c2,c3,c4,c5,c6,c7,c8,c9,.l vE,fx,fA]/\vE.length<=10000000/\Gf 30 [.l vE]=some [.l vE]/\∀t∈vE,∃t0 t1 t2 t3,t= .l [t0,t1,t2,t3]
def RtC(a b:Sc)(S:ab)(c s t u:Sc):Prop:=∃P body z,Gf 52 ([a,b,.l S,c]++aU 13 s++aU 4 t)=some [P]/\Gf 53 [P,t.list.getD 3 (.i 0)]=some [body,z]/\z.int=0/\u= .l [t.list.getD 0 (.i 0),t.list.getD 1 (.i 0),t.list.getD 2 (.i 0),body]
def JV(a b:Sc)(S:ab)(c s v:Sc):Prop:=∃E,E.length=(s.list.getD 10 (.i 0)).list.length/\(∀j,j<E.length->RtC a b S c s ((s.list.getD 10 (.i 0)).list.getD j (.i 0)) (E.getD j (.i 0)))/\v= .l (s.list.set 10 (.l E))
def Qq{a b c:Sc}{S:ab}{z:Int}(t:Gf 22 [a,b,.l S,c]=some [.i z])(hl:S.length<=10000000)(fm:Gf 51 [.l S]=some [.l S])(hs:∀s∈S,SiF s){r:ab}(h:Gf 29 [a,b,.l S,c]=some r)(h0:(r.getD 4 (.i 0)).int=0):
 ∃V,r=[a,.l [],.l V,c,.i 0]/\V.length=S.length/\∀i,i<S.length->JV a b S c (S.getD i (.i 0)) (V.getD i (.i 0)):=by
 rw[Jz]at h
 replace h:nI.aF Gf [a,b,.l S,c] []=some r:=h
 suffices hq:ar (nI.aF Gf [a,b,.l S,c] []) (fun r=>(r.getD 4 (.i 0)).int=0->∃V,r=[a,.l [],.l V,c,.i 0]/\V.length=S.length/\∀i,i<S.length->JV a b S c (S.getD i (.i 0)) (V.getD i (.i 0)))from hq _ h h0
 unfold nI
 simp only[t,fm,aT,Nat.reduceAdd]
 refine ar.ite (fun hz=>ar.some fun e=>absurd e hz) fun _=> ?_
 refine ar.loop (fun w=>∃(i:Nat)(D:ab),w=[.i (i:Int),.l (D++S.drop i)]/\i<=S.length/\D.length=i/\∀j,j<i->JV a b S c (S.getD j (.i 0)) (D.getD j (.i 0))) ⟨0,[],rfl,xA _,rfl,fun j h=>by omega⟩ ?_
 rintro w rec ⟨i,D,rfl,hi,hD,hI⟩ hr
 have w1:=cM (i:=i) (by omega)
 have ld:=H6 hD hi
 by_cases bi:i<S.length
 ·have gd:=Hv hD bi;obtain⟨c0,c1,c2,c3,c4,c5,c6,c7,c8,c9,vE,fx,fA,es,Vd,X8,KN⟩:=(hs _ (BQ bi)).f;rw[es]at gd;simp only[w1,gd,ld,X8,aT,Nat.reduceAdd];refine ar.ite (fun _=> ?_) fun xj=>absurd (by omega) xj;repeat(refine ar.aa fun _=> ?_)
  refine ar.loop (fun w=>∃(k:Nat)(E:ab),w=[.i (k:Int),.l (E++vE.drop k)]/\k<=vE.length/\E.length=k/\∀j,j<k->RtC a b S c (.l [c0,c1,c2,c3,c4,c5,c6,c7,c8,c9,.l vE,fx,fA]) (vE.getD j (.i 0)) (E.getD j (.i 0))) ⟨0,[],rfl,xA _,rfl,fun j h=>by omega⟩ ?_;rintro w tp ⟨k,E,rfl,hk,hE,hJ⟩ oa;have w2:=cM (i:=k) (by omega);have ld2:=H6 hE hk;by_cases xM:k<vE.length
  ·have gd2:=Hv hE xM;have gd3:vE.getD k (.i 0)=vE[k]:=by rw[cE,cB xM];rfl
   obtain⟨t0,t1,t2,t3,et⟩:=KN _ (BQ xM);rw[et]at gd2 gd3;simp only[w2,gd2,gd3,ld2,aT];refine ar.ite (fun _=> ?_) fun xj=>absurd (by omega) xj;repeat(refine ar.aa fun _=> ?_)
   refine ar.call fun r1 zM wj=> ?_;obtain⟨P,rfl⟩:=bL wj;simp only[aT];refine ar.call fun r3 Jj HM=> ?_;obtain⟨body,z3,rfl⟩:∃x y,r3=[x,y]:=by
    match r3,HM with
    |[x,y],_=>exact⟨x,y,rfl⟩
   simp only[iT,aT];refine ar.ite (fun hz=>ar.some fun e=>absurd e hz) fun Vh=> ?_;repeat(refine ar.aa fun _=> ?_)
   rw[Ng,set_drop hE xM];refine oa _ ⟨k+1,_,rfl,xM,by rw[fR,hE];rfl,fun j hj=> ?_⟩;rw[rP];by_cases hjk:j<k
   ·rw[aA (by omega)];exact hJ j hjk
   ·have:j=k:=by omega
    subst this;rw[aE (by omega),aA (by omega),gd3];exact⟨P,body,z3,zM,Jj,by simpa using Vh,rfl⟩
  ·have m5:k=vE.length:=by omega
   subst m5;simp only[w2,ld2,aT];refine ar.ite (fun Fw=>absurd Fw (by omega)) fun _=> ?_;rw[Ng,set_drop hD bi,drop_length,uP];refine hr _ ⟨i+1,_,rfl,bi,by rw[fR,hD];rfl,fun j hj=> ?_⟩;rw[rP];by_cases EP:j<i
   ·rw[aA (by omega)];exact hI j EP
   ·have:j=i:=by omega
    subst this;have gd4:S.getD j (.i 0)=S[j]:=by rw[cE,cB bi];rfl
    rw[aE (by omega),aA (by omega),gd4,es];exact⟨E,hE,fun m hm=>hJ m (by omega),rfl⟩
 ·have Ns:i=S.length:=by omega
  subst Ns;simp only[w1,ld,aT];refine ar.ite (fun Fw=>absurd Fw (by omega)) fun _=> ?_;rw[drop_length,uP];exact ar.some fun _=>⟨D,rfl,hD,hI⟩
section
variable{a b c x:Sc}{S:ab}
def ZZ{s t u u':Sc}(h:RtC a b S c s t u)(h':RtC a b (S++[x]) c s t u'):u'=u:=by
 obtain⟨P,body,z,h1,h2,_,rfl⟩:=h;obtain⟨P',avQ,z',DC,P4,_,rfl⟩:=h';have h3:=VX (S:=S) (x:=x) (by simp[aU]) rfl h1;replace h3:Gf 52 ([a,b,.l (S++[x]),c]++aU 13 s++aU 4 t)=some [P]:=h3;rw[DC]at h3;cases h3
 rw[P4]at h2;cases h2
 rfl
def aaa{s v v':Sc}(h:JV a b S c s v)(h':JV a b (S++[x]) c s v'):v'=v:=by
 obtain⟨E,h1,h2,rfl⟩:=h;obtain⟨E',DC,P4,rfl⟩:=h';have:E'=E:=by refine ext_getElem (by omega) fun j g1 g2=> ?_;have e1:=P4 j g1;have e2:=h2 j g2;have:=ZZ e2 e1;rw[cE,cE,cB g1,cB g2]at this;exact this
 rw[this]
def Qr{V V':ab}(h1:V.length=S.length)(h2:∀i,i<S.length->JV a b S c (S.getD i (.i 0)) (V.getD i (.i 0)))(DC:V'.length=(S++[x]).length)(P4:∀i,i<(S++[x]).length->JV a b (S++[x]) c ((S++[x]).getD i (.i 0)) (V'.getD i (.i 0))):∃y,V'=V++[y]:=by
 rw[fR,BM]at DC;refine⟨V'.getD S.length (.i 0),ext_getElem (by simp[DC,h1]) fun j g1 g2=> ?_⟩;rw[fR,BM,h1]at g2;by_cases hj:j<S.length
 ·have e1:=h2 j hj;have e2:=P4 j (by rw[fR];omega);rw[iB hj]at e2;have:=aaa e1 e2;rw[cE,cE,cB g1,cB (by omega)]at this;rw[getElem_append_left (by omega)];exact this
 ·have:j=S.length:=by omega
  subst this;rw[getElem_append_right (by omega)];simp only[h1,Ad,getElem_cons_zero];rw[cE,cB g1];rfl
end
section
variable{a b c x:Sc}{V:ab}
def SE{f l code z:Sc}{i:Nat}(h:Gf 55 [a,b,.l V,c,.i (i:Int),f,l]=some [code,z])(h0:z.int=0):∃w,Gf 101 ([a,b,.l V,c,b,f]++aU 13 (V.getD i (.i 0))++[.i 0,l])=some [code,w]:=by
 rw[xg]at h;replace h:fQ.aF Gf [a,b,.l V,c,.i (i:Int),f,l] []=some [code,z]:=h;suffices hq:ar (fQ.aF Gf [a,b,.l V,c,.i (i:Int),f,l] []) (fun r=>(r.getD 1 (.i 0)).int=0->∃w,Gf 101 ([a,b,.l V,c,b,f]++aU 13 (V.getD i (.i 0))++[.i 0,l])=some [r.getD 0 (.i 0),w])from hq _ h h0;unfold fQ;simp only[iT,aT];refine ar.call fun r1 _ wj=> ?_;obtain⟨y,rfl⟩:=bL wj;simp only[aT];refine ar.ite (fun hz=>ar.some fun e=>absurd e hz) fun _=> ?_;repeat(refine ar.aa fun _=> ?_)
 refine ar.call fun r2 hc oa=> ?_;obtain⟨p,q,rfl⟩:∃x y,r2=[x,y]:=by
  match r2,oa with
  |[x,y],_=>exact⟨x,y,rfl⟩
 simp only[aT];refine ar.ite (fun hz=>ar.some fun e=>absurd e hz) fun _=> ?_;exact ar.some fun _=>⟨q,hc⟩
def abO{f l code z Kw z':Sc}{i:Nat}(hV:V.length<=10000000)(hi:i<V.length)(h:Gf 55 [a,b,.l V,c,.i (i:Int),f,l]=some [code,z])(h0:z.int=0)(h':Gf 55 [a,b,.l (V++[x]),c,.i (i:Int),f,l]=some [Kw,z'])(QM:z'.int=0):Kw=code:=by
 obtain⟨w,g⟩:=SE h h0;obtain⟨w',g'⟩:=SE h' QM;rw[iB hi]at g';have g2:=acG (x:=x) hV (by simp) rfl g;replace g2:Gf 101 ([a,b,.l (V++[x]),c,b,f]++aU 13 (V.getD i (.i 0))++[.i 0,l])=some [code,w]:=g2;rw[g']at g2;cases g2
 rfl
def ald:Sc:= .l [.i 19,.i 0,.i 0,.i 0,.i 0,.s ⟨#[]⟩,.i 0,.l [],.i 0,.s ⟨#[]⟩,.i 0,.l [],.l [],.i 0,.i 0,.i 0,.i 0,.l [],.l [],.b false]
def SD{i j:Nat}{r:ab}(h:Gf 31 [a,b,.l V,c,.i (i:Int),.i (j:Int)]=some r)(h0:(r.getD 4 (.i 0)).int=0):i<V.length/\
 ∃f code z,Gf 54 [.l [(((V.getD i (.i 0)).list.getD 10 (.i 0)).list.getD j (.i 0)).list.getD 1 (.i 0),(((V.getD i (.i 0)).list.getD 10 (.i 0)).list.getD j (.i 0)).list.getD 2 (.i 0)]]=some [f]/\Gf 55 [a,b,.l V,c,.i (i:Int),f,(((V.getD i (.i 0)).list.getD 10 (.i 0)).list.getD j (.i 0)).list.getD 3 (.i 0)]=some [code,z]/\z.int=0/\
  r=[(((V.getD i (.i 0)).list.getD 10 (.i 0)).list.getD j (.i 0)).list.getD 0 (.i 0),.i ((((V.getD i (.i 0)).list.getD 10 (.i 0)).list.getD j (.i 0)).list.getD 1 (.i 0)).list.length,.i f.list.length,.l (code.list++[ald]),.i 0]:=by
 rw[tG]at h
 replace h:eK.aF Gf [a,b,.l V,c,.i (i:Int),.i (j:Int)] []=some r:=h
 generalize ht:((V.getD i (.i 0)).list.getD 10 (.i 0)).list.getD j (.i 0)=t
 suffices hq:ar (eK.aF Gf [a,b,.l V,c,.i (i:Int),.i (j:Int)] []) (fun r=>(r.getD 4 (.i 0)).int=0->i<V.length/\∃f code z,Gf 54 [.l [t.list.getD 1 (.i 0),t.list.getD 2 (.i 0)]]=some [f]/\Gf 55 [a,b,.l V,c,.i (i:Int),f,t.list.getD 3 (.i 0)]=some [code,z]/\z.int=0/\r=[t.list.getD 0 (.i 0),.i (t.list.getD 1 (.i 0)).list.length,.i f.list.length,.l (code.list++[ald]),.i 0])from hq _ h h0
 unfold eK
 simp only[iT,ht,aT]
 refine ar.call fun r1 _ wj=> ?_
 obtain⟨y,rfl⟩:=bL wj
 simp only[aT]
 refine ar.ite (fun hz=>ar.some fun e=>absurd e hz) fun _=> ?_
 refine ar.ite (fun hz=>ar.some fun e=>absurd e (by decide)) fun _=> ?_
 refine ar.ite (fun hz=>ar.some fun e=>absurd e (by decide)) fun a2=> ?_
 refine ar.ite (fun hz=>ar.some fun e=>absurd e (by decide)) fun _=> ?_
 repeat(refine ar.aa fun _=> ?_)
 refine ar.ite (fun hz=>ar.some fun e=>absurd e (by decide)) fun _=> ?_
 repeat(refine ar.aa fun _=> ?_)
 refine ar.call fun r2 hc oa=> ?_
 obtain⟨f,rfl⟩:=bL oa
 simp only[aT]
 refine ar.call fun r3 Jj HM=> ?_
 obtain⟨p,q,rfl⟩:∃x y,r3=[x,y]:=by
  match r3,HM with
  |[x,y],_=>exact⟨x,y,rfl⟩
 simp only[aT]
 refine ar.ite (fun hz=>ar.some fun e=>absurd e hz) fun hz=> ?_
 repeat(refine ar.aa fun _=> ?_)
 refine ar.ite (fun hz=>ar.some fun e=>absurd e (by decide)) fun _=> ?_
 exact ar.some fun _=>⟨by omega,f,p,q,hc,Jj,by simpa using hz,rfl⟩
def abN{i j:Nat}{r r':ab}(hV:V.length<=10000000)(hi:i<V.length)(h:Gf 31 [a,b,.l V,c,.i (i:Int),.i (j:Int)]=some r)(h0:(r.getD 4 (.i 0)).int=0)(h':Gf 31 [a,b,.l (V++[x]),c,.i (i:Int),.i (j:Int)]=some r')(QM:(r'.getD 4 (.i 0)).int=0):r'=r:=by
 obtain⟨_,f,code,z,g1,g2,g3,rfl⟩:=SD h h0;obtain⟨_,f',Kw,z',g1',g2',g3',rfl⟩:=SD h' QM;rw[iB hi]at g1' g2'⊢;rw[g1]at g1';cases g1'
 rw[abO hV hi g2 g3 g2' g3']
end
def abn{nm:Sc}{S LK:ab}(hl:LK.length<=10000000)(hi:∀a∈LK,(∃z,a.list.getD 0 (.i 0)= .i z)/\∃z,a.list.getD 1 (.i 0)= .i z){x:Sc}(h:Gf 60 [nm,.l S,.l LK]=some [x])(hx:x.int=0):∀a∈LK,0<=(a.list.getD 0 (.i 0)).int/\0<=(a.list.getD 1 (.i 0)).int:=by
 rw[EB]at h;replace h:jg.aF Gf [nm,.l S,.l LK] []=some [x]:=h;suffices hq:ar (jg.aF Gf [nm,.l S,.l LK] []) (GA _)from hq _ h hx;unfold jg;simp only[aT];refine ar.ite (fun _=>aP (by decide)) fun _=> ?_;refine ar.loop (fun w=>∃(i:Nat)(m:Sc),w=[.i (i:Int),m]/\i<=LK.length/\∀j,j<i->0<=((LK.getD j (.i 0)).list.getD 0 (.i 0)).int/\0<=((LK.getD j (.i 0)).list.getD 1 (.i 0)).int) ⟨0,_,rfl,xA _,fun j h=>by omega⟩ ?_;rintro w rec ⟨i,m,rfl,Ns,hI⟩ hr;have w1:=cM (i:=i) (by omega);by_cases bi:i<LK.length
 ·obtain⟨⟨z0,h0⟩,z1,h1⟩:=hi _ (bh (xs:=LK) bi);simp only[w1,h0,h1,aeT,Zv,aT];refine ar.ite (fun _=> ?_) fun xj=>absurd (by omega) xj;repeat(refine ar.aa fun _=> ?_)
  refine ar.ite (fun _=>aP (by decide)) fun a1=> ?_;refine ar.ite (fun _=>aP (by decide)) fun a2=> ?_;have qu:∀m',ar (rec [.i ((i+1:Nat):Int),m']) (GA (∀a∈LK,0<=(a.list.getD 0 (.i 0)).int/\0<=(a.list.getD 1 (.i 0)).int)):=by
   intro m';refine hr _ ⟨i+1,m',rfl,by omega,fun j hj=> ?_⟩;rcases qe.1 hj with hj|rfl
   ·exact hI j hj
   ·rw[h0,h1];show 0<=z0/\0<=z1;split at a1<;>omega
  refine ar.ite (fun _=> ?_) fun _=> ?_
  ·refine ar.ite (fun _=>aP (by decide)) fun _=> ?_;refine ar.ite (fun _=>aP (by decide)) fun _=>qu _
  ·refine ar.ite (fun _=>aP (by decide)) fun _=> ?_;refine ar.ite (fun _=>aP (by decide)) fun _=> ?_;refine ar.ite (fun _=>aP (by decide)) fun _=>qu _
 ·simp only[w1,aT];refine ar.ite (fun h=>absurd h (by omega)) fun _=> ?_;refine pV fun a ha=> ?_;obtain⟨j,hj,rfl⟩:=gH ha;exact hI j (by omega)
def Bx(t:Sc):Sc:= .l [t.list.getD 0 (.i 0),t.list.getD 1 (.i 0),t.list.getD 2 (.i 0),.l []]
def SiM(a:Sc)(V:ab)(c:Sc)(i:Nat)(v u:Sc):Prop:=∃E:ab,E.length=(v.list.getD 10 (.i 0)).list.length/\(∀k:Nat,k<E.length->∃r,Gf 31 [a,.l [],.l V,c,.i (i:Int),.i (k:Int)]=some r/\(r.getD 4 (.i 0)).int=0/\E.getD k (.i 0)= .l (r.take 4))/\u= .l (v.list.set 10 (.l ((v.list.getD 10 (.i 0)).list.map Bx))++[.l E])
def LkM(a:Sc)(V:ab)(c t u:Sc):Prop:=∃p q,Gf 32 [a,.l [],.l V,c,t.list.getD 0 (.i 0)]=some [p]/\Gf 32 [a,.l [],.l V,c,t.list.getD 1 (.i 0)]=some [q]/\u= .l [p,q,t.list.getD 2 (.i 0)]
def ahC{r:ab}(h:r.length=5):∃p0 p1 p2 p3 p4,r=[p0,p1,p2,p3,p4]:=by
 match r,h with
 |[p0,p1,p2,p3,p4],_=>exact⟨p0,p1,p2,p3,p4,rfl⟩
def Qs{a b:Sc}{S lk:ab}(hlk:lk.length<=10000000)(fm:∀r,Gf 29 [a,b,.l S,.l lk]=some r->(r.getD 4 (.i 0)).int=0->∃V,r=[a,.l [],.l V,.l lk,.i 0]/\V.length<=10000000/\∀v∈V,SiF v){r:ab}(h:Gf 14 [a,b,.l S,.l lk]=some r)(h0:(r.getD 3 (.i 0)).int=0):
 ∃V T K,Gf 29 [a,b,.l S,.l lk]=some [a,.l [],.l V,.l lk,.i 0]/\r=[a,.l T,.l K,.i 0]/\T.length=V.length/\(∀i:Nat,i<V.length->SiM a V (.l lk) i (V.getD i (.i 0)) (T.getD i (.i 0)))/\K.length=lk.length/\∀j,j<lk.length->LkM a V (.l lk) (lk.getD j (.i 0)) (K.getD j (.i 0)):=by
 rw[xf]at h
 replace h:fP.aF Gf [a,b,.l S,.l lk] []=some r:=h
 suffices hq:ar (fP.aF Gf [a,b,.l S,.l lk] []) (fun r=>(r.getD 3 (.i 0)).int=0->∃V T K,Gf 29 [a,b,.l S,.l lk]=some [a,.l [],.l V,.l lk,.i 0]/\r=[a,.l T,.l K,.i 0]/\T.length=V.length/\(∀i:Nat,i<V.length->SiM a V (.l lk) i (V.getD i (.i 0)) (T.getD i (.i 0)))/\K.length=lk.length/\∀j,j<lk.length->LkM a V (.l lk) (lk.getD j (.i 0)) (K.getD j (.i 0)))from hq _ h h0
 unfold fP
 simp only[aT]
 refine ar.call fun r5 hc5 hr5=> ?_
 obtain⟨p0,p1,p2,p3,p4,rfl⟩:=ahC hr5
 simp only[iT,aT]
 refine ar.ite (fun hz=>ar.some fun e=>absurd e hz) fun hz=> ?_
 obtain⟨V,e5,hVl,hV⟩:=fm _ hc5 (by simpa using hz)
 cases e5
 refine ar.loop (fun w=>∃(i:Nat)(D:ab),w=[.i (i:Int),.l D]/\i<=V.length/\D.length=i/\∀j,j<i->SiM a V (.l lk) j (V.getD j (.i 0)) (D.getD j (.i 0))) ⟨0,[],rfl,xA _,rfl,fun j h=>by omega⟩ ?_
 rintro w rec ⟨i,D,rfl,hi,hD,hI⟩ hr
 have w1:=cM (i:=i) (by omega)
 by_cases bi:i<V.length
 ·have gd:V.getD i (.i 0)=V[i]:=by rw[cE,cB bi];rfl
  obtain⟨c0,c1,c2,c3,c4,c5,c6,c7,c8,c9,vE,fx,fA,es,Vd,X8,KN⟩:=(hV _ (BQ bi)).f;rw[es]at gd;simp only[w1,gd,X8,aT,Nat.reduceAdd];refine ar.ite (fun _=> ?_) fun xj=>absurd (by omega) xj;repeat(refine ar.aa fun _=> ?_)
  refine ar.loop (fun w=>∃(k:Nat)(E:ab),w=[.i (k:Int),.l E,.l ((vE.take k).map Bx++vE.drop k)]/\k<=vE.length/\E.length=k/\∀m:Nat,m<k->∃r,Gf 31 [a,.l [],.l V,.l lk,.i (i:Int),.i (m:Int)]=some r/\(r.getD 4 (.i 0)).int=0/\E.getD m (.i 0)= .l (r.take 4)) ⟨0,[],rfl,xA _,rfl,fun j h=>by omega⟩ ?_;rintro w tp ⟨k,E,rfl,hk,hE,hJ⟩ oa;have w2:=cM (i:=k) (by omega);have hG:((vE.take k).map Bx).length=k:=by rw[Ab,iW];omega
  have ld2:=H6 (E:=(vE.take k).map Bx) hG hk;by_cases xM:k<vE.length
  ·have gd2:=Hv (E:=(vE.take k).map Bx) hG xM;obtain⟨t0,t1,t2,t3,et⟩:=KN _ (BQ xM);rw[et]at gd2;simp only[w2,gd2,ld2,aT];refine ar.ite (fun _=> ?_) fun xj=>absurd (by omega) xj;repeat(refine ar.aa fun _=> ?_)
   refine ar.call fun r1 zM wj=> ?_;obtain⟨q0,q1,q2,q3,q4,rfl⟩:=ahC wj;simp only[aT];refine ar.ite (fun hz=>ar.some fun e=>absurd e hz) fun nQ=> ?_;repeat(refine ar.aa fun _=> ?_)
   rw[Ng,set_drop hG xM];have es2:(vE.take k).map Bx++[.l [t0,t1,t2,.l []]]=(vE.take (k+1)).map Bx:=by rw[take_add_one,cB xM,et,BP];rfl
   rw[es2];refine oa _ ⟨k+1,_,rfl,xM,by rw[fR,hE];rfl,fun j hj=> ?_⟩;rw[rP];by_cases hjk:j<k
   ·rw[aA (by omega)];exact hJ j hjk
   ·have:j=k:=by omega
    subst this;rw[aE (by omega),aA (by omega)];exact⟨_,zM,by simpa using nQ,rfl⟩
  ·have m5:k=vE.length:=by omega
   subst m5;simp only[w2,ld2,aT];refine ar.ite (fun Fw=>absurd Fw (by omega)) fun _=> ?_;repeat(refine ar.aa fun _=> ?_)
   rw[drop_length,uP,take_length];refine hr _ ⟨i+1,_,rfl,bi,by rw[fR,hD];rfl,fun j hj=> ?_⟩;rw[rP];by_cases EP:j<i
   ·rw[aA (by omega)];exact hI j EP
   ·have:j=i:=by omega
    subst this;rw[aE (by omega),aA (by omega),gd];exact⟨E,hE,fun m hm=>hJ m (by omega),rfl⟩
 ·have Ns:i=V.length:=by omega
  subst Ns;simp only[w1,aT];refine ar.ite (fun Fw=>absurd Fw (by omega)) fun _=> ?_;refine ar.loop (fun w=>∃(i:Nat)(K:ab),w=[.i (i:Int),.l K]/\i<=lk.length/\K.length=i/\∀j,j<i->LkM a V (.l lk) (lk.getD j (.i 0)) (K.getD j (.i 0))) ⟨0,[],rfl,xA _,rfl,fun j h=>by omega⟩ ?_;rintro w tp ⟨i,K,rfl,hi3,hK,hJ⟩ oa;have w2:=cM (i:=i) (by omega);by_cases xM:i<lk.length
  ·simp only[w2,aT];refine ar.ite (fun _=> ?_) fun xj=>absurd (by omega) xj;repeat(refine ar.aa fun _=> ?_)
   refine ar.call fun r1 zM wj=> ?_;obtain⟨p,rfl⟩:=bL wj;simp only[aT];refine ar.call fun r3 Jj HM=> ?_;obtain⟨q,rfl⟩:=bL HM;simp only[aT];repeat(refine ar.aa fun _=> ?_)
   refine oa _ ⟨i+1,_,rfl,xM,by rw[fR,hK];rfl,fun j hj=> ?_⟩;rw[rP];by_cases EP:j<i
   ·rw[aA (by omega)];exact hJ j EP
   ·have:j=i:=by omega
    subst this;rw[aE (by omega),aA (by omega)];exact⟨p,q,zM,Jj,rfl⟩
  ·have hi4:i=lk.length:=by omega
   subst hi4;simp only[w2,aT];refine ar.ite (fun Fw=>absurd Fw (by omega)) fun _=> ?_;exact ar.some fun _=>⟨V,D,K,hc5,rfl,hD,hI,hK,hJ⟩
section
variable{a c y:Sc}{V:ab}
def aab{i:Nat}{v u u':Sc}(hV:V.length<=10000000)(hi:i<V.length)(h:SiM a V c i v u)(h':SiM a (V++[y]) c i v u'):u'=u:=by
 obtain⟨E,h1,h2,rfl⟩:=h;obtain⟨E',DC,P4,rfl⟩:=h';have:E'=E:=by refine ext_getElem (by omega) fun j g1 g2=> ?_;obtain⟨r',d1',d2',d3'⟩:=P4 j g1;obtain⟨r,d1,d2,d3⟩:=h2 j g2;rw[abN hV hi d1 d2 d1' d2',<-d3]at d3';rw[cE,cE,cB g1,cB g2]at d3';exact d3'
 rw[this]
def Zd{t u u':Sc}(hV:V.length<=10000000)(h0:0<=(u.list.getD 0 (.i 0)).int)(h1:0<=(u.list.getD 1 (.i 0)).int)(h:LkM a V c t u)(h':LkM a (V++[y]) c t u'):u'=u:=by
 obtain⟨p,q,d1,d2,rfl⟩:=h;obtain⟨p',q',d1',d2',rfl⟩:=h';rw[za (by omega)]at d1 d2;rw[za (by rw[fR,BM];omega)]at d1' d2';cases d1;cases d2;cases d1';cases d2'
 rw[F1 V 0 h0,F1 V 0 h1]
def Sm{V V' T T':ab}{P P':Nat->Sc->Sc->Prop}(hu:∀i v u u',i<V.length->P i v u->P' i v u'->u'=u)(hVV:V'=V++[y])(h1:T.length=V.length)(h2:∀i,i<V.length->P i (V.getD i (.i 0)) (T.getD i (.i 0)))(DC:T'.length=V'.length)(P4:∀i,i<V'.length->P' i (V'.getD i (.i 0)) (T'.getD i (.i 0))):∃y',T'=T++[y']:=by
 subst hVV;rw[fR,BM]at DC;refine⟨T'.getD V.length (.i 0),ext_getElem (by simp[DC,h1]) fun j g1 g2=> ?_⟩;rw[fR,BM,h1]at g2;by_cases hj:j<V.length
 ·have e1:=h2 j hj;have e2:=P4 j (by rw[fR];omega);rw[iB hj]at e2;have:=hu j _ _ _ hj e1 e2;rw[cE,cE,cB g1,cB (by omega)]at this;rw[getElem_append_left (by omega)];exact this
 ·have:j=V.length:=by omega
  subst this;rw[getElem_append_right (by omega)];simp only[h1,Ad,getElem_cons_zero];rw[cE,cB g1];rfl
def all_eq{C K K':ab}{P P':Sc->Sc->Prop}(hu:∀t u u',u∈K->P t u->P' t u'->u'=u)(h1:K.length=C.length)(h2:∀i,i<C.length->P (C.getD i (.i 0)) (K.getD i (.i 0)))(DC:K'.length=C.length)(P4:∀i,i<C.length->P' (C.getD i (.i 0)) (K'.getD i (.i 0))):K'=K:=by refine ext_getElem (by omega) fun j g1 g2=> ?_;have:=hu _ _ _ (bh (by omega)) (h2 j (by omega)) (P4 j (by omega));rw[cE,cE,cB g1,cB g2]at this;exact this
end
def Je{a lk s d:Sc}{T:ab}(hT:T.length<=10000001){r:ab}(h:Gf 15 [a,.l T,lk,s,d]=some r)(h0:(r.getD 1 (.i 0)).int=0):
 (∃z,Gf 33 [a,.l T,lk]=some [z]/\z.int=0)/\∃W,r=[.l W,.i 0]/\W.length=T.length/\∀i,i<T.length->∃q,Gf 34 [a,.l T,lk,.i (i:Int),s,d]=some q/\(q.getD 18 (.i 0)).int=0/\W.getD i (.i 0)= .l (q.take 18):=by
 rw[Ob]at h
 replace h:rG.aF Gf [a,.l T,lk,s,d] []=some r:=h
 suffices hq:ar (rG.aF Gf [a,.l T,lk,s,d] []) (fun r=>(r.getD 1 (.i 0)).int=0->(∃z,Gf 33 [a,.l T,lk]=some [z]/\z.int=0)/\∃W,r=[.l W,.i 0]/\W.length=T.length/\∀i:Nat,i<T.length->∃q,Gf 34 [a,.l T,lk,.i (i:Int),s,d]=some q/\(q.getD 18 (.i 0)).int=0/\W.getD i (.i 0)= .l (q.take 18))from hq _ h h0
 unfold rG
 simp only[iT,aT]
 refine ar.call fun r1 zM wj=> ?_
 obtain⟨z,rfl⟩:=bL wj
 simp only[aT]
 refine ar.ite (fun hz=>ar.some fun e=>absurd e hz) fun hz=> ?_
 refine ar.loop (fun w=>∃(i:Nat)(W:ab),w=[.i (i:Int),.l W]/\i<=T.length/\W.length=i/\∀j:Nat,j<i->∃q,Gf 34 [a,.l T,lk,.i (j:Int),s,d]=some q/\(q.getD 18 (.i 0)).int=0/\W.getD j (.i 0)= .l (q.take 18)) ⟨0,[],rfl,xA _,rfl,fun j h=>by omega⟩ ?_
 rintro w rec ⟨i,W,rfl,hi,hW,hI⟩ hr
 have w1:=cM (i:=i) (by omega)
 by_cases bi:i<T.length
 ·simp only[w1,aT];refine ar.ite (fun _=> ?_) fun xj=>absurd (by omega) xj;refine ar.call fun q hc hq=> ?_;obtain⟨b0,b1,b2,b3,b4,b5,b6,b7,b8,b9,b10,b11,b12,b13,b14,b15,b16,b17,b18,rfl⟩:∃b0 b1 b2 b3 b4 b5 b6 b7 b8 b9 b10 b11 b12 b13 b14 b15 b16 b17 b18,q=[b0,b1,b2,b3,b4,b5,b6,b7,b8,b9,b10,b11,b12,b13,b14,b15,b16,b17,b18]:=by
   match q,hq with
   |[b0,b1,b2,b3,b4,b5,b6,b7,b8,b9,b10,b11,b12,b13,b14,b15,b16,b17,b18],_=>exact⟨b0,b1,b2,b3,b4,b5,b6,b7,b8,b9,b10,b11,b12,b13,b14,b15,b16,b17,b18,rfl⟩
  simp only[aT];refine ar.ite (fun hz=>ar.some fun e=>absurd e hz) fun nQ=> ?_;repeat(refine ar.aa fun _=> ?_)
  refine hr _ ⟨i+1,_,rfl,bi,by rw[fR,hW];rfl,fun j hj=> ?_⟩;rw[rP];by_cases EP:j<i
  ·rw[aA (by omega)];exact hI j EP
  ·have:j=i:=by omega
   subst this;rw[aE (by omega),aA (by omega)];exact⟨_,hc,by simpa using nQ,rfl⟩
 ·have Ns:i=T.length:=by omega
  subst Ns;simp only[w1,aT];refine ar.ite (fun Fw=>absurd Fw (by omega)) fun _=> ?_;exact ar.some fun _=>⟨⟨z,zM,by simpa using hz⟩,W,rfl,hW,hI⟩
def aaG{a lk s d y:Sc}{T:ab}(hT:T.length<=10000000){z z':Int}(t:Gf 33 [a,.l T,lk]=some [.i z])(t':Gf 33 [a,.l (T++[y]),lk]=some [.i z']){r r':ab}(h:Gf 15 [a,.l T,lk,s,d]=some r)(h0:(r.getD 1 (.i 0)).int=0)(h':Gf 15 [a,.l (T++[y]),lk,s,d]=some r')(QM:(r'.getD 1 (.i 0)).int=0):
 ∃W x,r=[.l W,.i 0]/\r'=[.l (W++[x]),.i 0]:=by
 obtain⟨_,W,rfl,h1,h2⟩:=Je (by omega) h h0
 obtain⟨_,W',rfl,DC,P4⟩:=Je (by rw[fR,BM];omega) h' QM
 obtain⟨x,rfl⟩:=Sm (y:=y) (V:=T) (T:=W) (T':=W') (P:=fun i _ u=>∃q,Gf 34 [a,.l T,lk,.i (i:Int),s,d]=some q/\(q.getD 18 (.i 0)).int=0/\u= .l (q.take 18)) (P':=fun i _ u=>∃q,Gf 34 [a,.l (T++[y]),lk,.i (i:Int),s,d]=some q/\(q.getD 18 (.i 0)).int=0/\u= .l (q.take 18)) (by rintro i _ u u' hi ⟨q,g1,g2,rfl⟩ ⟨q',g1',g2',rfl⟩;rw[acE hi t t' g1 g2 g1' g2']) rfl h1 h2 DC P4
 exact⟨W,x,rfl,rfl⟩
section
variable{N:Nat}(C:Cts N){pm:Pm}(hp:dG pm)
include C hp
theorem FX{nm:Sc}{S LK:ab}(hS:has am (II pm) (JJ pm N) (.aV 126) (.l S))(hn:has am (II pm) (JJ pm N) (.str 4294967296) nm)(hK:has am (II pm) (JJ pm N) (.ae 137) (.l LK)){st:Sc}(h:Aa pm st){ss:ab}(hs:Gf 38 ([nm,.l S,.l LK]++aU 18 st)=some ss)(hb:(ss.getD 29 (.i 0)).bool=true):
 cR am (II pm) (JJ pm N) dU.res ss/\∃si now x5 A P x8 x9 kI lu lx m6 ob oc nO nS pu pw vN,st= .l [.i si,.i now,x5,.l A,.l P,x8,x9,kI,lu,lx,m6,ob,oc,nO,nS,pu,pw,vN]/\A.length<=10000000/\
  ss.getD 0 (.i 0)= .i si/\0<A.length/\(ss.drop 18).take 9=aU 9 (A.getD 0 (.i 0))/\∃n:Nat,si=n/\n<S.length/\(∃ps,Gf 82 (ahZ (bS S n) A P si now x5 x8 x9 kI lu lx m6 ob oc nO nS pu pw vN)=some ps/\ss=akO si (aU 9 (A.getD 0 (.i 0))) ps)/\
   (∀e∈(ss.getD 27 (.i 0)).list,∃z,e.list.getD 4 (.i 0)= .i z/\(eD S LK n).ix mI z)/\∀e∈(ss.getD 28 (.i 0)).list,e.list.getD 1 (.i 0)= .i si:=by
 obtain⟨c,rfl,hc⟩:=h
 match c,bb hc,hc with
 |[_,_,x5,_,_,x8,x9,kI,lu,lx,m6,ob,oc,nO,nS,pu,pw,vN],_,⟨⟨si,rfl⟩,⟨now,rfl⟩,h5,h6,h7,h8,h9,Mi,Oq,P3,Ji,Wi,QN,Ot,SS,J1,KG,h20,_⟩=>
  obtain⟨A,rfl,XQ,_⟩:=(bO (k:=88) (aj (by decide+kernel))).1 h6;obtain⟨P,rfl,_⟩:=(bO (k:=223) (aj (by decide+kernel))).1 h7;have hx:cR am (II pm) (JJ pm N) dU.args [nm,.l S,.l LK,.i si,.i now,x5,.l A,.l P,x8,x9,kI,lu,lx,m6,ob,oc,nO,nS,pu,pw,vN]:=
   ⟨hn,hS,hK,⟨_,rfl⟩,⟨_,rfl⟩,bA h5,h6,h7,bA h8,bA h9,bA Mi,bA Oq,bA P3,bA Ji,bA Wi,bA QN,bA Ot,bA SS,bA J1,bA KG,bA h20,trivial⟩
  obtain⟨rs,g1,g2,g3⟩:=PF C hp hx;have e:rs=ss:=by have hs:Gf 38 [nm,.l S,.l LK,.i si,.i now,x5,.l A,.l P,x8,x9,kI,lu,lx,m6,ob,oc,nO,nS,pu,pw,vN]=some ss:=hs;rw[g1]at hs;exact xX hs
  subst e;rcases g3 with g3|⟨_,q1,q2,q3,n,q4,q5,q6,q7,q8⟩
  ·rw[g3]at hb;cases hb
  ·exact⟨g2,si,now,x5,A,P,x8,x9,kI,lu,lx,m6,ob,oc,nO,nS,pu,pw,vN,rfl,bI XQ (by decide+kernel),q1,q2,q3,n,q4,q5,q6,q7,q8⟩
theorem V7{nm nm':Sc}{S LK S' LK':ab}(hS:has am (II pm) (JJ pm N) (.aV 126) (.l S))(hn:has am (II pm) (JJ pm N) (.str 4294967296) nm)(hK:has am (II pm) (JJ pm N) (.ae 137) (.l LK))(Mj:has am (II pm) (JJ pm N) (.aV 126) (.l S'))(hn':has am (II pm) (JJ pm N) (.str 4294967296) nm')(hK':has am (II pm) (JJ pm N) (.ae 137) (.l LK')){st:Sc}(h:Aa pm st){ss ss':ab}(hs:Gf 38 ([nm,.l S,.l LK]++aU 18 st)=some ss)(hb:(ss.getD 29 (.i 0)).bool=true)(hs':Gf 38 ([nm',.l S',.l LK']++aU 18 st)=some ss')(Ml:(ss'.getD 29 (.i 0)).bool=true)(heq:∀n,n<S.length->bS S' n=bS S n):ss'=ss:=by
 obtain⟨_,si,now,x5,A,P,x8,x9,kI,lu,lx,m6,ob,oc,nO,nS,pu,pw,vN,e1,_,_,_,_,n,e2,e3,⟨ps,e4,e5⟩,_⟩:=FX C hp hS hn hK h hs hb
 obtain⟨_,si',aAi,x5',A',P',x8',x9',aA5,aA6,aA7,aA8,aA9,aBa,aBb,aBc,aBd,aBe,aBf,f1,_,_,_,_,n',f2,f3,⟨ps',f4,f5⟩,_⟩:=FX C hp Mj hn' hK' h hs' Ml
 rw[e1]at f1
 simp only[Sc.l.injEq,uQ,Sc.i.injEq,and_true]at f1
 obtain⟨rfl,rfl,rfl,rfl,rfl,rfl,rfl,rfl,rfl,rfl,rfl,rfl,rfl,rfl,rfl,rfl,rfl,rfl⟩:=f1
 have en:n'=n:=by omega
 subst en
 rw[heq n' e3,e4]at f4
 rw[e5,f5,xX f4]
end
theorem SK{nm lk:Sc}{S A P:ab}{si now:Int}{x5 x8 x9 kI lu lx m6 ob oc nO nS pu pw vN z:Sc}(hA:A.length<=10000000)(h0:0<A.length)(h:Gf 35 ([nm,.l S,lk]++aU 18 (.l [.i si,.i now,x5,.l A,.l P,x8,x9,kI,lu,lx,m6,ob,oc,nO,nS,pu,pw,vN]))=some [z])(hz:z.int=0):
 ((A.getD 0 (.i 0)).list.getD 4 (.i 0)).int=si:=by
 have h:Gf 35 [nm,.l S,lk,.i si,.i now,x5,.l A,.l P,x8,x9,kI,lu,lx,m6,ob,oc,nO,nS,pu,pw,vN]=some [z]:=h
 obtain⟨_,_,_,_,⟨z2,h2,h3⟩,_⟩:=AB h hz
 obtain⟨b,h4,h5⟩:=Pg hA h2 h3 _ (bh (xs:=A) h0)
 exact LU (c:=[.i si,.i now,x5,.l A,.l P,x8,x9,kI,lu,lx,m6,ob,oc,nO,nS,pu,pw,vN]) (e:=aU 9 (A.getD 0 (.i 0))) rfl (by simp[aU]) h4 h5
theorem cN9{e:Sc}:(aU 9 e).length=9:=by simp[aU]
theorem adQ{e:Sc}:(aU 9 e).getD 4 (.i 0)=e.list.getD 4 (.i 0):=rfl
structure Two(N:Nat)(pm:Pm)(nm:Sc)(S LK:ab)(y:Sc):Prop where
 s1:has am (II pm) (JJ pm N) (.aV 126) (.l S)
 s2:has am (II pm) (JJ pm N) (.aV 126) (.l (S++[y]))
 n:has am (II pm) (JJ pm N) (.str 4294967296) nm
 k:has am (II pm) (JJ pm N) (.ae 137) (.l LK)
theorem Pz{S:ab}{y:Sc}{n:Nat}(h:n<S.length):bS (S++[y]) n=bS S n:=iB h
section
variable{N:Nat}(C:Cts N){pm:Pm}(hp:dG pm)(tg:dQ am (II pm) (JJ pm N) Gf eN){nm:Sc}{S LK:ab}{y:Sc}(H:Two N pm nm S LK y)
include C hp tg H
theorem aaj{W:ab}{x:Sc}(hW:II pm 76 (.l W))(hV:II pm 76 (.l (W++[x]))){rs qs:ab}(hr:Gf 18 [nm,.l S,.l LK,.l W]=some rs)(hrb:(rs.getD 11 (.i 0)).bool=true)(hq:Gf 18 [nm,.l (S++[y]),.l LK,.l (W++[x])]=some qs)(hqb:(qs.getD 11 (.i 0)).bool=true)(qu:lL (W++[x]) (W++[x]).length=lL W W.length):
 ∃W' e9 r,rs=[.l W']++e9++[r,.b true]/\qs=[.l (W'++[x])]++e9++[r,.b true]/\W'.length=W.length/\e9.length=9/\(e9.getD 4 (.i 0)).int<(W.length:Int)/\∀e∈r.list,(e.list.getD 1 (.i 0)).int<(W.length:Int):=by
 have hWl:W.length<=10000000:=bI (vQ (k:=76) (by decide+kernel) hW) (by decide+kernel)
 have alD:=oT hp hW
 obtain⟨f1,⟨z1,c1,c2⟩,ss,W',z0,d1,d2,d3,d4,d5,rfl⟩:=Ei hp tg hW hr hrb
 obtain⟨_,_,ss',V',z0',d1',d2',d3',d4',d5',rfl⟩:=Ei hp tg hV hq hqb
 rw[qu]at d1' d4'
 obtain⟨_,_,h3⟩:=wB hp tg alD W.length (aX _)
 have hi:=(h3 f1).1
 generalize(lL W W.length).1=i at*
 rw[iB hi]at d1'
 rw[IR hi]at d4'
 have fC:=alD _ (bh (xs:=W) hi)
 obtain⟨_,w2,_,w4⟩:=BG hp tg hWl c1 c2
 have HN:=V7 C hp H.s1 H.n H.k H.s2 H.n H.k fC d1 d3 d1' d3' (fun n hn=>Pz hn)
 subst HN
 obtain⟨JS,si,now,x5,A,P,x8,x9,kI,lu,lx,m6,ob,oc,nO,nS,pu,pw,vN,est,XQ,e1,e2,e3,n,rfl,e5,_,e7,e8⟩:=FX C hp H.s1 H.n H.k fC d1 d3
 obtain⟨zc,zM,DH⟩:=w4 i hi
 rw[est]at zM
 have YD:=SK XQ e2 zM DH
 have amE:∃mK,ss'.getD 27 (.i 0)= .l mK/\mK.length<=10000000/\II pm 76 (.l (W.set i (.l (ss'.take 18))))/\II pm 76 (.l (W.set i (.l (ss'.take 18))++[x])):=by
  obtain⟨a0,a1,a2,a3,a4,a5,a6,a7,a8,a9,Fb,GC,a12,FO,Ly,Lz,Kd,a17,PZ,P0,a20,a21,a22,a23,a24,a25,a26,P1,a28,a29,rfl⟩:=TH d2;obtain⟨q0,q1,q2,q3,q4,q5,q6,q7,q8,q9,K7,ZK,q12,q13,q14,q15,q16,q17,_,_,_,_,_,_,_,_,_,q27,_⟩:=JS;obtain⟨mK,e,hl,_⟩:=(bO (k:=88) (aj (by decide+kernel))).1 q27;have rQ:cA am (II pm) (JJ pm N) 76 (.l [a0,a1,a2,a3,a4,a5,a6,a7,a8,a9,Fb,GC,a12,FO,Ly,Lz,Kd,a17]):=by
   unfold cA;rw[M4];refine⟨⟨_,rfl,q0,q1,q2,q3,q4,q5,q6,q7,q8,q9,K7,ZK,q12,q13,q14,q15,q16,q17,trivial⟩,fun q hq=> ?_⟩;have:(am.ma 76).isEmpty=true:=by decide+kernel
   rw[uO.1 this]at hq;cases hq
  have hT:=cY hp (N:=N);refine⟨mK,e,bI hl (by decide+kernel),hT.mu 76 W i _ (aj (by decide+kernel)) hW rQ,?_⟩;rw[<-IR hi];exact hT.mu 76 (W++[x]) i _ (aj (by decide+kernel)) hV rQ
 obtain⟨mK,Wo,X6,hs3,hs4⟩:=amE
 rw[Wo]at d4 d4' e7
 have hlen:(W.set i (.l (ss'.take 18))).length=W.length:=BO
 obtain⟨B,b1,b2,b3⟩:=LV hp (x:=x) hs3 hs4 (fun e he=>by obtain⟨z,hz,Va⟩:=e7 e he;rw[AF,aE (by decide),aA rfl]at Va;obtain⟨m,rfl,hm,_⟩:=Va;exact⟨m,hz,by rw[hlen,w2];exact hm⟩) X6 d4 d5
 simp only[uQ,and_true]at b1
 obtain⟨rfl,rfl⟩:=b1
 rw[b3]at d4'
 simp only[eF,uQ,and_true]at d4'
 obtain⟨rfl,rfl⟩:=d4'
 refine⟨B,_,_,rfl,rfl,b2.trans hlen,by rw[e3];exact cN9,?_,fun e he=> ?_⟩
 ·rw[e3,adQ,YD,w2];omega
 ·rw[e8 e he,w2];show(n:Int)<_;omega
theorem aai(Dh:∀a∈LK,(a.list.getD 0 (.i 0)).int≠S.length){W:ab}{x:Sc}(hV:II pm 76 (.l (W++[x])))(hx:Aa pm x){qs:ab}(hq:Gf 18 [nm,.l (S++[y]),.l LK,.l (W++[x])]=some qs)(hqb:(qs.getD 11 (.i 0)).bool=true)(qu:(lL (W++[x]) (W++[x]).length).1=W.length):
 W.length=S.length/\∃x' e9 r,qs=[.l (W++[x'])]++e9++[r,.b true]/\e9.length=9/\(e9.getD 4 (.i 0)).int=(W.length:Int)/\∀e∈r.list,(e.list.getD 1 (.i 0)).int=(W.length:Int):=by
 have hVl:(W++[x]).length<=10000000:=bI (vQ (k:=76) (by decide+kernel) hV) (by decide+kernel)
 obtain⟨_,⟨z1,c1,c2⟩,ss,V',z0,d1,d2,d3,d4,d5,rfl⟩:=Ei hp tg hV hq hqb
 rw[qu]at d1 d4
 rw[vb]at d1
 obtain⟨_,w2,w3,w4⟩:=BG hp tg hVl c1 c2
 have hlen:W.length=S.length:=by simpa using w2
 obtain⟨JS,si,now,x5,A,P,x8,x9,kI,lu,lx,m6,ob,oc,nO,nS,pu,pw,vN,est,XQ,e1,e2,e3,n,rfl,e5,_,e7,e8⟩:=FX C hp H.s2 H.n H.k hx d1 d3
 obtain⟨zc,zM,DH⟩:=w4 W.length (by simp)
 rw[vb,est]at zM
 have YD:=SK XQ e2 zM DH
 have hnn:(n:Int)=W.length:=by have:=w3 W.length (by simp);rw[vb,est]at this;exact this
 have agS:∃mK,ss.getD 27 (.i 0)= .l mK:=by obtain⟨a0,a1,a2,a3,a4,a5,a6,a7,a8,a9,Fb,GC,a12,FO,Ly,Lz,Kd,a17,PZ,P0,a20,a21,a22,a23,a24,a25,a26,P1,a28,a29,rfl⟩:=TH d2;obtain⟨_,_,_,_,_,_,_,_,_,_,_,_,_,_,_,_,_,_,_,_,_,_,_,_,_,_,_,q27,_⟩:=JS;obtain⟨mK,e,_⟩:=(bO (k:=88) (aj (by decide+kernel))).1 q27;exact⟨mK,e⟩
 obtain⟨mK,hs⟩:=agS
 have hs0:mK=[]:=by
  cases mK with
  |nil=>rfl|cons e l=>
   obtain⟨z,hz,Va⟩:=e7 e (by rw[hs];exact fc ..);rw[AF,aE (by decide),aA rfl]at Va;obtain⟨m,_,_,a,ha,ha2,_⟩:=Va;exact absurd (by rw[ha2];omega) (Dh a ha)
 rw[hs,hs0]at d4
 have Ag:(W++[x]).set W.length (.l (ss.take 18))=W++[.l (ss.take 18)]:=by rw[set_append_right _ _ (aX _),Ad];rfl
 rw[Ag]at d4
 have hV2:II pm 76 (.l (W++[.l (ss.take 18)])):=by
  rw[<-Ag];obtain⟨a0,a1,a2,a3,a4,a5,a6,a7,a8,a9,Fb,GC,a12,FO,Ly,Lz,Kd,a17,PZ,P0,a20,a21,a22,a23,a24,a25,a26,P1,a28,a29,rfl⟩:=TH d2;obtain⟨q0,q1,q2,q3,q4,q5,q6,q7,q8,q9,K7,ZK,q12,q13,q14,q15,q16,q17,_⟩:=JS;have rQ:cA am (II pm) (JJ pm N) 76 (.l [a0,a1,a2,a3,a4,a5,a6,a7,a8,a9,Fb,GC,a12,FO,Ly,Lz,Kd,a17]):=by
   unfold cA;rw[M4];refine⟨⟨_,rfl,q0,q1,q2,q3,q4,q5,q6,q7,q8,q9,K7,ZK,q12,q13,q14,q15,q16,q17,trivial⟩,fun q hq=> ?_⟩;have:(am.ma 76).isEmpty=true:=by decide+kernel
   rw[uO.1 this]at hq;cases hq
  exact(cY hp (N:=N)).mu 76 (W++[x]) W.length _ (aj (by decide+kernel)) hV rQ
 rw[N6 hp hV2]at d4
 simp only[eF,uQ,and_true]at d4
 obtain⟨rfl,rfl⟩:=d4
 refine⟨hlen,_,_,_,rfl,by rw[e3];exact cN9,?_,fun e he=> ?_⟩
 ·rw[e3,adQ,YD];exact hnn
 ·rw[e8 e he];exact hnn
end
inductive Trc(nm S lk:Sc)(u:Int):ab->ab->ab->Prop where
 |done {W:ab}:Ds W u=false->Trc nm S lk u W [] []
 |step {W W' e9 es rs:ab}{r:Sc}:Ds W u=true->Gf 18 [nm,S,lk,.l W]=some ([.l W']++e9++[r,.b true])->e9.length=9->Trc nm S lk u W' es rs->Trc nm S lk u W (.l e9::es) (r::rs)
def sOf(n:Int)(x:Sc):Bool:=decide ((x.list.getD 4 (.i 0)).int<n)
def K8(n:Int)(x:Sc):Prop:=if sOf n x=true then ∀e∈Jp x,(e.list.getD 1 (.i 0)).int<n else ∀e∈Jp x,¬(e.list.getD 1 (.i 0)).int<n
theorem Xr{e9:ab}{r:Sc}(h:e9.length=9):(pJ (.l e9) r).list.getD 4 (.i 0)=e9.getD 4 (.i 0):=by
 match e9,h with
 |[_,_,_,_,_,_,_,_,_],_=>rfl
theorem Xu{e9:ab}{r:Sc}(h:e9.length=9):Jp (pJ (.l e9) r)=r.list:=by
 match e9,h with
 |[_,_,_,_,_,_,_,_,_],_=>rfl
theorem IZ{a b:ab}{x y u v:Sc}(h1:a.length=9)(h2:b.length=9)(h:[x]++a++[u,.b true]=[y]++b++[v,.b true]):x=y/\a=b/\u=v:=by simp only[Fe,rU,uQ]at h;obtain⟨rfl,h⟩:=h;have:=append_inj h (by omega);simp at this;exact⟨rfl,this.1,this.2⟩
section
variable{N:Nat}(C:Cts N){pm:Pm}(hp:dG pm)(tg:dQ am (II pm) (JJ pm N) Gf eN)(JI:dQ am (II pm) (JJ pm N) Gf jA){nm:Sc}{S LK:ab}{y:Sc}(H:Two N pm nm S LK y)
include hp JI in
theorem step_world{S:ab}{W W' e9:ab}{r:Sc}(hS:has am (II pm) (JJ pm N) (.aV 126) (.l S))(hn:has am (II pm) (JJ pm N) (.str 4294967296) nm)(hK:has am (II pm) (JJ pm N) (.ae 137) (.l LK))(hW:II pm 76 (.l W))(h:Gf 18 [nm,.l S,.l LK,.l W]=some ([.l W']++e9++[r,.b true]))(h9:e9.length=9):II pm 76 (.l W')/\(∃z,e9.getD 0 (.i 0)= .i z)/\(∃z,e9.getD 4 (.i 0)= .i z)/\r.list.length<=400000000:=by
 obtain⟨rs,g1,g2,_⟩:=JI [nm,.l S,.l LK,.l W] ⟨hn,hS,hK,hW,trivial⟩ (nofun);have g1:Gf 18 [nm,.l S,.l LK,.l W]=some rs:=g1;rw[h]at g1;have e:=xX g1;subst e
 match e9,h9,g2 with
 |[_,_,_,_,_,_,_,_,_],_,⟨h0,h1,_,_,_,h5,_,_,_,_,Mi,_⟩=>
  exact⟨h0,h1,h5,bI (vQ (k:=95) (by decide+kernel) Mi) (by decide+kernel)⟩
include C hp tg JI H
theorem iso{u:Int}(Dh:∀a∈LK,(a.list.getD 0 (.i 0)).int≠S.length):∀{V fs ss:ab},Trc nm (.l (S++[y])) (.l LK) u V fs ss->∀(W:ab)(x:Sc),V=W++[x]->W.length=S.length->II pm 76 (.l W)->II pm 76 (.l (W++[x]))->∀es rs,Trc nm (.l S) (.l LK) u W es rs->
 zipWith pJ es rs=(zipWith pJ fs ss).filter (sOf S.length)/\∀e∈zipWith pJ fs ss,K8 S.length e:=by
 intro V fs ss hT
 induction hT with
 |done hd=>
  rintro W x rfl hl hW hV es rs hP;have fC:=oT hp hW;have hx:Aa pm x:=oT hp hV x (by simp);have hd2:=Xn hp tg fC hx hd;cases hP with
  |done _=>exact⟨rfl,nofun⟩|step hd3 _ _ _=>rw[hd2]at hd3;cases hd3
 | @step V V' e9 fs ss r hd hq h9 _ ih=>
   rintro W x rfl hl hW hV es rs hP;have fC:=oT hp hW;have hx:Aa pm x:=oT hp hV x (by simp);have hqb:(([Sc.l V']++e9++[r,Sc.b true]).getD 11 (.i 0)).bool=true:=by
    match e9,h9 with
    |[_,_,_,_,_,_,_,_,_],_=>rfl
   have hV':=(step_world hp JI H.s2 H.n H.k hV hq h9).1;by_cases hi:(lL (W++[x]) (W++[x]).length).1=W.length
   ·obtain⟨_,x',e9',r',e1,l9,e2,e3⟩:=aai C hp tg H Dh hV hx hq hqb hi;obtain⟨e4,rfl,rfl⟩:=IZ h9 l9 e1;cases e4
    obtain⟨g1,g2⟩:=ih W x' rfl hl hW hV' es rs hP;have hs:sOf S.length (pJ (.l e9) r)=false:=by unfold sOf;rw[Xr h9,e2,hl];simp
    refine⟨?_,fun e he=> ?_⟩
    ·rw[zipWith_cons_cons,filter_cons_of_neg (by rw[hs];simp)];exact g1
    ·rw[zipWith_cons_cons]at he;rcases bX.1 he with rfl|he
     ·unfold K8;rw[hs,aE (by simp),Xu h9];intro e he;rw[e3 e he,hl];omega
     ·exact g2 e he
   ·obtain⟨qu,hd2⟩:=abU hp tg fC hx hd hi;cases hP with
    |done hd3=>rw[hd2]at hd3;cases hd3
    | @step _ W' p9 es rs p hd3 hr hp9 hP=>
      have hrb:(([Sc.l W']++p9++[p,Sc.b true]).getD 11 (.i 0)).bool=true:=by
       match p9,hp9 with
       |[_,_,_,_,_,_,_,_,_],_=>rfl
      obtain⟨W2,a9,r2,e1,e2,e3,l9,e4,e5⟩:=aaj C hp tg H hW hV hr hrb hq hqb qu;obtain⟨q1,rfl,rfl⟩:=IZ hp9 l9 e1;cases q1
      obtain⟨q2,rfl,rfl⟩:=IZ h9 l9 e2;cases q2
      have hW':=(step_world hp JI H.s1 H.n H.k hW hr hp9).1;obtain⟨g1,g2⟩:=ih W' x rfl (e3.trans hl) hW' hV' es rs hP;have hs:sOf S.length (pJ (.l e9) r)=true:=by unfold sOf;rw[Xr h9,ei,<-hl];exact e4
      refine⟨?_,fun e he=> ?_⟩
      ·rw[zipWith_cons_cons,zipWith_cons_cons,GE hs,g1]
      ·rw[zipWith_cons_cons]at he;rcases bX.1 he with rfl|he
       ·unfold K8;rw[hs,aA rfl,Xu h9];intro e he;rw[<-hl];exact e5 e he
       ·exact g2 e he
end
def Em(e:Sc):Prop:=∃z0 z1 z2 z3 z4 z5 z6 z7 l,e= .l [.i z0,.i z1,.i z2,.i z3,.i z4,.i z5,.i z6,.i z7,.l l]/\l.length<=10000000
def RcT(r:Sc):Prop:=∃l,r= .l l/\l.length<=400000000/\∀e∈l,∃c,e= .l c/\c.length=6
theorem agA{E:ab}(h:∀e∈E,Em e):ajv E:=fun e he=>by obtain⟨z0,z1,z2,z3,z4,z5,z6,z7,l,rfl,_⟩:=h e he;exact⟨⟨z0,rfl⟩,z4,rfl⟩
section
variable{N:Nat}{pm:Pm}(hp:dG pm)(JI:dQ am (II pm) (JJ pm N) Gf jA)
include hp JI
theorem Lr{nm:Sc}{S LK W W' e9:ab}{r:Sc}(hS:has am (II pm) (JJ pm N) (.aV 126) (.l S))(hn:has am (II pm) (JJ pm N) (.str 4294967296) nm)(hK:has am (II pm) (JJ pm N) (.ae 137) (.l LK))(hW:II pm 76 (.l W))(h:Gf 18 [nm,.l S,.l LK,.l W]=some ([.l W']++e9++[r,.b true]))(h9:e9.length=9):II pm 76 (.l W')/\Em (.l e9)/\RcT r:=by
 obtain⟨rs,g1,g2,_⟩:=JI [nm,.l S,.l LK,.l W] ⟨hn,hS,hK,hW,trivial⟩ (nofun);have g1:Gf 18 [nm,.l S,.l LK,.l W]=some rs:=g1;rw[h]at g1;have e:=xX g1;subst e
 match e9,h9,g2 with
 |[_,_,_,_,_,_,_,_,_],_,⟨h0,⟨z0,rfl⟩,⟨z1,rfl⟩,⟨z2,rfl⟩,⟨z3,rfl⟩,⟨z4,rfl⟩,⟨z5,rfl⟩,⟨z6,rfl⟩,⟨z7,rfl⟩,h9,Mi,_⟩=>
  obtain⟨l,rfl,hl,_⟩:=(bO (k:=3) (aj (by decide+kernel))).1 h9;obtain⟨l2,rfl,hl2,rQ⟩:=(cY hp (N:=N)).list 95 _ (aj (by decide+kernel)) Mi;refine⟨h0,⟨z0,z1,z2,z3,z4,z5,z6,z7,l,rfl,bI hl (by decide+kernel)⟩,l2,rfl,bI hl2 (by decide+kernel),fun e he=> ?_⟩;obtain⟨c,rfl,hc⟩:=oO (cs:=[.int,.int,.int,.int,.int,.int]) (by kernel_rfl) (rQ e he);exact⟨c,rfl,bb hc⟩
theorem PM{nm:Sc}{S LK:ab}{u:Int}(hS:has am (II pm) (JJ pm N) (.aV 126) (.l S))(hn:has am (II pm) (JJ pm N) (.str 4294967296) nm)(hK:has am (II pm) (JJ pm N) (.ae 137) (.l LK)):∀{W es rs:ab},Trc nm (.l S) (.l LK) u W es rs->II pm 76 (.l W)->es.length=rs.length/\(∀e∈es,Em e)/\∀r∈rs,RcT r:=by
 intro W es rs h;induction h with
 |done _=>
  intro _;refine⟨rfl,?_,?_⟩
  ·intro e he;cases he
  ·intro e he;cases he
 |step _ hq h9 _ ih=>
  intro hW;obtain⟨g1,g2,g3⟩:=Lr hp JI hS hn hK hW hq h9;obtain⟨i1,i2,i3⟩:=ih g1;refine⟨by simp[i1],fun e he=> ?_,fun r hr=> ?_⟩
  ·rcases bX.1 he with rfl|he
   ·exact g2
   ·exact i2 e he
  ·rcases bX.1 hr with rfl|hr
   ·exact g3
   ·exact i3 r hr
end
section
variable{N:Nat}{pm:Pm}(hp:dG pm)(tg:dQ am (II pm) (JJ pm N) Gf eN)(JI:dQ am (II pm) (JJ pm N) Gf jA)(hWC:dQ am (II pm) (JJ pm N) Gf nC)
include hp tg JI hWC
def ajy(nm:Sc)(S LK:ab)(u:Int)(W E R:ab)(r:ab):Prop:=∃r0 r1 r2 z,r=[r0,r1,r2,.i z]/\(z=0->∃T es rs,Trc nm (.l S) (.l LK) u W es rs/\r0= .l (T.map Wh)/\r1= .l (T.flatMap Jp)/\lI dM (zipWith pJ (E++es) (R++rs)) T/\od dM T/\T.length<=5000)
theorem ae1{nm:Sc}{S LK W:ab}{u:Int}(hS:has am (II pm) (JJ pm N) (.aV 126) (.l S))(hn:has am (II pm) (JJ pm N) (.str 4294967296) nm)(hK:has am (II pm) (JJ pm N) (.ae 137) (.l LK))(hW:II pm 76 (.l W)):∃r0 r1 r2 z,Gf 8 [nm,.l S,.l LK,.l W,.i u]=some [r0,r1,r2,.i z]/\(z=0->(∃z,Gf 16 [nm,.l S,.l LK,.l W]=some [z]/\z.int=0)/\∃T es rs,Trc nm (.l S) (.l LK) u W es rs/\r0= .l (T.map Wh)/\r1= .l (T.flatMap Jp)/\lI dM (zipWith pJ es rs) T/\od dM T/\T.length<=5000):=by
 obtain⟨rw_,g1,g2,_⟩:=hWC [nm,.l S,.l LK,.l W] ⟨hn,hS,hK,hW,trivial⟩ (nofun);obtain⟨zc,r0,rfl,⟨zc,rfl⟩,k0⟩:=af g2;cases dI k0
 have g1:Gf 16 [nm,.l S,.l LK,.l W]=some [.i zc]:=g1;suffices hq:bW (BB.aF Gf [nm,.l S,.l LK,.l W,.i u] []) (fun r=>∃r0 r1 r2 z,r=[r0,r1,r2,.i z]/\(z=0->(∃z,Gf 16 [nm,.l S,.l LK,.l W]=some [z]/\z.int=0)/\∃T es rs,Trc nm (.l S) (.l LK) u W es rs/\r0= .l (T.map Wh)/\r1= .l (T.flatMap Jp)/\lI dM (zipWith pJ es rs) T/\od dM T/\T.length<=5000))by
  obtain⟨r,h1,r0,r1,r2,z,rfl,h2⟩:=hq;exact⟨r0,r1,r2,z,by rw[UT];exact h1,h2⟩
 unfold BB;simp only[g1,aT,Nat.reduceAdd];rcases GG (zc≠0)with hz|hz
 ·rw[aA (by simpa using hz)];exact bW.some ⟨_,_,_,zc,rfl,fun e=>absurd e hz⟩
 rw[aE (by simpa using hz)];have hz:zc=0:=LE.1 hz;by_cases hu1:u<0
 ·rw[aA hu1];exact bW.some ⟨_,_,_,2,rfl,nofun⟩
 rw[aE hu1];by_cases Tq:1000000000<u
 ·rw[aA Tq];exact bW.some ⟨_,_,_,2,rfl,nofun⟩
 rw[aE Tq];refine bW.mono (Q:=ajy nm S LK u W [] []) (ahG (S:=ab×ab×ab) (Q:=fun s=>ajy nm S LK u s.2.2 s.1 s.2.1) (fun s=>[.l s.1,.l s.2.1,.l s.2.2])
  (fun s=>II pm 76 (.l s.2.2)/\(∀e∈s.1,Em e)/\s.1.length<=5000/\s.2.1.length=s.1.length/\∀r∈s.2.1,RcT r) (fun s=>5000-s.1.length) ?_ (v:=[.l [],.l [],.l W]) ([],[],W) rfl ⟨hW,fun _ h=>(by cases h),xA _,rfl,fun _ h=>(by cases h)⟩ (by show 5000-0<_;omega)) ?_
 ·rintro⟨E,R,V⟩ rec ⟨i1,i2,i3,i4,i5⟩ hr;simp only at i1 i2 i3 i4 i5;have asN:=oT hp i1;have hVl:V.length<=10000000:=bI (vQ (k:=76) (by decide+kernel) i1) (by decide+kernel);have hd:=alc hp tg asN hVl u;cases aca:Ds V u with
  |false=>
   rw[aca]at hd;obtain⟨T,t1,t2,t3⟩:=acM (agA i2) i3 i4 (fun r hr=>by obtain⟨l,rfl,h,_⟩:=i5 r hr;exact h)
   simp only[hd,t1,aT,Nat.reduceAdd];exact bW.some ⟨_,_,_,0,rfl,fun _=>⟨T,[],[],.done aca,rfl,rfl,by simpa using t2,t3⟩⟩
  |true=>
   rw[aca]at hd;simp only[hd,aT,Nat.reduceAdd];by_cases h5:5000<=E.length
   ·rw[aA (by omega)];exact bW.some ⟨_,_,_,18,rfl,nofun⟩
   rw[aE (by omega)];obtain⟨ws,q1,q2,_⟩:=JI [nm,.l S,.l LK,.l V] ⟨hn,hS,hK,i1,trivial⟩ (nofun);obtain⟨w0,p0,rfl,o0,k0⟩:=af q2;obtain⟨w1,p1,rfl,o1,k1⟩:=af k0;obtain⟨w2,p2,rfl,o2,k2⟩:=af k1;obtain⟨w3,p3,rfl,o3,k3⟩:=af k2;obtain⟨w4,p4,rfl,o4,k4⟩:=af k3;obtain⟨w5,p5,rfl,o5,k5⟩:=af k4;obtain⟨w6,p6,rfl,o6,k6⟩:=af k5;obtain⟨w7,p7,rfl,o7,k7⟩:=af k6;obtain⟨w8,p8,rfl,o8,k8⟩:=af k7;obtain⟨w9,p9,rfl,o9,k9⟩:=af k8;obtain⟨R9,p10,rfl,o10,k10⟩:=af k9;obtain⟨Ci,p11,rfl,⟨b,rfl⟩,k11⟩:=af k10;cases dI k11
   obtain⟨V',rfl,_⟩:=(bO (k:=76) (aj (by decide+kernel))).1 o0;have q1:Gf 18 [nm,.l S,.l LK,.l V]=some [.l V',w1,w2,w3,w4,w5,w6,w7,w8,w9,R9,.b b]:=q1;simp only[q1,aT,Nat.reduceAdd];cases b with
   |false=>exact bW.some ⟨_,_,_,13,rfl,nofun⟩|true=>
    obtain⟨f1,f2,f3⟩:=Lr hp JI (e9:=[w1,w2,w3,w4,w5,w6,w7,w8,w9]) hS hn hK i1 q1 rfl;have lE:=hr (E++[.l [w1,w2,w3,w4,w5,w6,w7,w8,w9]],R++[R9],V') ⟨f1,fun e he=>by
     rcases ic.1 he with he|he
     ·exact i2 e he
     ·rw[cw.1 he];exact f2,by show(E++[_]).length<=5000;rw[fR,BM];omega,by show(R++[_]).length=(E++[_]).length;rw[fR,fR,i4];rfl,fun e he=>by
     rcases ic.1 he with he|he
     ·exact i5 e he
     ·rw[cw.1 he];exact f3⟩ (by show 5000-(E++[_]).length<5000-E.length;rw[fR,BM];omega)
    obtain⟨rr,h1,r0,r1,r2,z,rfl,h2⟩:=lE;simp only[fR,aT,Nat.reduceAdd];rw[aA (by omega),aA (by omega)];refine⟨_,h1,r0,r1,r2,z,rfl,fun e=> ?_⟩;obtain⟨T,es,rs,t1,t2,t3,t4,t5⟩:=h2 e;refine⟨T,.l [w1,w2,w3,w4,w5,w6,w7,w8,w9]::es,R9::rs,.step aca q1 rfl t1,t2,t3,?_,t5⟩;simpa using t4
 ·rintro r ⟨r0,r1,r2,z,rfl,h2⟩;exact⟨r0,r1,r2,z,rfl,fun e=>⟨⟨_,rfl,hz⟩,by simpa using h2 e⟩⟩
end
def PV{i:Nat}(h:i<=4000000000000):IntKind.i64.wrap ((i:Int)+1)=((i+1:Nat):Int):=by rw[iO]<;>omega
def peZ(n:Int)(e:Sc):Bool:=decide ((e.list.getD 4 (.i 0)).int<n)
def prZ(n:Int)(e:Sc):Bool:=decide ((e.list.getD 1 (.i 0)).int<n)
def E4{p:Sc->Bool}{l:ab}{i:Nat}(h:i<l.length):(l.take (i+1)).filter p=(l.take i).filter p++if p l[i]=true then[l[i]]else[]:=by rw[take_add_one,cB h,filter_append];congr 1;rw[Option.toList_some,filter_cons];rfl
def Hu{l:ab}{i:Nat}(h:i<l.length):l.getD i (.i 0)=l[i]:=by rw[cE,cB h];rfl
def adW{p:Sc->Bool}{l:ab}(i:Nat):((l.take i).filter p).length<=l.length:=bI (length_filter_le _ _) (by rw[iW];omega)
def ajA(r:Sc):Prop:=∃c,r= .l c/\c.length=6
def auV{E R:ab}{n:Int}(hE:∀e∈E,Em e)(XR:E.length<=5000)(hR:∀r∈R,ajA r)(hRl:R.length<=2000000000000):Gf 10 [.l E,.l R,.i n]=some [.l (E.filter (peZ n)),.l (R.filter (prZ n))]:=by
 suffices h:bW (mM.aF Gf [.l E,.l R,.i n] []) fun r=>r=[.l (E.filter (peZ n)),.l (R.filter (prZ n))]by
  obtain⟨r,h1,rfl⟩:=h;rw[B9];exact h1
 unfold mM;rw[T.aF];refine dv (S:=Unit) (fun i _=>[.i (i:Int),.l ((E.take i).filter (peZ n))]) (fun _ _=>True) E.length (s:=()) rfl (by omega) trivial ?_ ?_
 ·intro i _ rec hi _ lE;have w1:=cM (i:=i) (by omega);have qu:=lE () trivial;have hd:=Hu hi;have hb:=adW (p:=peZ n) (l:=E) i;rw[E4 hi]at qu;obtain⟨z0,z1,z2,z3,z4,z5,z6,z7,l,he,_⟩:=hE _ (BQ hi);rw[he]at hd qu;simp only[w1,hd,fR,aT,Nat.reduceAdd];repeat rw[aA (by omega)]
  by_cases h4:z4<n
  ·rw[aA (show peZ n (.l [.i z0,.i z1,.i z2,.i z3,.i z4,.i z5,.i z6,.i z7,.l l])=true from lP h4)]at qu;rw[aA h4,aA (by omega)];exact qu
  ·rw[aE (show ¬peZ n (.l [.i z0,.i z1,.i z2,.i z3,.i z4,.i z5,.i z6,.i z7,.l l])=true from fun h=>h4 (fv h)),uP]at qu;rw[aE h4];exact qu
 ·intro _ rec _;simp only[aT];rw[aE (by omega)];refine dv (S:=Unit) (fun i _=>[.i (i:Int),.l ((R.take i).filter (prZ n))]) (fun _ _=>True) R.length (s:=()) rfl (by omega) trivial ?_ ?_
  ·intro i _ tp hi _ lE;have w1:=PV (i:=i) (by omega);have qu:=lE () trivial;have hd:=Hu hi;have hb:=adW (p:=prZ n) (l:=R) i;rw[E4 hi]at qu;obtain⟨c,he,hc⟩:=hR _ (BQ hi);rw[he]at hd qu
   match c,hc with
   |[c0,c1,c2,c3,c4,c5],_=>
    simp only[w1,hd,fR,aT,Nat.reduceAdd];repeat rw[aA (by omega)]
    by_cases h4:c1.int<n
    ·rw[aA (show prZ n (.l [c0,c1,c2,c3,c4,c5])=true from lP h4)]at qu;rw[aA (show(U2.lt.ev c1 (Sc.i n)).bool=true from lP h4),aA (by omega)];exact qu
    ·rw[aE (show ¬prZ n (.l [c0,c1,c2,c3,c4,c5])=true from fun h=>h4 (fv h)),uP]at qu;rw[aE (show ¬(U2.lt.ev c1 (Sc.i n)).bool=true from fun h=>h4 (fv h))];exact qu
  ·intro _ tp _;simp only[aT];rw[aE (by omega)];exact bW.some (by rw[take_length,take_length])
def Uz(z0 z1 z2 z3:Int)(x4 x5 x6 x7 x8 y4 y5 y6 y7 y8:Sc):Gf 45 [.i z0,.i z1,.i z2,.i z3,x4,x5,x6,x7,x8,.i z0,.i z1,.i z2,.i z3,y4,y5,y6,y7,y8]=some [.i 0]:=by
 rw[yj];show jv.aF Gf [.i z0,.i z1,.i z2,.i z3,x4,x5,x6,x7,x8,.i z0,.i z1,.i z2,.i z3,y4,y5,y6,y7,y8] []=_;have hc:∀z:Int,cI z z=0:=fun z=>by unfold cI;rw[aE (by omega),aE (by omega)]
 have ho:Gf 43 [.l [.i 0,.i 0,.i 0,.i 0]]=some [.i 0]:=Zw [0,0,0,0] (by simp);unfold jv;simp only[Xb,hc,ho,aT,Nat.reduceAdd]
def abW{l:ab}(hl:l.length<=10000000):Gf 46 [.l l,.l l]=some [.b true]:=by
 suffices h:bW (jh.aF Gf [.l l,.l l] []) fun r=>r=[.b true]by
  obtain⟨r,h1,rfl⟩:=h;rw[xG];exact h1
 unfold jh;simp only[aT];refine dv (S:=Unit) (fun i _=>[.i (i:Int)]) (fun _ _=>True) l.length (s:=()) rfl (by omega) trivial ?_ ?_
 ·intro i _ rec hi _ lE;have w1:=cM (i:=i) (by omega);have qu:=lE () trivial;simp only[w1,iT,aT];repeat rw[aA (by omega)]
  exact qu
 ·intro _ rec _;simp only[aT];rw[aE (by omega)];exact bW.some rfl
def abo(z0 z1 z2 z3 z4 z5 z6 z7:Int){l:ab}(hl:l.length<=10000000):Gf 20 [.i z0,.i z1,.i z2,.i z3,.i z4,.i z5,.i z6,.i z7,.l l,.i z0,.i z1,.i z2,.i z3,.i z4,.i z5,.i z6,.i z7,.l l]=some [.b true]:=by rw[Jy];show sQ.aF Gf [.i z0,.i z1,.i z2,.i z3,.i z4,.i z5,.i z6,.i z7,.l l,.i z0,.i z1,.i z2,.i z3,.i z4,.i z5,.i z6,.i z7,.l l] []=_;have h1:=Uz z0 z1 z2 z3 (.i z4) (.i z5) (.i z6) (.i z7) (.l l) (.i z4) (.i z5) (.i z6) (.i z7) (.l l);have h2:=abW hl;unfold sQ;simp only[h1,h2,aT,Nat.reduceAdd]
def aic{E R:ab}(hE:∀e∈E,Em e)(XR:E.length<=5000)(hRl:R.length<=2000000000000):Gf 9 [.l E,.l R,.l E,.l R]=some [.b true]:=by
 suffices h:bW (kC.aF Gf [.l E,.l R,.l E,.l R] []) fun r=>r=[.b true]by
  obtain⟨r,h1,rfl⟩:=h;rw[Ae];exact h1
 unfold kC;simp only[aT];refine dv (S:=Unit) (fun i _=>[.i (i:Int)]) (fun _ _=>True) E.length (s:=()) rfl (by omega) trivial ?_ ?_
 ·intro i _ rec hi _ lE;have w1:=cM (i:=i) (by omega);have qu:=lE () trivial;have hd:=Hu hi;obtain⟨z0,z1,z2,z3,z4,z5,z6,z7,l,he,hl⟩:=hE _ (BQ hi);rw[he]at hd;have hs:=abo z0 z1 z2 z3 z4 z5 z6 z7 hl;simp only[w1,hd,hs,aT,Nat.reduceAdd];repeat rw[aA (by omega)]
  exact qu
 ·intro _ rec _;simp only[aT];rw[aE (by omega)];refine dv (S:=Unit) (fun i _=>[.i (i:Int)]) (fun _ _=>True) R.length (s:=()) rfl (by omega) trivial ?_ ?_
  ·intro i _ tp hi _ lE;have w1:=PV (i:=i) (by omega);have qu:=lE () trivial;have hq:∀x:Sc,U2.eq.ev x x= .b true:=fun x=>by show Sc.b (x.int==x.int)=_;rw[beq_self_eq_true]
   have ha:U2.and.ev (.b true) (.b true)= .b true:=rfl;have hn:(U1.not.ev (.b true)).bool=true↔False:=⟨fun h=>(by cases h),fun h=>h.elim⟩;simp only[w1,aT];repeat rw[aA (by omega)]
   simp only[hq,ha,hn,na];exact qu
  ·intro _ tp _;simp only[aT];rw[aE (by omega)];exact bW.some rfl
def Uw(x:Sc):Prop:=∃e r,x=pJ e r/\Em e/\RcT r
theorem adz{es rs:ab}(h1:∀e∈es,Em e)(h2:∀r∈rs,RcT r):∀x∈zipWith pJ es rs,Uw x:=by intro x hx;obtain⟨i,hi,rfl⟩:=mem_iff_getElem.1 hx;rw[getElem_zipWith];exact⟨_,_,rfl,h1 _ (BQ _),h2 _ (BQ _)⟩
theorem Ma{e r:Sc}(h:Em e):Wh (pJ e r)=e/\Jp (pJ e r)=r.list:=by obtain⟨z0,z1,z2,z3,z4,z5,z6,z7,l,rfl,_⟩:=h;exact⟨rfl,rfl⟩
theorem Zj{T:ab}(h:∀x∈T,Uw x):∀e∈T.map Wh,Em e:=by intro e he;obtain⟨x,hx,rfl⟩:=pB.1 he;obtain⟨e,r,rfl,h1,h2⟩:=h x hx;rw[(Ma h1).1];exact h1
theorem ahJ{T:ab}(h:∀x∈T,Uw x):∀e∈T.flatMap Jp,ajA e:=by intro e he;obtain⟨x,hx,he⟩:=xc.1 he;obtain⟨v,r,rfl,h1,h2⟩:=h x hx;rw[(Ma h1).2]at he;obtain⟨l,rfl,_,h3⟩:=h2;exact h3 e he
theorem ZE{T:ab}(h:∀x∈T,Uw x)(hl:T.length<=5000):(T.flatMap Jp).length<=2000000000000:=by
 have h1:=Om (T:=T) (B:=400000000) (fun x hx=>by obtain⟨v,r,rfl,h1,l,rfl,h2,_⟩:=h x hx;rw[(Ma h1).2];exact h2) T.length
 rw[take_length]at h1;have h2:T.length*400000000<=5000*400000000:=fu _ hl;omega
theorem UX{n:Int}{T:ab}:(T.map Wh).filter (peZ n)=(T.filter (sOf n)).map Wh:=by rw[filter_map];rfl
theorem KB{n:Int}:∀{T:ab},(∀x∈T,K8 n x)->(T.flatMap Jp).filter (prZ n)=(T.filter (sOf n)).flatMap Jp
 |[],_=>rfl|x::T,h=>by
  have ih:=KB (n:=n) (T:=T) fun y hy=>h y (bB _ hy);have hx:=h x (by simp);rw[AQ,filter_append,ih];unfold K8 at hx;by_cases hs:sOf n x=true
  ·rw[aA hs]at hx;have h1:(Jp x).filter (prZ n)=Jp x:=filter_eq_self.2 fun e he=>lP (hx e he);rw[GE hs,AQ,h1]
  ·rw[aE hs]at hx;have h1:(Jp x).filter (prZ n)=[]:=filter_eq_nil_iff.2 fun e he h=>hx e he (fv h);rw[filter_cons_of_neg hs,h1,rU]
section
variable{N:Nat}(C:Cts N){pm:Pm}(hp:dG pm)(tg:dQ am (II pm) (JJ pm N) Gf eN)(JI:dQ am (II pm) (JJ pm N) Gf jA)(hWC:dQ am (II pm) (JJ pm N) Gf nC){nm:Sc}{S LK:ab}{y:Sc}(H:Two N pm nm S LK y)
include C hp tg JI hWC H
theorem Za{x:Sc}(h:Gf 33 [nm,.l S,.l LK]=some [x])(hx:x.int=0):∀a∈LK,(a.list.getD 0 (.i 0)).int≠S.length:=by
 have hT:=cY hp (N:=N);obtain⟨xs,e,Mj⟩:=id H.s1;cases e
 have OD:∀s∈S,II pm 130 (s.list.getD 13 (.i 0)):=fun s hs=>by
  obtain⟨c,rfl,hc⟩:=oO C2 (Mj _ hs)
  match c,bb hc,hc with
  |[a0,a1,a2,a3,a4,a5,a6,a7,a8,a9,Fb,GC,a12,FO],_,hc=>exact hc.2.2.2.2.2.2.2.2.2.2.2.2.2.1
 obtain⟨_,⟨z,h1,h2⟩,_⟩:=oW (fun s hs=>by obtain⟨l,e1,e2,_⟩:=hT.list 130 _ (aj (by decide+kernel)) (OD s hs);rw[e1];exact bI e2 (by decide+kernel)) h hx
 obtain⟨l,e,hl,rQ⟩:=hT.list 137 _ (aj (by decide+kernel)) H.k;cases e
 intro a ha;have:=(WJ (bI hl (by decide+kernel)) (fun a ha=>by
  obtain⟨c,rfl,hc⟩:=oO (cs:=[.int,.int,.int]) (by kernel_rfl) (rQ a ha)
  match c,bb hc,hc with
  |[a0,a1,a2],_,⟨⟨z0,e0⟩,⟨z1,e1⟩,_⟩=>exact⟨⟨z0,e0⟩,z1,e1⟩) h1 h2 a ha).1
 omega
theorem aia{W:ab}{x:Sc}(hW:II pm 76 (.l W))(hV:II pm 76 (.l (W++[x])))(u:Int):
 ∃r0 r1 r2 z,Gf 8 [nm,.l S,.l LK,.l W,.i u]=some [r0,r1,r2,.i z]/\∃q0 q1 q2 z',Gf 8 [nm,.l (S++[y]),.l LK,.l (W++[x]),.i u]=some [q0,q1,q2,.i z']/\
  (z=0->z'=0->∃f0 f1,Gf 10 [q0,q1,.i S.length]=some [f0,f1]/\Gf 9 [r0,r1,f0,f1]=some [.b true]):=by
 obtain⟨r0,r1,r2,z,g1,g2⟩:=ae1 hp tg JI hWC H.s1 H.n H.k hW (u:=u)
 obtain⟨q0,q1,q2,z',k1,k2⟩:=ae1 hp tg JI hWC H.s2 H.n H.k hV (u:=u)
 refine⟨r0,r1,r2,z,g1,q0,q1,q2,z',k1,fun hz hz'=> ?_⟩
 obtain⟨⟨zc,c1,c2⟩,T,es,rs,t1,rfl,rfl,t2,t3,t4⟩:=g2 hz
 obtain⟨_,U,fs,ss,u1,rfl,rfl,u2,u3,u4⟩:=k2 hz'
 have hWl:W.length<=10000000:=bI (vQ (k:=76) (by decide+kernel) hW) (by decide+kernel)
 obtain⟨⟨zd,d1,d2⟩,hlen,_⟩:=BG hp tg hWl c1 c2
 have Dh:=Za C hp tg JI hWC H d1 d2
 obtain⟨i1,i2⟩:=iso C hp tg JI H Dh u1 W x rfl hlen hW hV es rs t1
 obtain⟨a1,a2,a3⟩:=PM hp JI H.s1 H.n H.k t1 hW
 obtain⟨b1,b2,b3⟩:=PM hp JI H.s2 H.n H.k u1 hV
 have hTU:T=U.filter (sOf S.length):=MM ij _ u3 u2 t3 (by rw[<-i1];exact t2)
 have hUe:∀x∈U,Uw x:=fun x hx=>adz b2 b3 x (lI.mem ij u2.symm hx)
 have hUr:∀x∈U,K8 S.length x:=fun x hx=>i2 x (lI.mem ij u2.symm hx)
 have hTe:∀x∈T,Uw x:=fun x hx=>hUe x (by rw[hTU]at hx;exact(mem_filter.1 hx).1)
 refine⟨_,_,auV (Zj hUe) (by rw[Ab];exact u4) (ahJ hUe) (ZE hUe u4),?_⟩
 rw[UX,KB hUr,<-hTU]
 exact aic (Zj hTe) (by rw[Ab];exact t4) (ZE hTe t4)
end
theorem EM{I:Nat->Sc->Prop}{J:Nat->ab->Prop}{t:Ty}{r:ab}(h:cR am I J [t] r):∃x,r=[x]/\has am I J t x:=by
 obtain⟨x,r0,rfl,h1,k⟩:=af h;cases dI k
 exact⟨x,rfl,h1⟩
section
variable{N:Nat}{pm:Pm}(hp:dG pm)
include hp
theorem jc{k:Nat}{l:ab}(hk:cT am k=true)(h:II pm k (.l l)):l.length<=am.cap k:=by
 obtain⟨xs,e,h1,_⟩:=(bO (aj hk)).1 h;cases e
 exact h1
theorem jM{k:Nat}{l:ab}(hk:cT am k=true)(h:II pm k (.l l)):∀y∈l,cA am (II pm) (J0 pm) k y:=by
 obtain⟨xs,e,_,_,h1⟩:=(bO (aj hk)).1 h;cases e
 exact h1
theorem wL{k:Nat}{y:Sc}(hk:cT am k=true)(h:II pm k y):∃l,y= .l l:=by obtain⟨xs,e,_⟩:=(bO (aj hk)).1 h;exact⟨xs,e⟩
theorem qr{k:Nat}{cs:List Ty}(hk:am.tk k= .row cs){y:Sc}(h:cA am (II pm) (J0 pm) k y):∃c,y= .l c/\fl (II pm) cs c:=by unfold cA at h;rw[hk]at h;exact h.1
theorem RL{S:ab}(h:II pm 35 (.l S)):∀s∈S,SiF s:=by
 intro s hs;obtain⟨c,rfl,hc⟩:=qr hp (cs:=[.str 4294967296,.ae 115,.ae 184,.ae 193,.ae 200,.ae 9,.ae 9,.ae 9,.ae 9,.ae 9,.ae 63,.ae 111,.ae 408]) (by kernel_rfl) (jM hp (by decide+kernel) h s hs)
 match c,bb hc,hc with
 |[c0,c1,c2,c3,c4,c5,c6,c7,c8,c9,fJ,fx,fA],_,⟨_,_,_,_,_,_,_,_,_,_,hr,_⟩=>
  obtain⟨vE,rfl⟩:=wL hp (by decide+kernel) hr;refine⟨c0,c1,c2,c3,c4,c5,c6,c7,c8,c9,vE,fx,fA,rfl,bI (jc hp (by decide+kernel) hr) (by decide+kernel),iz hp hr,fun t ht=> ?_⟩;obtain⟨c,rfl,hc⟩:=qr hp (cs:=[.str 4294967296,.ae 109,.ae 109,.ae 105]) (by kernel_rfl) (jM hp (by decide+kernel) hr t ht)
  match c,bb hc with
  |[t0,t1,t2,t3],_=>exact⟨t0,t1,t2,t3,rfl⟩
end
section
variable{N:Nat}{pm:Pm}(hp:dG pm)(P6:dQ am (II pm) (JJ pm N) Gf mj)(hBM:dQ am (II pm) (JJ pm N) Gf pe)(Wj:dQ am (II pm) (JJ pm N) Gf nz)(hCC:dQ am (II pm) (JJ pm N) Gf pg)(hWN:dQ am (II pm) (JJ pm N) Gf wO)
structure Arg(N:Nat)(pm:Pm)(nm P:Sc)(S:ab)(L:Sc):Prop where
 n:has am (II pm) (JJ pm N) (.str 4294967296) nm
 p:has am (II pm) (JJ pm N) (.ae 115) P
 s:II pm 35 (.l S)
 l:II pm 134 L
include hp P6 in
theorem Ja{nm P L:Sc}{S:ab}(A:Arg N pm nm P S L):∃z,Gf 22 [nm,P,.l S,L]=some [.i z]:=by obtain⟨rs,g1,g2,_⟩:=P6 [nm,P,.l S,L] ⟨A.n,A.p,A.s,A.l,trivial⟩ (nofun);obtain⟨x,rfl,z,rfl⟩:=EM g2;exact⟨z,g1⟩
include hp hCC in
theorem WZ{nm:Sc}{T K:ab}(hn:has am (II pm) (JJ pm N) (.str 4294967296) nm)(hT:II pm 126 (.l T))(hK:II pm 137 (.l K)):∃z,Gf 33 [nm,.l T,.l K]=some [.i z]:=by obtain⟨rs,g1,g2,_⟩:=hCC [nm,.l T,.l K] ⟨hn,wN hp (by decide+kernel) hT,hK,trivial⟩ (nofun);obtain⟨x,rfl,z,rfl⟩:=EM g2;exact⟨z,g1⟩
include hp P6 Wj in
theorem W6{nm P L:Sc}{S:ab}(A:Arg N pm nm P S L){r:ab}(h:Gf 29 [nm,P,.l S,L]=some r)(h0:(r.getD 4 (.i 0)).int=0):∃V,r=[nm,.l [],.l V,L,.i 0]/\V.length<=10000000/\(∀v∈V,SiF v)/\V.length=S.length/\∀i,i<S.length->JV nm P S L (S.getD i (.i 0)) (V.getD i (.i 0)):=by
 obtain⟨z,t⟩:=Ja hp P6 A;obtain⟨V,rfl,h1,h2⟩:=Qq t (bI (jc hp (by decide+kernel) A.s) (by decide+kernel)) (nZ hp A.s) (RL hp A.s) h h0;obtain⟨rs,g1,g2,_⟩:=Wj [nm,P,.l S,L] ⟨A.n,A.p,A.s,A.l,trivial⟩ (nofun);have g1:Gf 29 [nm,P,.l S,L]=some rs:=g1;rw[h]at g1;cases g1
 have hV:II pm 35 (.l V):=g2.2.2.1;exact⟨V,rfl,bI (jc hp (by decide+kernel) hV) (by decide+kernel),RL hp hV,h1,h2⟩
end
def scY:List Ty:=[.str 4294967296,.ae 115,.ae 35,.ae 134,.ae 115,.ae 1006,.str 4294967296,.ae 115,.ae 184,.ae 193,.ae 200,.ae 9,.ae 9,.ae 9,.ae 9,.ae 9,.ae 63,.ae 111,.ae 408,.int]
def stY:List Ty:=[.int,.str 4294967296,.str 4294967296,.int,.str 4294967296,.int,.ae 100,.int,.str 4294967296,.int,.ae 100,.ae 100,.int,.int,.int,.int,.ae 3,.ae 3,.bool,.ae 105,.ae 105]
theorem aii:am.tk 105= .row stY:=by kernel_rfl
theorem R7{a b lk i f x z:Sc}{V:ab}(hV:V.length<=10000000){c:Nat}(hc:c<=1000000)(hL:Lm c x.list)(h:Gf 48 [a,b,.l V,lk,i,f,x]=some [z])(h0:z.int=0):Sd V x.list:=by
 rw[Hg]at h;replace h:mt.aF Gf [a,b,.l V,lk,i,f,x] []=some [z]:=h;suffices hq:ar (mt.aF Gf [a,b,.l V,lk,i,f,x] []) (GA (Sd V x.list))from hq _ h h0;unfold mt;simp only[iT,aT];refine ar.call fun r1 zM wj=> ?_;obtain⟨y1,rfl⟩:=bL wj;simp only[aT];refine ar.ite (fun h=>df h) fun _=> ?_;refine ar.ite (fun _=>aP (by decide)) fun _=> ?_;refine ar.ite (fun _=>aP (by decide)) fun _=> ?_;repeat(refine ar.aa fun _=> ?_)
 refine ar.call fun r2 DH oa=> ?_;obtain⟨y2,rfl⟩:=bL oa;simp only[aT];exact ar.some fun e=>adk hV c hc _ _ _ _ _ _ _ _ _ _ _ _ _ _ _ _ _ _ _ _ _ hL DH e
theorem VA{x n y:Sc}(hx:Gf 270 [x]=some [x])(hl:x.list.length<=10000000)(h:Gf 189 [x,n]=some [y]):y.list.length=x.list.length:=by
 rw[Fm]at h;replace h:kT.aF Gf [x,n] []=some [y]:=h;suffices hq:ar (kT.aF Gf [x,n] []) (fun r=>(r.getD 0 (.i 0)).list.length=x.list.length)from hq _ h;have hu:∀(a b c:Sc),(U3.mu.ev a b c).list.length=a.list.length:=fun a b c=>by show(a.list.set _ _).length=_;rw[BO]
 unfold kT;simp only[hx,aT,Nat.reduceAdd];refine ar.loop (fun w=>∃u v:Sc,w=[u,v]/\v.list.length=x.list.length) ⟨_,_,rfl,rfl⟩ ?_;rintro w rec ⟨u,v,rfl,hv⟩ hr;simp only[aT];refine ar.ite (fun _=> ?_) fun _=>ar.some hv;repeat(refine ar.aa fun _=> ?_)
 refine ar.ite (fun _=> ?_) fun _=> ?_
 ·repeat(refine ar.aa fun _=> ?_)
  exact hr _ ⟨_,_,rfl,by rw[hu];exact hv⟩
 ·repeat(refine ar.aa fun _=> ?_)
  refine ar.ite (fun _=> ?_) fun _=> ?_
  ·repeat(refine ar.aa fun _=> ?_)
   exact hr _ ⟨_,_,rfl,by rw[hu];exact hv⟩
  ·exact hr _ ⟨_,_,rfl,hv⟩
section
variable{N:Nat}{pm:Pm}(hp:dG pm)
include hp
theorem qd{k:Nat}(hk:cT am k=true)(hx:sj.any (Nat.beq k)=false):II pm k (.l []):=by refine(bO (aj hk)).2 ⟨[],rfl,xA _,fun L hL=> ?_,nofun⟩;have:=hp.len k (by rw[hL];simp);have:=fS.2 ⟨k,this,BK k⟩;rw[hx]at this;cases this
theorem Ej{k:Nat}{l:ab}(hk:cT am k=true)(hx:sj.any (Nat.beq k)=false)(hl:l.length<=am.cap k)(he:∀y∈l,cA am (II pm) (J0 pm) k y):II pm k (.l l):=by refine(bO (aj hk)).2 ⟨l,rfl,hl,fun L hL=> ?_,he⟩;have:=hp.len k (by rw[hL];simp);have:=fS.2 ⟨k,this,BK k⟩;rw[hx]at this;cases this
abbrev Nk(pm:Pm)(y:Sc):Prop:=cA am (II pm) (J0 pm) 173 y
omit hp in
theorem YL{c:ab}(h:fl (II pm) ac2 c):Nk pm (.l c):=by
 unfold Nk cA;rw[T7];exact⟨⟨c,rfl,h⟩,fun q hq=>by
  have:am.ma 173=[]:=by kernel_rfl
  rw[this]at hq;cases hq⟩
theorem SB{l:ab}(hl:l.length<=1000000)(h:∀y∈l,Nk pm y):II pm 173 (.l l):=Ej hp (by decide+kernel) (by decide+kernel) (bI hl (by decide+kernel)) h
theorem N2{l:ab}(h:II pm 173 (.l l)):∀y∈l,Nk pm y:=jM hp (by decide+kernel) h
end
section
variable{N:Nat}{pm:Pm}(hp:dG pm)(hE:dQ am (II pm) (JJ pm N) Gf dr)(U5:dQ am (II pm) (JJ pm N) Gf dW)(hSt:dQ am (II pm) (JJ pm N) Gf fX)(QP:dQ am (II pm) (JJ pm N) Gf fO)(hMR:dQ am (II pm) (JJ pm N) Gf iG)(hML:dQ am (II pm) (JJ pm N) Gf mb)(hIx:dQ am (II pm) (JJ pm N) Gf dX)
structure ScT(N:Nat)(pm:Pm)(V:ab)(c0 c1 c2 c3 c4 c5 c6 c7 c8 c9 fJ fx fA ge qQ qR qS qT uV:Sc):Prop where
 h:∀er:Int,cR am (II pm) (JJ pm N) scY [c0,c1,c2,c3,c4,c5,c6,c7,c8,c9,fJ,fx,fA,ge,qQ,qR,qS,qT,uV,.i er]
variable{V:ab}{c0 c1 c2 c3 c4 c5 c6 c7 c8 c9 fJ fx fA ge qQ qR qS qT uV:Sc}
include hp hE in
theorem Xz(hS:ScT N pm V c0 c1 c2 c3 c4 c5 c6 c7 c8 c9 fJ fx fA ge qQ qR qS qT uV){e0 e1 e2 e3:Sc}(h0:∃z,e0= .i z)(h1:has am (II pm) (JJ pm N) (.str 4294967296) e1)(h2:∃z,e2= .i z)(h3:II pm 100 e3)(er:Int):∃d0 d1 d2 d3 Og,Gf 276 [c0,c1,c2,c3,c4,c5,c6,c7,c8,c9,fJ,fx,fA,ge,qQ,qR,qS,qT,uV,.i er,e0,e1,e2,e3]=some [.i d0,d1,.i d2,d3,.i Og]/\has am (II pm) (JJ pm N) (.str 4294967296) d1/\II pm 100 d3:=by
 obtain⟨rs,g1,g2,_⟩:=hE ([c0,c1,c2,c3,c4,c5,c6,c7,c8,c9,fJ,fx,fA,ge,qQ,qR,qS,qT,uV,.i er]++[e0,e1,e2,e3]) (nj (hS.h er) ⟨h0,h1,h2,h3,trivial⟩) (nofun);obtain⟨d0,p0,rfl,⟨z0,rfl⟩,k0⟩:=af g2;obtain⟨d1,p1,rfl,o1,k1⟩:=af k0;obtain⟨d2,p2,rfl,⟨z2,rfl⟩,k2⟩:=af k1;obtain⟨d3,p3,rfl,o3,k3⟩:=af k2;obtain⟨d4,p4,rfl,⟨z4,rfl⟩,k4⟩:=af k3;cases dI k4
 exact⟨z0,d1,z2,d3,z4,g1,o1,o3⟩
include hp U5 in
theorem abY(hS:ScT N pm V c0 c1 c2 c3 c4 c5 c6 c7 c8 c9 fJ fx fA ge qQ qR qS qT uV){e:Sc}(h:II pm 100 e)(er:Int):∃d Og,Gf 277 [c0,c1,c2,c3,c4,c5,c6,c7,c8,c9,fJ,fx,fA,ge,qQ,qR,qS,qT,uV,.i er,e]=some [d,.i Og]/\II pm 100 d:=by
 obtain⟨rs,g1,g2,_⟩:=U5 ([c0,c1,c2,c3,c4,c5,c6,c7,c8,c9,fJ,fx,fA,ge,qQ,qR,qS,qT,uV,.i er]++[e]) (nj (hS.h er) ⟨h,trivial⟩) (nofun);obtain⟨d0,p0,rfl,o0,k0⟩:=af g2;obtain⟨d1,p1,rfl,⟨z1,rfl⟩,k1⟩:=af k0;cases dI k1
 exact⟨d0,z1,g1,o0⟩
include hp QP in
theorem MK{l:ab}(hl:l.length<=1000000)(h:∀y∈l,Nk pm y)(n:Int):∃l',Gf 189 [.l l,.i n]=some [.l l']/\l'.length=l.length/\∀y∈l',Nk pm y:=by have hI:=SB hp hl h;obtain⟨rs,g1,g2,_⟩:=QP [.l l,.i n] ⟨hI,⟨_,rfl⟩,trivial⟩ (nofun);obtain⟨y,rfl,hy⟩:=EM g2;obtain⟨l',rfl⟩:=wL hp (k:=173) (by decide+kernel) hy;exact⟨l',g1,VA (ql hp hI) (by show l.length<=_;omega) g1,N2 hp hy⟩
end
theorem oC{I:Nat->Sc->Prop}{J:Nat->ab->Prop}(hT:Fa am I J):∀{us ts:List Ty}{xs:ab},iy (fun u t=>Bz am 3 u t) us ts=true->cR am I J us xs->cR am I J ts xs
 |[],[],[],_,_=>trivial|u::us,w::ts,x::xs,h,hx=>by simp only[iy,aL]at h;exact⟨nE hT h.1 hx.1,oC hT h.2 hx.2⟩
 |[],_::_,_,h,_=>by simp[iy]at h
 |_::_,[],_,h,_=>by simp[iy]at h
 |[],[],_::_,_,h=>h.elim|_::_,_::_,[],_,h=>h.elim
section
variable{N:Nat}{pm:Pm}(hp:dG pm)(hE:dQ am (II pm) (JJ pm N) Gf dr)(U5:dQ am (II pm) (JJ pm N) Gf dW)(QP:dQ am (II pm) (JJ pm N) Gf fO)(hMR:dQ am (II pm) (JJ pm N) Gf iG)(hML:dQ am (II pm) (JJ pm N) Gf mb)(hIx:dQ am (II pm) (JJ pm N) Gf dX)
variable{V:ab}{c0 c1 c3 c4 c5 c6 c7 c8 c9 fJ fx fA ge qQ qR qS qT uV:Sc}
include hp hE U5 hMR hML in
theorem aid(hS:ScT N pm V c0 c1 (.l V) c3 c4 c5 c6 c7 c8 c9 fJ fx fA ge qQ qR qS qT uV){s0 s1 s2 s3 s4 s5 s6 s7 s8 s9 Lc Ld Le Lf Lg Lh Li Lj Lk FJ FK:Sc}(hs:cR am (II pm) (JJ pm N) stY [s0,s1,s2,s3,s4,s5,s6,s7,s8,s9,Lc,Ld,Le,Lf,Lg,Lh,Li,Lj,Lk,FJ,FK])(h0:0<=xK s2 V 0)(er:Int):
 ∃row Og,Gf 275 [c0,c1,.l V,c3,c4,c5,c6,c7,c8,c9,fJ,fx,fA,ge,qQ,qR,qS,qT,uV,.i er,s0,s1,s2,s3,s4,s5,s6,s7,s8,s9,Lc,Ld,Le,Lf,Lg,Lh,Li,Lj,Lk,FJ,FK]=some (row++[.i Og])/\fl (II pm) ac2 row:=by
 have hT:=cY hp (N:=N)
 have hS0:=hS.h er
 obtain⟨QM,h1,h2,h3,h4,h5,h6,h7,h8,h9,Mi,Oq,P3,Ji,Wi,QN,Ot,SS,J1,KG,_⟩:=hS0
 obtain⟨t0,t1,t2,t3,t4,t5,t6,t7,t8,t9,t10,t11,t12,t13,t14,t15,t16,t17,t18,t19,t20,_⟩:=hs
 have hV:II pm 35 (.l V):=h2
 have hVl:V.length<=10000000:=bI (jc hp (by decide+kernel) hV) (by decide+kernel)
 have g32:Gf 32 [c0,c1,.l V,c3,s2]=some [.i (xK s2 V 0)]:=za (by omega)
 have hjl:xK s2 V 0<V.length:=by rcases QE (w:=s2) V 0 with h|h<;>omega
 generalize xK s2 V 0=j at h0 g32 hjl
 obtain⟨j,rfl⟩:∃n:Nat,j=n:=⟨j.toNat,by omega⟩
 have hjn:j<V.length:=by omega
 obtain⟨rl,agG,au2,_⟩:=hML [c0,c1,.l V,c3,c6,s2] (oC hT (us:=[.str 4294967296,.ae 115,.ae 35,.ae 134,.str 4294967296,.str 4294967296]) (by decide+kernel) ⟨QM,h1,h2,h3,h6,t2,trivial⟩) (nofun)
 obtain⟨l0,p0,rfl,⟨zl,rfl⟩,k0⟩:=af au2
 obtain⟨l1,p1,rfl,⟨bl,rfl⟩,k1⟩:=af k0
 cases dI k1
 have agG:Gf 319 [c0,c1,.l V,c3,c6,s2]=some [.i zl,.b bl]:=agG
 obtain⟨w,ew,hw⟩:=qr hp (cs:=[.str 4294967296,.ae 115,.ae 184,.ae 193,.ae 200,.ae 9,.ae 9,.ae 9,.ae 9,.ae 9,.ae 63,.ae 111,.ae 408]) (by kernel_rfl) (jM hp (by decide+kernel) hV _ (bh hjn))
 match w,bb hw,hw with
 |[w0,w1,w2,w3,w4,w5,w6,w7,w8,w9,R9,Ci,Ur],_,hw=>
 obtain⟨rr,agF,au0,_⟩:=hMR ([w0,w1,w2,w3,w4,w5,w6,w7,w8,w9,R9,Ci,Ur]++[s1]) (oC hT (us:=[.str 4294967296,.ae 115,.ae 184,.ae 193,.ae 200,.ae 9,.ae 9,.ae 9,.ae 9,.ae 9,.ae 63,.ae 111,.ae 408]++[.str 4294967296]) (by decide+kernel) (nj (ve hw) ⟨t1,trivial⟩)) (nofun)
 obtain⟨l2,rfl,zr,rfl⟩:=EM au0
 have agF:Gf 243 [w0,w1,w2,w3,w4,w5,w6,w7,w8,w9,R9,Ci,Ur,s1]=some [.i zr]:=agF
 obtain⟨d0,d1,d2,d3,er1,gE,o1,o3⟩:=Xz hp hE hS t3 t4 t5 t6 er
 obtain⟨d,Wg,gEs,o⟩:=abY hp U5 hS t11 er1
 refine⟨[.i 14,.i (j:Int),.i zr,.i zl,.i d0,d1,.i d2,d3,.i 0,.s ⟨#[]⟩,.i 0,.l [],d,.i 0,.i 0,.i 0,.i 0,.l [],.l [],.b false],Wg,?_,?_⟩
 ·rw[pH];show eE.aF Gf [c0,c1,.l V,c3,c4,c5,c6,c7,c8,c9,fJ,fx,fA,ge,qQ,qR,qS,qT,uV,.i er,s0,s1,s2,s3,s4,s5,s6,s7,s8,s9,Lc,Ld,Le,Lf,Lg,Lh,Li,Lj,Lk,FJ,FK] []=_;unfold eE;have i1:(0:Int)<=(j:Int):=by omega
  simp only[g32,agG,ew,agF,gE,gEs,hjl,i1,aT,Nat.reduceAdd];rfl
 ·have z3:II pm 3 (.l []):=qd hp (by decide+kernel) (by decide+kernel);have ady:II pm 100 (.l []):=qd hp (by decide+kernel) (by decide+kernel);exact⟨⟨_,rfl⟩,⟨_,rfl⟩,⟨_,rfl⟩,⟨_,rfl⟩,⟨_,rfl⟩,o1,⟨_,rfl⟩,o3,⟨_,rfl⟩,⟨_,rfl,by decide⟩,⟨_,rfl⟩,ady,o,⟨_,rfl⟩,⟨_,rfl⟩,⟨_,rfl⟩,⟨_,rfl⟩,z3,z3,⟨_,rfl⟩,trivial⟩
end
def LC(N:Nat)(pm:Pm)(V:ab)(x:Sc)(M:Nat):Prop:=∀(c0 c1 c3 c4 c5 c6 c7 c8 c9 fJ fx fA ge qQ qR qS qT uV:Sc),ScT N pm V c0 c1 (.l V) c3 c4 c5 c6 c7 c8 c9 fJ fx fA ge qQ qR qS qT uV->∀er:Int,∃(code:ab)(Og:Int),Gf 101 [c0,c1,.l V,c3,c4,c5,c6,c7,c8,c9,fJ,fx,fA,ge,qQ,qR,qS,qT,uV,.i er,x]=some [.l code,.i Og]/\code.length<=M/\∀y∈code,Nk pm y
theorem apf{a:Sc}{l:ab}{y:Sc}:U3.mu.ev (.l (a::l)) (.i 0) y= .l (y::l):=rfl
section
variable{N:Nat}{pm:Pm}(hp:dG pm)(hE:dQ am (II pm) (JJ pm N) Gf dr)(QP:dQ am (II pm) (JJ pm N) Gf fO)
variable{V:ab}{c0 c1 c3 c4 c5 c6 c7 c8 c9 fJ fx fA ge qQ qR qS qT uV:Sc}
omit hE QP in
theorem row_in{op a:Int}{d0 d2:Int}{d1 d3:Sc}(hp:dG pm)(o1:has am (II pm) (JJ pm N) (.str 4294967296) d1)(o3:II pm 100 d3):Nk pm (.l [.i op,.i a,.i 0,.i 0,.i d0,d1,.i d2,d3,.i 0,.s ⟨#[]⟩,.i 0,.l [],.l [],.i 0,.i 0,.i 0,.i 0,.l [],.l [],.b false]):=by have z3:II pm 3 (.l []):=qd hp (by decide+kernel) (by decide+kernel);have ady:II pm 100 (.l []):=qd hp (by decide+kernel) (by decide+kernel);exact YL ⟨⟨_,rfl⟩,⟨_,rfl⟩,⟨_,rfl⟩,⟨_,rfl⟩,⟨_,rfl⟩,o1,⟨_,rfl⟩,o3,⟨_,rfl⟩,⟨_,rfl,by decide⟩,⟨_,rfl⟩,ady,ady,⟨_,rfl⟩,⟨_,rfl⟩,⟨_,rfl⟩,⟨_,rfl⟩,z3,z3,⟨_,rfl⟩,trivial⟩
include hp hE QP in
theorem NY(hS:ScT N pm V c0 c1 (.l V) c3 c4 c5 c6 c7 c8 c9 fJ fx fA ge qQ qR qS qT uV){s0 s1 s2 s3 s4 s5 s6 s7 s8 s9 Lc Ld Le Lf Lg Lh Li Lj Lk FJ FK:Sc}(hs:cR am (II pm) (JJ pm N) stY [s0,s1,s2,s3,s4,s5,s6,s7,s8,s9,Lc,Ld,Le,Lf,Lg,Lh,Li,Lj,Lk,FJ,FK]){M1 M2:Nat}(hM:M1+M2+2<=1000000)(hb:LC N pm V FJ M1)(he:LC N pm V FK M2)(er:Int):
 ∃(code:ab)(Og:Int),Gf 272 [c0,c1,.l V,c3,c4,c5,c6,c7,c8,c9,fJ,fx,fA,ge,qQ,qR,qS,qT,uV,.i er,s0,s1,s2,s3,s4,s5,s6,s7,s8,s9,Lc,Ld,Le,Lf,Lg,Lh,Li,Lj,Lk,FJ,FK]=some [.l code,.i Og]/\code.length<=2+M1+M2/\∀y∈code,Nk pm y:=by
 obtain⟨t0,t1,t2,t3,t4,t5,t6,t7,t8,t9,t10,t11,t12,t13,t14,t15,t16,t17,t18,t19,t20,_⟩:=hs
 obtain⟨z0,rfl⟩:=t0
 obtain⟨d0,d1,d2,d3,er1,gE,o1,o3⟩:=Xz hp hE hS t3 t4 t5 t6 er
 obtain⟨cb,Wg,g3,l3,b3⟩:=hb c0 c1 c3 c4 c5 c6 c7 c8 c9 fJ fx fA ge qQ qR qS qT uV hS er1
 obtain⟨JW,g4,l4,b4⟩:=MK hp QP (by omega) b3 1
 obtain⟨ce,er3,g5,l5,b5⟩:=he c0 c1 c3 c4 c5 c6 c7 c8 c9 fJ fx fA ge qQ qR qS qT uV hS Wg
 have w1:IntKind.i64.wrap (((JW.length+1:Nat):Int)+1)=((JW.length+1:Nat):Int)+1:=by rw[iO]<;>omega
 have w2:IntKind.i64.wrap (((JW.length+1:Nat):Int)+1+(ce.length:Int))=((JW.length+1:Nat):Int)+1+(ce.length:Int):=by rw[iO]<;>omega
 obtain⟨ce',g6,l6,b6⟩:=MK hp QP (by omega) b5 (((JW.length+1:Nat):Int)+1)
 have key:bW (iI.aF Gf [c0,c1,.l V,c3,c4,c5,c6,c7,c8,c9,fJ,fx,fA,ge,qQ,qR,qS,qT,uV,.i er,.i z0,s1,s2,s3,s4,s5,s6,s7,s8,s9,Lc,Ld,Le,Lf,Lg,Lh,Li,Lj,Lk,FJ,FK] []) fun r=>∃(code:ab)(Og:Int),r=[.l code,.i Og]/\code.length<=2+M1+M2/\∀y∈code,Nk pm y:=by
  have e1:((JW.length+1:Nat):Int)<=549755813888:=by omega
  have e2:((JW.length+1+1:Nat):Int)<=549755813888:=by omega
  have e3:(0:Int)<((JW.length+1+1:Nat):Int):=by omega
  have e4:(0:Int)<((JW.length+1:Nat):Int):=by omega
  unfold iI;by_cases h4:z0=4
  ·simp only[gE,g3,g4,h4,fR,e1,e2,e3,apf,aT,Nat.reduceAdd];refine bW.some ⟨_,_,rfl,?_,?_⟩
   ·simp only[AM,fR,oe];omega
   ·intro x hx;simp only[bX,ic,nV,AR]at hx;rcases hx with rfl|hx|rfl
    ·exact row_in hp o1 o3
    ·exact b4 x hx
    ·exact row_in (N:=N) hp ⟨_,rfl,by decide⟩ (qd hp (by decide+kernel) (by decide+kernel))
  ·simp only[gE,g3,g4,g5,h4,fR,e1,e2,e3,e4,w1,w2,apf,aT,Nat.reduceAdd];refine bW.ite (fun _=> ?_) (fun _=> ?_)
   ·refine bW.some ⟨_,_,rfl,?_,?_⟩
    ·simp only[AM];omega
    ·intro x hx;rcases bX.1 hx with rfl|hx
     ·exact row_in hp o1 o3
     ·exact b4 x hx
   ·have e5:((JW.length+1+ce'.length+1:Nat):Int)<=549755813888:=by omega
    simp only[g6,e5,aT,Nat.reduceAdd];refine bW.some ⟨_,_,rfl,?_,?_⟩
    ·simp only[AM,fR,oe];omega
    ·intro x hx;simp only[bX,ic,nV,AR]at hx;rcases hx with rfl|(hx|rfl)|hx
     ·exact row_in hp o1 o3
     ·exact b4 x hx
     ·exact row_in (N:=N) hp ⟨_,rfl,by decide⟩ (qd hp (by decide+kernel) (by decide+kernel))
     ·exact b6 x hx
 obtain⟨r,h1,code,z,rfl,h2,h3⟩:=key
 refine⟨code,z,?_,h2,h3⟩
 rw[we]
 exact h1
end
section
variable{N:Nat}{pm:Pm}(hp:dG pm)(hE:dQ am (II pm) (JJ pm N) Gf dr)(U5:dQ am (II pm) (JJ pm N) Gf dW)(hSt:dQ am (II pm) (JJ pm N) Gf fX)(QP:dQ am (II pm) (JJ pm N) Gf fO)(hMR:dQ am (II pm) (JJ pm N) Gf iG)(hML:dQ am (II pm) (JJ pm N) Gf mb)(hIx:dQ am (II pm) (JJ pm N) Gf dX)
variable{V:ab}
include hp hIx in
theorem acq{c0 c1 c3 c4 c5 c6 c7 c8 c9 fJ fx fA ge qQ qR qS qT uV:Sc}(hS:ScT N pm V c0 c1 (.l V) c3 c4 c5 c6 c7 c8 c9 fJ fx fA ge qQ qR qS qT uV){w:Sc}(h:has am (II pm) (JJ pm N) (.str 4294967296) w)(er:Int):∃a b:Int,Gf 271 [c0,c1,.l V,c3,c4,c5,c6,c7,c8,c9,fJ,fx,fA,ge,qQ,qR,qS,qT,uV,.i er,w]=some [.i a,.i b]:=by
 have hT:=cY hp (N:=N);obtain⟨rs,g1,g2,_⟩:=hIx ([c0,c1,.l V,c3,c4,c5,c6,c7,c8,c9,fJ,fx,fA,ge,qQ,qR,qS,qT,uV,.i er]++[w]) (oC hT (us:=scY++[.str 4294967296]) (by decide+kernel) (nj (hS.h er) ⟨h,trivial⟩)) (nofun);obtain⟨d0,p0,rfl,⟨z0,rfl⟩,k0⟩:=af g2;obtain⟨d1,p1,rfl,⟨z1,rfl⟩,k1⟩:=af k0;cases dI k1
 exact⟨z0,z1,g1⟩
include hp hE U5 hSt QP hMR hML hIx in
theorem aij{c0 c1 c3 c4 c5 c6 c7 c8 c9 fJ fx fA ge qQ qR qS qT uV:Sc}(hS:ScT N pm V c0 c1 (.l V) c3 c4 c5 c6 c7 c8 c9 fJ fx fA ge qQ qR qS qT uV){s0 s1 s2 s3 s4 s5 s6 s7 s8 s9 Lc Ld Le Lf Lg Lh Li Lj Lk FJ FK:Sc}(hs:cR am (II pm) (JJ pm N) stY [s0,s1,s2,s3,s4,s5,s6,s7,s8,s9,Lc,Ld,Le,Lf,Lg,Lh,Li,Lj,Lk,FJ,FK]){M1 M2:Nat}(hM:M1+M2+2<=1000000)(hb:LC N pm V FJ M1)(he:LC N pm V FK M2)(Ji:s0.int=13->0<=xK s2 V 0)(er:Int):
 ∃(code:ab)(Og:Int),Gf 190 [c0,c1,.l V,c3,c4,c5,c6,c7,c8,c9,fJ,fx,fA,ge,qQ,qR,qS,qT,uV,.i er,s0,s1,s2,s3,s4,s5,s6,s7,s8,s9,Lc,Ld,Le,Lf,Lg,Lh,Li,Lj,Lk,FJ,FK]=some [.l code,.i Og]/\code.length<=2+M1+M2/\∀y∈code,Nk pm y:=by
 have hs0:=hs
 obtain⟨t0,t1,t2,t3,t4,t5,t6,t7,t8,t9,t10,t11,t12,t13,t14,t15,t16,t17,t18,t19,t20,_⟩:=hs
 obtain⟨z0,rfl⟩:=t0
 obtain⟨ia,er1,gI⟩:=acq hp hIx hS t1 er
 by_cases h3:z0=3
 ·subst h3;obtain⟨code,Wg,g,h1,h2⟩:=NY hp hE QP hS hs0 hM hb he er1;refine⟨code,Wg,?_,h1,h2⟩;rw[kg];show cL.aF Gf [c0,c1,.l V,c3,c4,c5,c6,c7,c8,c9,fJ,fx,fA,ge,qQ,qR,qS,qT,uV,.i er,.i 3,s1,s2,s3,s4,s5,s6,s7,s8,s9,Lc,Ld,Le,Lf,Lg,Lh,Li,Lj,Lk,FJ,FK] []=_;unfold cL;simp only[gI,g,aT,Nat.reduceAdd,reduceEq]
 by_cases h4:z0=4
 ·subst h4;obtain⟨code,Wg,g,h1,h2⟩:=NY hp hE QP hS hs0 hM hb he er1;refine⟨code,Wg,?_,h1,h2⟩;rw[kg];show cL.aF Gf [c0,c1,.l V,c3,c4,c5,c6,c7,c8,c9,fJ,fx,fA,ge,qQ,qR,qS,qT,uV,.i er,.i 4,s1,s2,s3,s4,s5,s6,s7,s8,s9,Lc,Ld,Le,Lf,Lg,Lh,Li,Lj,Lk,FJ,FK] []=_;unfold cL;simp only[gI,g,aT,Nat.reduceAdd,reduceEq]
 by_cases h5:z0=13
 ·subst h5;obtain⟨row,Wg,g,h1⟩:=aid hp hE U5 hMR hML hS hs0 (Ji rfl) er1
  match row,bb h1,h1 with
  |[q0,q1,q2,q3,q4,q5,q6,q7,q8,q9,K7,ZK,q12,q13,q14,q15,q16,q17,q18,q19],_,h1=>
  have g:Gf 275 [c0,c1,.l V,c3,c4,c5,c6,c7,c8,c9,fJ,fx,fA,ge,qQ,qR,qS,qT,uV,.i er1,.i 13,s1,s2,s3,s4,s5,s6,s7,s8,s9,Lc,Ld,Le,Lf,Lg,Lh,Li,Lj,Lk,FJ,FK]=some [q0,q1,q2,q3,q4,q5,q6,q7,q8,q9,K7,ZK,q12,q13,q14,q15,q16,q17,q18,q19,.i Wg]:=g;refine⟨[.l [q0,q1,q2,q3,q4,q5,q6,q7,q8,q9,K7,ZK,q12,q13,q14,q15,q16,q17,q18,q19]],Wg,?_,by simp;omega,fun y hy=> ?_⟩
  ·rw[kg];show cL.aF Gf [c0,c1,.l V,c3,c4,c5,c6,c7,c8,c9,fJ,fx,fA,ge,qQ,qR,qS,qT,uV,.i er,.i 13,s1,s2,s3,s4,s5,s6,s7,s8,s9,Lc,Ld,Le,Lf,Lg,Lh,Li,Lj,Lk,FJ,FK] []=_;unfold cL;simp only[gI,g,aT,Nat.reduceAdd,reduceEq]
  ·rw[cw.1 hy];exact YL h1
 ·have hT:=cY hp (N:=N);obtain⟨rs,g1,g2,g3⟩:=hSt ([c0,c1,.l V,c3,c4,c5,c6,c7,c8,c9,fJ,fx,fA,ge,qQ,qR,qS,qT,uV,.i er]++[.i z0,s1,s2,s3,s4,s5,s6,s7,s8,s9,Lc,Ld,Le,Lf,Lg,Lh,Li,Lj,Lk,FJ,FK]) (oC hT (us:=scY++stY) (by decide+kernel) (nj (hS.h er) hs0)) (fun f hf=>by
   have hf:f∈[Fc.t (.o .eq (.v 20) (.i 3)) false,Fc.t (.o .eq (.v 20) (.i 4)) false,Fc.t (.o .eq (.v 20) (.i 13)) false]:=hf;simp only[bX,nV,AR]at hf;rcases hf with rfl|rfl|rfl
   ·show(z0==3)=false;simpa using h3
   ·show(z0==4)=false;simpa using h4
   ·show(z0==13)=false;simpa using h5)
  obtain⟨d0,p0,rfl,o0,k0⟩:=af g2;obtain⟨d1,p1,rfl,⟨z1,rfl⟩,k1⟩:=af k0;cases dI k1
  have o0:II pm 173 d0:=o0;obtain⟨code,rfl⟩:=wL hp (k:=173) (by decide+kernel) o0;have hl:=g3 _ (cw.2 rfl);have hl:decide ((code.length:Int)<=1)=true:=hl;have hl:=fv hl;exact⟨code,z1,g1,by omega,N2 hp o0⟩
include hp hE U5 hSt QP hMR hML hIx in
theorem ahE:∀(c:Nat),c<=1000->∀x:Sc,II pm 105 x->Lm c x.list->Sd V x.list->LC N pm V x (4*c):=by
 intro c;induction c using Nat.strongRecOn with
 |_ c ih=>
 intro hc x hx hL hD c0 c1 c3 c4 c5 c6 c7 c8 c9 fJ fx fA ge qQ qR qS qT uV hS er;obtain⟨xs,rfl⟩:=wL hp (k:=105) (by decide+kernel) hx;have hlen:=hL.len;have hL:Lm c xs:=hL;have hD:Sd V xs:=hD;have hlen:xs.length<=c:=hlen;have key:bW (jG.aF Gf [c0,c1,.l V,c3,c4,c5,c6,c7,c8,c9,fJ,fx,fA,ge,qQ,qR,qS,qT,uV,.i er,.l xs] []) fun r=>∃(code:ab)(Og:Int),r=[.l code,.i Og]/\code.length<=4*c/\∀y∈code,Nk pm y:=by
  unfold jG;rw[T.aF];refine dv (S:=ab×Int) (fun i s=>[.l s.1,.i (i:Int),.i s.2]) (fun i s=>∃d e,Lm e (xs.drop i)/\d+e=c/\s.1.length<=4*d/\∀y∈s.1,Nk pm y) xs.length (s:=([],er)) rfl (by omega) ⟨0,c,by rw[Ki];exact hL,by omega,xA _,nofun⟩ (fun i s rec hi hI hr=> ?_) (fun s rec hI=> ?_)
  ·obtain⟨acc,ez⟩:=s;obtain⟨d,e,hE2,hde,SU,hat⟩:=hI;simp only at SU hat hr⊢;have w1:=cM (i:=i) (by omega);have hd:xs.drop i=xs.getD i (.i 0)::xs.drop (i+1):=by rw[xD hi,cE,cB hi];rfl
   rw[hd]at hE2;obtain⟨c1,c2,c0',e1,e2,e3,e4⟩:=hE2.inv;have ti:=bh (xs:=xs) hi;obtain⟨m1,m2,m3⟩:=hD.mem _ ti;obtain⟨cs,es,nP⟩:=qr hp aii (jM hp (by decide+kernel) hx _ ti);rw[es]at e2 e3 m1 m2 m3
   match cs,bb nP,nP,es,e2,e3,m1,m2,m3 with
   |[s0,s1,s2,s3,s4,s5,s6,s7,s8,s9,Lc,Ld,Le,Lf,Lg,Lh,Li,Lj,Lk,FJ,FK],_,nP,es,e2,e3,m1,m2,m3=>
   have hs0:=nP;obtain⟨t0,t1,t2,t3,t4,t5,t6,t7,t8,t9,t10,t11,t12,t13,t14,t15,t16,t17,t18,t19,t20,_⟩:=nP;have b1:=ih c1 (by omega) (by omega) FJ t19 e2 m2;have b2:=ih c2 (by omega) (by omega) FK t20 e3 m3;obtain⟨code,Wg,g1,g2,g3⟩:=aij hp hE U5 hSt QP hMR hML hIx hS (ve hs0) (by omega) b1 b2 m1 ez;obtain⟨Kw,g4,g5,g6⟩:=MK hp QP (by omega) g3 (acc.length:Int);have n1:((acc.length+Kw.length:Nat):Int)<=549755813888:=by omega
   simp only[w1,es,g1,g4,fR,n1,aT,Nat.reduceAdd];repeat rw[aA (by omega)]
   refine hr (acc++Kw,Wg) ⟨d+(1+c1+c2),c0',e4,by omega,by rw[fR];omega,fun y hy=> ?_⟩;rcases ic.1 hy with hy|hy
   ·exact hat y hy
   ·exact g6 y hy
  ·obtain⟨acc,ez⟩:=s;obtain⟨d,e,hE2,hde,SU,hat⟩:=hI;simp only[aT];rw[aE (by omega)];exact bW.some ⟨acc,ez,rfl,by simp only at SU;omega,hat⟩
 obtain⟨r,h1,code,z,rfl,h2⟩:=key;exact⟨code,z,by rw[yk];exact h1,h2⟩
end
theorem Oe{pm:Pm}{k:Nat}{cs:List Ty}{c:ab}(hk:am.tk k= .row cs)(hr:am.ma k=[])(h:fl (II pm) cs c):cA am (II pm) (J0 pm) k (.l c):=by unfold cA;rw[hk];exact⟨⟨c,rfl,h⟩,fun q hq=>by rw[hr]at hq;cases hq⟩
theorem aaB{pm:Pm}{k:Nat}{t:Ty}{x:Sc}(hk:am.tk k= .vec t)(h:th (II pm) t x):cA am (II pm) (J0 pm) k x:=by unfold cA;rw[hk];exact h
def ZU:List Ty:=[.str 4294967296,.ae 115,.ae 184,.ae 193,.ae 200,.ae 9,.ae 9,.ae 9,.ae 9,.ae 9,.ae 63,.ae 111,.ae 408]
theorem C1:am.tk 35= .row ZU:=by kernel_rfl
def ah7:List Ty:=[.str 4294967296,.ae 109,.ae 109,.ae 105]
theorem IC:am.tk 63= .row ah7:=by kernel_rfl
structure Cc(N:Nat)(pm:Pm):Prop where
 e:dQ am (II pm) (JJ pm N) Gf dr
 es:dQ am (II pm) (JJ pm N) Gf dW
 st:dQ am (II pm) (JJ pm N) Gf fX
 mv:dQ am (II pm) (JJ pm N) Gf fO
 mr:dQ am (II pm) (JJ pm N) Gf iG
 ml:dQ am (II pm) (JJ pm N) Gf mb
 ix:dQ am (II pm) (JJ pm N) Gf dX
 ts:dQ am (II pm) (JJ pm N) Gf xx
 tm:dQ am (II pm) (JJ pm N) Gf mj
 bc:dQ am (II pm) (JJ pm N) Gf nz
 cf:dQ am (II pm) (JJ pm N) Gf ff
section
variable{N:Nat}{pm:Pm}(hp:dG pm)(H:Cc N pm)
include hp H
theorem adb{a b lk f x:Sc}{V:ab}{i:Nat}(A:Arg N pm a b V lk)(hi:i<V.length)(hf:II pm 1006 f)(hx:II pm 105 x){c:Nat}(hc:c<=80)(hL:Lm c x.list):∃(code:ab)(z:Int),Gf 55 [a,b,.l V,lk,.i (i:Int),f,x]=some [.l code,.i z]/\code.length<=320/\∀y∈code,Nk pm y:=by
 have hVl:V.length<=10000000:=bI (jc hp (by decide+kernel) A.s) (by decide+kernel);obtain⟨rs,g1,g2,_⟩:=H.ts [a,b,.l V,lk,.i (i:Int),f,x] ⟨A.n,A.p,A.s,A.l,⟨_,rfl⟩,hf,hx,trivial⟩ (nofun);obtain⟨_,rfl,zt,rfl⟩:=EM g2;have g1:Gf 48 [a,b,.l V,lk,.i (i:Int),f,x]=some [.i zt]:=g1;have key:bW (fQ.aF Gf [a,b,.l V,lk,.i (i:Int),f,x] []) fun r=>∃(code:ab)(z:Int),r=[.l code,.i z]/\code.length<=320/\∀y∈code,Nk pm y:=by
  unfold fQ;rcases GG (zt≠0)with hz|hz
  ·simp only[g1,aT,Nat.reduceAdd];rw[aA (by simpa using hz)];exact bW.some ⟨[],zt,rfl,xA _,nofun⟩
  ·have hz:zt=0:=LE.1 hz;subst hz;have hD:=R7 hVl (by omega) hL g1 rfl;obtain⟨w,ew,hw⟩:=qr hp C1 (jM hp (by decide+kernel) A.s _ (bh hi))
   match w,bb hw,hw with
   |[w0,w1,w2,w3,w4,w5,w6,w7,w8,w9,R9,Ci,Ur],_,hw=>
   have hS:ScT N pm V a b (.l V) lk b f w0 w1 w2 w3 w4 w5 w6 w7 w8 w9 R9 Ci Ur:=⟨fun er=>⟨A.n,A.p,A.s,A.l,A.p,hf,nj (ts:=ZU) (us:=[.int]) (xs:=[w0,w1,w2,w3,w4,w5,w6,w7,w8,w9,R9,Ci,Ur]) (ys:=[.i er]) (ve hw) ⟨⟨er,rfl⟩,trivial⟩⟩⟩;obtain⟨code,Og,g3,g4,g5⟩:=ahE hp H.e H.es H.st H.mv H.mr H.ml H.ix c (by omega) x hx hL hD _ _ _ _ _ _ _ _ _ _ _ _ _ _ _ _ _ _ hS 0;have i1:(i:Int)<V.length:=by omega
   have i2:(0:Int)<=(i:Int):=by omega
   simp only[g1,i1,i2,ew,g3,aT,Nat.reduceAdd];refine bW.ite (fun _=>bW.some ⟨[],Og,rfl,xA _,nofun⟩) fun _=>bW.some ⟨code,0,rfl,by omega,g5⟩
 obtain⟨r,h1,code,z,rfl,h2⟩:=key;exact⟨code,z,by rw[xg];exact h1,h2⟩
theorem VP{a b lk:Sc}{V:ab}{i j:Nat}(A:Arg N pm a b V lk)(hi:i<V.length)(hj:j<((V.getD i (.i 0)).list.getD 10 (.i 0)).list.length)(hL:Lit V):∃(n:Sc)(k l:Int)(code:ab)(z:Int),Gf 31 [a,b,.l V,lk,.i (i:Int),.i (j:Int)]=some [n,.i k,.i l,.l code,.i z]/\has am (II pm) (JJ pm N) (.str 4294967296) n/\code.length<=1000/\∀y∈code,Nk pm y:=by
 obtain⟨zt,g1⟩:=Ja hp H.tm A;obtain⟨w,ew,hw⟩:=qr hp C1 (jM hp (by decide+kernel) A.s _ (bh hi))
 match w,bb hw,hw,ew with
 |[w0,w1,w2,w3,w4,w5,w6,w7,w8,w9,R9,Ci,Ur],_,hw,ew=>
 obtain⟨q0,q1,q2,q3,q4,q5,q6,q7,q8,q9,K7,ZK,q12,_⟩:=id hw;have K7:II pm 63 R9:=K7;obtain⟨vE,rfl⟩:=wL hp (by decide+kernel) K7;rw[ew]at hj;have hj:j<vE.length:=hj;obtain⟨t,et,ht⟩:=qr hp IC (jM hp (by decide+kernel) K7 _ (bh hj));obtain⟨c,hc,hLm⟩:=hL _ (bh hi) (vE.getD j (.i 0)) (by rw[ew];exact bh hj)
 match t,bb ht,ht,et with
 |[t0,t1,t2,t3],_,ht,et=>
 obtain⟨p0,p1,p2,p3,_⟩:=id ht;rw[et]at hLm;have hLm:Lm c t3.list:=hLm;have h60:II pm 60 (.l [t1,t2]):=Ej hp (by decide+kernel) (by decide+kernel) (by show 2<=_;decide+kernel) (fun y hy=>by
  simp only[bX,nV,AR]at hy;rcases hy with rfl|rfl
  ·exact aaB (t:= .ae 109) (by kernel_rfl) p1
  ·exact aaB (t:= .ae 109) (by kernel_rfl) p2)
 obtain⟨rs,g2,g3,_⟩:=H.cf [.l [t1,t2]] ⟨h60,trivial⟩ (fun f hf=>by have hf:f∈[Fc.t (.o .le (.u .len (.v 0)) (.i 4)) true]:=hf;rw[cw.1 hf];rfl)
 obtain⟨f,rfl,hf⟩:=EM g3;have g2:Gf 54 [.l [t1,t2]]=some [f]:=g2;obtain⟨code,z,g4,g5,g6⟩:=adb hp H A hi hf p3 hc hLm;have z0:has am (II pm) (JJ pm N) (.str 4294967296) (.s ⟨#[]⟩):=⟨_,rfl,by decide⟩;have key:bW (eK.aF Gf [a,b,.l V,lk,.i (i:Int),.i (j:Int)] []) fun r=>∃(n:Sc)(k l:Int)(code:ab)(z:Int),r=[n,.i k,.i l,.l code,.i z]/\has am (II pm) (JJ pm N) (.str 4294967296) n/\code.length<=1000/\∀y∈code,Nk pm y:=by
  unfold eK;have i1:(i:Int)<V.length:=by omega
  have i2:(0:Int)<=(i:Int):=by omega
  have j1:(j:Int)<vE.length:=by omega
  have j2:(0:Int)<=(j:Int):=by omega
  simp only[g1,ew,et,g2,g4,i1,i2,j1,j2,fR,aT,Nat.reduceAdd];have bad:∀z:Int,bW (some [Sc.s ⟨#[]⟩,Sc.i 0,Sc.i 0,Sc.l [],Sc.i z]) fun r=>∃(n:Sc)(k l:Int)(code:ab)(z:Int),r=[n,.i k,.i l,.l code,.i z]/\has am (II pm) (JJ pm N) (.str 4294967296) n/\code.length<=1000/\∀y∈code,Nk pm y:=fun z=>bW.some ⟨_,0,0,[],z,rfl,z0,xA _,nofun⟩;refine bW.ite (fun _=>bad _) fun _=> ?_;refine bW.ite (fun _=>bad _) fun _=> ?_;refine bW.ite (fun _=>bad _) fun _=> ?_;refine bW.ite (fun _=>bad _) fun _=> ?_;refine bW.ite (fun _=>bad _) fun _=> ?_;refine bW.ite (fun _=>bad _) fun _=> ?_;rw[aA (by omega)];refine bW.ite (fun _=>bad _) fun hl=> ?_;refine bW.some ⟨_,_,_,_,_,rfl,p0,by rw[fR,BM];omega,fun y hy=> ?_⟩;rcases ic.1 hy with hy|hy
  ·exact g6 y hy
  ·rw[cw.1 hy];exact row_in (N:=N) hp z0 (qd hp (by decide+kernel) (by decide+kernel))
 obtain⟨r,h1,n,k,l,code,z,rfl,h2⟩:=key;exact⟨n,k,l,code,z,by rw[tG];exact h1,h2⟩
end
theorem Rk{a b c:Sc}{S V:ab}(hS:∀s∈S,SiF s)(hL:Lit S)(h1:V.length=S.length)(h2:∀i,i<S.length->JV a b S c (S.getD i (.i 0)) (V.getD i (.i 0))):Lit V:=by
 intro v hv t ht;obtain⟨i,hi,rfl⟩:=gH hv;have hi:i<S.length:=by omega
 have hs:=bh (xs:=S) hi;obtain⟨E,g1,g2,g3⟩:=h2 i hi;obtain⟨c0,c1,c2,c3,c4,c5,c6,c7,c8,c9,vE,fx,fA,es,_,_,_⟩:=(hS _ hs).f;have hls:=hL _ hs;rw[g3,es]at ht;rw[es]at g1 g2 hls;have ht:t∈E:=ht;have g1:E.length=vE.length:=g1;obtain⟨j,hj,rfl⟩:=gH ht;obtain⟨P,body,z,d1,d2,d3,d4⟩:=g2 j hj;rw[d4];have d2:Gf 53 [P,(vE.getD j (.i 0)).list.getD 3 (.i 0)]=some [body,z]:=d2;obtain⟨c,hc,hLm⟩:=hls (vE.getD j (.i 0)) (bh (by omega));exact⟨c,hc,W9 c (by omega) P _ _ _ hLm d2 d3⟩
def acY:List Ty:=[.str 4294967296,.ae 115,.ae 184,.ae 193,.ae 200,.ae 9,.ae 9,.ae 9,.ae 9,.ae 9,.ae 63,.ae 111,.ae 408,.ae 130]
def acZ:List Ty:=[.str 4294967296,.int,.int,.ae 173]
def ac0:List Ty:=[.str 4294967296,.str 4294967296,.int]
def ac1:List Ty:=[.int,.int,.int]
theorem VQ:am.tk 130= .row acZ:=by kernel_rfl
theorem VR:am.tk 134= .row ac0:=by kernel_rfl
theorem VS:am.tk 137= .row ac1:=by kernel_rfl
section
variable{N:Nat}{pm:Pm}(hp:dG pm)(H:Cc N pm)
include hp H
theorem TS{a b:Sc}{S lk:ab}(A:Arg N pm a b S (.l lk))(hL:Lit S):∃(n:Sc)(T K:ab)(z:Int),Gf 14 [a,b,.l S,.l lk]=some [n,.l T,.l K,.i z]/\has am (II pm) (JJ pm N) (.str 4294967296) n/\II pm 126 (.l T)/\II pm 137 (.l K):=by
 have z0:has am (II pm) (JJ pm N) (.str 4294967296) (.s ⟨#[]⟩):=⟨_,rfl,by decide⟩;have avq:II pm 126 (.l []):=qd hp (by decide+kernel) (by decide+kernel);have avr:II pm 137 (.l []):=qd hp (by decide+kernel) (by decide+kernel);have bad:∀z:Int,bW (some [Sc.s ⟨#[]⟩,Sc.l [],Sc.l [],Sc.i z]) fun r=>∃(n:Sc)(T K:ab)(z:Int),r=[n,.l T,.l K,.i z]/\has am (II pm) (JJ pm N) (.str 4294967296) n/\II pm 126 (.l T)/\II pm 137 (.l K):=fun z=>bW.some ⟨_,[],[],z,rfl,z0,avq,avr⟩;obtain⟨rs,g29,q29,_⟩:=H.bc [a,b,.l S,.l lk] ⟨A.n,A.p,A.s,A.l,trivial⟩ (nofun);obtain⟨v0,p0,rfl,o0,k0⟩:=af q29;obtain⟨v1,p1,rfl,o1,k1⟩:=af k0;obtain⟨v2,p2,rfl,o2,k2⟩:=af k1;obtain⟨v3,p3,rfl,o3,k3⟩:=af k2;obtain⟨v4,p4,rfl,⟨zc,rfl⟩,k4⟩:=af k3;cases dI k4
 have g29:Gf 29 [a,b,.l S,.l lk]=some [v0,v1,v2,v3,.i zc]:=g29;have key:bW (fP.aF Gf [a,b,.l S,.l lk] []) fun r=>∃(n:Sc)(T K:ab)(z:Int),r=[n,.l T,.l K,.i z]/\has am (II pm) (JJ pm N) (.str 4294967296) n/\II pm 126 (.l T)/\II pm 137 (.l K):=by
  unfold fP;rcases GG (zc≠0)with hz|hz
  ·simp only[g29,aT,Nat.reduceAdd];rw[aA (by simpa using hz)];exact bad _
  have hz:zc=0:=LE.1 hz;subst hz;obtain⟨V,e,hVl,hVf,hVS,hVc⟩:=W6 hp H.tm H.bc A g29 rfl;cases e
  have hV:II pm 35 (.l V):=o2;have hLV:Lit V:=Rk (RL hp A.s) hL hVS hVc;have A':Arg N pm a (.l []) V (.l lk):=⟨A.n,qd hp (by decide+kernel) (by decide+kernel),hV,A.l⟩;have hlk:lk.length<=10000000:=bI (jc hp (by decide+kernel) A.l) (by decide+kernel);have asM:V.length<=1048576:=bI (jc hp (by decide+kernel) hV) (by decide+kernel);simp only[g29,aT,Nat.reduceAdd];refine dv (S:=ab) (fun i D=>[.i (i:Int),.l D]) (fun i D=>D.length=i/\∀y∈D,cA am (II pm) (J0 pm) 126 y) V.length (s:=[]) rfl (by omega) ⟨rfl,nofun⟩ (fun i D rec hi hI hr=> ?_) (fun D rec hI=> ?_)
  ·obtain⟨hD,QO⟩:=hI;have w1:=cM (i:=i) (by omega);obtain⟨w,ew,hw⟩:=qr hp C1 (jM hp (by decide+kernel) hV _ (bh hi))
   match w,bb hw,hw,ew with
   |[w0,w1',w2,w3,w4,w5,w6,w7,w8,w9,R9,Ci,Ur],_,hw,ew=>
   obtain⟨q0,q1,q2,q3,q4,q5,q6,q7,q8,q9,K7,ZK,q12,_⟩:=id hw;have K7:II pm 63 R9:=K7;obtain⟨vE,rfl⟩:=wL hp (by decide+kernel) K7;have X8:=iz hp K7;have Vd:vE.length<=1048576:=bI (jc hp (by decide+kernel) K7) (by decide+kernel);have i1:(i:Int)<V.length:=by omega
   have i2:(0:Int)<=(i:Int):=by omega
   simp only[w1,ew,X8,i1,i2,aT,Nat.reduceAdd];refine dv (S:=ab×ab) (fun k s=>[.i (k:Int),.l s.1,.l s.2]) (fun k s=>s.1.length=k/\(∀y∈s.1,cA am (II pm) (J0 pm) 130 y)/\s.2.length=vE.length/\∀y∈s.2,cA am (II pm) (J0 pm) 63 y) vE.length (s:=([],vE)) rfl (by omega) ⟨rfl,fun _ h=>(by cases h),rfl,jM hp (by decide+kernel) K7⟩ (fun k s tp hk hJ oa=> ?_) (fun s tp hJ=> ?_)
   ·obtain⟨E,G⟩:=s;obtain⟨hE,hEe,hG,hGe⟩:=hJ;simp only at hE hEe hG hGe oa⊢;have w2:=cM (i:=k) (by omega);obtain⟨n,rk,rl,code,z,g31,o5,o6,o7⟩:=VP hp H A' hi (j:=k) (by rw[ew];exact hk) hLV;obtain⟨t,et,ht⟩:=qr hp IC (hGe _ (bh (xs:=G) (n:=k) (by omega)))
    match t,bb ht,ht,et with
    |[t0,t1,t2,t3],_,ht,et=>
    obtain⟨h0,h1,h2,h3,_⟩:=id ht;have k1:(k:Int)<vE.length:=by omega
    have k2:(0:Int)<=(k:Int):=by omega
    have k3:(k:Int)<G.length:=by omega
    have k4:((E.length+1:Nat):Int)<=2513169434916:=by omega
    simp only[w2,g31,k1,k2,k3,et,fR,k4,Ng,aT,Nat.reduceAdd];refine bW.ite (fun _=>bad _) fun _=> ?_;refine oa (E++[.l [n,.i rk,.i rl,.l code]],G.set k (.l [t0,t1,t2,.l []])) ⟨by rw[fR,hE];rfl,fun y hy=> ?_,by rw[BO];exact hG,fun y hy=> ?_⟩
    ·rcases ic.1 hy with hy|hy
     ·exact hEe y hy
     ·rw[cw.1 hy];exact Oe VQ (by kernel_rfl) ⟨o5,⟨_,rfl⟩,⟨_,rfl⟩,SB hp (by omega) o7,trivial⟩
    ·rcases Ke hy with hy|rfl
     ·exact hGe y hy
     ·exact Oe IC (by kernel_rfl) ⟨h0,h1,h2,qd hp (by decide+kernel) (by decide+kernel),trivial⟩
   ·obtain⟨E,G⟩:=s;obtain⟨hE,hEe,hG,hGe⟩:=hJ;simp only at hE hEe hG hGe⊢;have k4:((D.length+1:Nat):Int)<=429077708400:=by omega
    simp only[Int.lt_irrefl,fR,k4,aT,Nat.reduceAdd];refine hr _ ⟨by rw[fR,hD];rfl,fun y hy=> ?_⟩;rcases ic.1 hy with hy|hy
    ·exact QO y hy
    ·rw[cw.1 hy];exact Oe (cs:=acY) (by kernel_rfl) (by kernel_rfl) ⟨q0,q1,q2,q3,q4,q5,q6,q7,q8,q9,Ej hp (by decide+kernel) (by decide+kernel) (by rw[hG];exact jc hp (by decide+kernel) K7) hGe,ZK,q12,Ej hp (by decide+kernel) (by decide+kernel) (by rw[hE];exact bI Vd (by decide+kernel)) hEe,trivial⟩
  ·obtain⟨hD,QO⟩:=hI;simp only[Int.lt_irrefl,aT];refine dv (S:=ab) (fun i K=>[.i (i:Int),.l K]) (fun i K=>K.length=i/\∀y∈K,cA am (II pm) (J0 pm) 137 y) lk.length (s:=[]) rfl (by omega) ⟨rfl,nofun⟩ (fun i K tp hi hJ oa=> ?_) (fun K tp hJ=> ?_)
   ·obtain⟨hK,hKe⟩:=hJ;have w1:=cM (i:=i) (by omega);obtain⟨t,et,ht⟩:=qr hp VR (jM hp (by decide+kernel) A.l _ (bh hi))
    match t,bb ht,ht,et with
    |[t0,t1,t2],_,ht,et=>
    obtain⟨h0,h1,⟨zt,rfl⟩,_⟩:=id ht;have s1:=za (a:=a) (b:= .l []) (c:= .l lk) (w:=t0) (S:=V) (by omega);have s2:=za (a:=a) (b:= .l []) (c:= .l lk) (w:=t1) (S:=V) (by omega);have i1:(i:Int)<lk.length:=by omega
    have i2:(0:Int)<=(i:Int):=by omega
    have k4:((K.length+1:Nat):Int)<=5864062014805:=by omega
    simp only[w1,et,s1,s2,i1,i2,fR,k4,aT,Nat.reduceAdd];refine oa _ ⟨by rw[fR,hK];rfl,fun y hy=> ?_⟩;rcases ic.1 hy with hy|hy
    ·exact hKe y hy
    ·rw[cw.1 hy];exact Oe VS (by kernel_rfl) ⟨⟨_,rfl⟩,⟨_,rfl⟩,⟨_,rfl⟩,trivial⟩
   ·obtain⟨hK,hKe⟩:=hJ;simp only[Int.lt_irrefl,aT];exact bW.some ⟨_,D,K,0,rfl,A.n,Ej hp (by decide+kernel) (by decide+kernel) (by rw[hD];exact bI asM (by decide+kernel)) QO,Ej hp (by decide+kernel) (by decide+kernel) (by rw[hK];exact bI (jc hp (by decide+kernel) A.l) (by decide+kernel)) hKe⟩
 obtain⟨r,h1,n,T,K,z,rfl,h2⟩:=key;exact⟨n,T,K,z,by rw[xf];exact h1,h2⟩
end
section
variable{N:Nat}{pm:Pm}(hp:dG pm)(P6:dQ am (II pm) (JJ pm N) Gf mj)(hBM:dQ am (II pm) (JJ pm N) Gf pe)(Wj:dQ am (II pm) (JJ pm N) Gf nz)(H:Cc N pm)(hCC:dQ am (II pm) (JJ pm N) Gf pg)
include hp P6 Wj in
theorem Xa{nm P:Sc}{S lk:ab}(A:Arg N pm nm P S (.l lk)){r:ab}(h:Gf 14 [nm,P,.l S,.l lk]=some r)(h0:(r.getD 3 (.i 0)).int=0):
 ∃V T K,V.length<=10000000/\V.length=S.length/\(∀i,i<S.length->JV nm P S (.l lk) (S.getD i (.i 0)) (V.getD i (.i 0)))/\r=[nm,.l T,.l K,.i 0]/\T.length=V.length/\(∀i,i<V.length->SiM nm V (.l lk) i (V.getD i (.i 0)) (T.getD i (.i 0)))/\K.length=lk.length/\∀j,j<lk.length->LkM nm V (.l lk) (lk.getD j (.i 0)) (K.getD j (.i 0)):=by
 obtain⟨V,T,K,h1,h2,h3,h4,h5,h6⟩:=Qs (bI (jc hp (by decide+kernel) A.l) (by decide+kernel)) (fun r h h0=>by obtain⟨V,e,a1,a2,_⟩:=W6 hp P6 Wj A h h0;exact⟨V,e,a1,a2⟩) h h0
 obtain⟨V',e,a1,a2,a3,a4⟩:=W6 hp P6 Wj A h1 rfl
 cases e
 exact⟨V,T,K,a1,a3,a4,h2,h3,h4,h5,h6⟩
include hp P6 Wj H hCC in
theorem agu{nm P x:Sc}{S lk:ab}(hL1:Lit S)(hL2:Lit (S++[x]))(A:Arg N pm nm P S (.l lk))(A':Arg N pm nm P (S++[x]) (.l lk)){r r':ab}(h:Gf 14 [nm,P,.l S,.l lk]=some r)(h0:(r.getD 3 (.i 0)).int=0)(h':Gf 14 [nm,P,.l (S++[x]),.l lk]=some r')(QM:(r'.getD 3 (.i 0)).int=0):
 ∃T K y K',r=[nm,.l T,.l K,.i 0]/\r'=[nm,.l (T++[y]),.l K',.i 0]/\II pm 126 (.l T)/\II pm 137 (.l K)/\II pm 126 (.l (T++[y]))/\II pm 137 (.l K')/\((∀u∈K,0<=(u.list.getD 0 (.i 0)).int/\0<=(u.list.getD 1 (.i 0)).int)->K'=K):=by
 obtain⟨V,T,K,a1,a2,a3,rfl,a4,a5,a6,a7⟩:=Xa hp P6 Wj A h h0
 obtain⟨V',T',K',b1,b2,b3,rfl,b4,b5,b6,b7⟩:=Xa hp P6 Wj A' h' QM
 obtain⟨y0,rfl⟩:=Qr a2 a3 b2 b3
 obtain⟨y,rfl⟩:=Sm (y:=y0) (V:=V) (P:=fun i v u=>SiM nm V (.l lk) i v u) (P':=fun i v u=>SiM nm (V++[y0]) (.l lk) i v u) (fun i v u u' hi g g'=>aab a1 hi g g') rfl a4 a5 b4 b5
 have e:∀{S:ab}{r:ab},Lit S->Arg N pm nm P S (.l lk)->Gf 14 [nm,P,.l S,.l lk]=some r->cR am (II pm) (JJ pm N) [.str 4294967296,.ae 126,.ae 137,.int] r:=fun{S r} hL A h=>by
  obtain⟨n,T,K,z,g1,g2,g3,g4⟩:=TS hp H A hL;rw[h]at g1;cases g1
  exact⟨g2,g3,g4,⟨_,rfl⟩,trivial⟩
 have e1:=e hL1 A h
 have e2:=e hL2 A' h'
 refine⟨T,K,y,K',rfl,rfl,e1.2.1,e1.2.2.1,e2.2.1,e2.2.2.1,fun hK=> ?_⟩
 exact all_eq (P:=fun t u=>LkM nm V (.l lk) t u) (P':=fun t u=>LkM nm (V++[y0]) (.l lk) t u) (fun t u u' hu g g'=>Zd a1 (hK u hu).1 (hK u hu).2 g g') a6 a7 b6 b7
theorem Lp{nm P L g s d:Sc}{S:ab}{r:ab}(h:Gf 7 [nm,P,.l S,L,g,s,d]=some r)(h0:(r.getD 4 (.i 0)).int=0):
 ∃p0 p1 p2 p3 p4 q0 q1 q2 q3 w z,Gf 13 [nm,P,.l S,L,g]=some [p0,p1,p2,p3,p4]/\p4.int=0/\Gf 14 [p0,p1,p2,p3]=some [q0,q1,q2,q3]/\q3.int=0/\Gf 15 [q0,q1,q2,s,d]=some [w,z]/\z.int=0/\r=[q0,q1,q2,w,.i 0]:=by
 rw[EC]at h
 replace h:kV.aF Gf [nm,P,.l S,L,g,s,d] []=some r:=h
 suffices hq:ar (kV.aF Gf [nm,P,.l S,L,g,s,d] []) (fun r=>(r.getD 4 (.i 0)).int=0->∃p0 p1 p2 p3 p4 q0 q1 q2 q3 w z,Gf 13 [nm,P,.l S,L,g]=some [p0,p1,p2,p3,p4]/\p4.int=0/\Gf 14 [p0,p1,p2,p3]=some [q0,q1,q2,q3]/\q3.int=0/\Gf 15 [q0,q1,q2,s,d]=some [w,z]/\z.int=0/\r=[q0,q1,q2,w,.i 0])from hq _ h h0
 unfold kV
 simp only[iT,aT]
 refine ar.call fun r1 zM wj=> ?_
 obtain⟨p0,p1,p2,p3,p4,rfl⟩:=ahC wj
 simp only[aT]
 refine ar.ite (fun hz=>ar.some fun e=>absurd e hz) fun hz=> ?_
 refine ar.call fun r2 DH oa=> ?_
 obtain⟨q0,q1,q2,q3,rfl⟩:∃q0 q1 q2 q3,r2=[q0,q1,q2,q3]:=by
  match r2,oa with
  |[q0,q1,q2,q3],_=>exact⟨q0,q1,q2,q3,rfl⟩
 simp only[aT]
 refine ar.ite (fun hz=>ar.some fun e=>absurd e hz) fun nQ=> ?_
 refine ar.call fun r3 Jj HM=> ?_
 obtain⟨w,z,rfl⟩:∃w z,r3=[w,z]:=by
  match r3,HM with
  |[w,z],_=>exact⟨w,z,rfl⟩
 simp only[aT]
 refine ar.ite (fun hz=>ar.some fun e=>absurd e hz) fun Vh=> ?_
 exact ar.some fun _=>⟨p0,p1,p2,p3,p4,q0,q1,q2,q3,w,z,zM,by simpa using hz,DH,by simpa using nQ,Jj,by simpa using Vh,rfl⟩
include hp P6 hBM Wj H hCC in
theorem V5{nm P x g s d:Sc}{S lk:ab}(hL1:Lit S)(hL2:Lit (S++[x]))(A:Arg N pm nm P S (.l lk))(A':Arg N pm nm P (S++[x]) (.l lk))(hg:II pm 117 g){r r':ab}(h:Gf 7 [nm,P,.l S,.l lk,g,s,d]=some r)(h0:(r.getD 4 (.i 0)).int=0)(h':Gf 7 [nm,P,.l (S++[x]),.l lk,g,s,d]=some r')(QM:(r'.getD 4 (.i 0)).int=0):
 ∃T K y W w,r=[nm,.l T,.l K,.l W,.i 0]/\r'=[nm,.l (T++[y]),.l K,.l (W++[w]),.i 0]/\T.length=S.length/\Two N pm nm T K y:=by
 obtain⟨p0,p1,p2,p3,p4,q0,q1,q2,q3,w,z,c1,c2,c3,c4,c5,c6,rfl⟩:=Lp h h0
 obtain⟨p0',p1',p2',p3',p4',q0',q1',q2',q3',w',z',c1',c2',c3',c4',c5',c6',rfl⟩:=Lp h' QM
 obtain⟨zt,t⟩:=Ja hp P6 A
 obtain⟨zt',t'⟩:=Ja hp P6 A'
 obtain⟨P2,e,e'⟩:=WR t t' c1 c2 c1' c2'
 have hP2:II pm 115 P2:=by
  obtain⟨rs,g1,g2,_⟩:=hBM [nm,P,.l S,.l lk,g] ⟨A.n,A.p,A.s,A.l,hg,trivial⟩ (nofun);have g1:Gf 13 [nm,P,.l S,.l lk,g]=some rs:=g1;rw[c1,e]at g1;cases g1
  exact g2.2.1
 cases e;cases e'
 obtain⟨T,K,y,K',f1,f2,f3,f4,f5,f6,f7⟩:=agu hp P6 Wj H hCC hL1 hL2 ⟨A.n,hP2,A.s,A.l⟩ ⟨A.n,hP2,A'.s,A.l⟩ c3 c4 c3' c4'
 have hTS:T.length=S.length:=by
  obtain⟨V,T2,K2,_,a2,_,e,a4,_⟩:=Xa hp P6 Wj (⟨A.n,hP2,A.s,A.l⟩:Arg N pm nm p1 S (.l lk)) c3 c4;rw[f1]at e;cases e
  omega
 cases f1;cases f2
 have hTl:T.length<=10000000:=bI (jc hp (by decide+kernel) f3) (by decide+kernel)
 obtain⟨⟨zc,g1,g2⟩,_⟩:=Je (by omega) c5 c6
 have hK:∀u∈K,0<=(u.list.getD 0 (.i 0)).int/\0<=(u.list.getD 1 (.i 0)).int:=by
  obtain⟨_,⟨zz,h1,h2⟩,_⟩:=oW (fun s hs=>by
   obtain⟨c,rfl,hc⟩:=qr hp C2 (jM hp (by decide+kernel) f3 s hs)
   match c,bb hc,hc with
   |[a0,a1,a2,a3,a4,a5,a6,a7,a8,a9,Fb,GC,a12,FO],_,hc=>
    have hr:II pm 130 FO:=hc.2.2.2.2.2.2.2.2.2.2.2.2.2.1;obtain⟨l,rfl⟩:=wL hp (by decide+kernel) hr;exact bI (jc hp (by decide+kernel) hr) (by decide+kernel)) g1 g2
  exact abn (bI (jc hp (by decide+kernel) f4) (by decide+kernel)) (fun a ha=>by
   obtain⟨c,rfl,hc⟩:=qr hp (cs:=[.int,.int,.int]) (by kernel_rfl) (jM hp (by decide+kernel) f4 a ha)
   match c,bb hc,hc with
   |[a0,a1,a2],_,⟨⟨z0,e0⟩,⟨z1,e1⟩,_⟩=>exact⟨⟨z0,e0⟩,z1,e1⟩) h1 h2
 have:=f7 hK
 subst this
 obtain⟨z1,d1⟩:=WZ hp hCC A.n f3 f4
 obtain⟨z2,d2⟩:=WZ hp hCC A.n f5 f4
 obtain⟨W,w2,e,e'⟩:=aaG hTl d1 d2 c5 c6 c5' c6'
 cases e;cases e'
 exact⟨T,K',y,W,w2,rfl,rfl,hTS,⟨wN hp (by decide+kernel) f3,wN hp (by decide+kernel) f5,A.n,f4⟩⟩
end
structure Ca(N:Nat)(pm:Pm):Prop where
 c:Cc N pm
 bm:dQ am (II pm) (JJ pm N) Gf pe
 cc:dQ am (II pm) (JJ pm N) Gf pg
 wn:dQ am (II pm) (JJ pm N) Gf wO
 ts:Cts N
 pk:dQ am (II pm) (JJ pm N) Gf eN
 ws:dQ am (II pm) (JJ pm N) Gf jA
 wc:dQ am (II pm) (JJ pm N) Gf nC
 li:dQ am (II pm) (JJ pm N) Gf nB
 br:dQ am (II pm) (JJ pm N) Gf jN
section
variable{N:Nat}{pm:Pm}(hp:dG pm)(H:Ca N pm)
include hp H
theorem Uj{nm P g:Sc}{S lk:ab}{s:Int}{d:Bool}(A:Arg N pm nm P S (.l lk))(hg:II pm 117 g)(hL:Lit S):∃r0 r1 r2 r3 z,Gf 7 [nm,P,.l S,.l lk,g,.i s,.b d]=some [r0,r1,r2,r3,.i z]/\(z=0->II pm 76 r3):=by
 obtain⟨rs,g13,q13,_⟩:=H.bm [nm,P,.l S,.l lk,g] ⟨A.n,A.p,A.s,A.l,hg,trivial⟩ (nofun);obtain⟨v0,p0,rfl,o0,k0⟩:=af q13;obtain⟨v1,p1,rfl,o1,k1⟩:=af k0;obtain⟨v2,p2,rfl,o2,k2⟩:=af k1;obtain⟨v3,p3,rfl,o3,k3⟩:=af k2;obtain⟨v4,p4,rfl,⟨zc,rfl⟩,k4⟩:=af k3;cases dI k4
 have g13:Gf 13 [nm,P,.l S,.l lk,g]=some [v0,v1,v2,v3,.i zc]:=g13;have key:bW (kV.aF Gf [nm,P,.l S,.l lk,g,.i s,.b d] []) fun r=>∃r0 r1 r2 r3 z,r=[r0,r1,r2,r3,.i z]/\(z=0->II pm 76 r3):=by
  unfold kV;rcases GG (zc≠0)with hz|hz
  ·simp only[g13,aT,Nat.reduceAdd];rw[aA (by simpa using hz)];exact bW.some ⟨_,_,_,_,zc,rfl,fun e=>absurd e hz⟩
  have hz:zc=0:=LE.1 hz;subst hz;obtain⟨zt,t⟩:=Ja hp H.c.tm A;obtain⟨_,P2,e⟩:=Ql t g13 rfl;cases e
  obtain⟨n,T,K,zm,g14,m1,m2,m3⟩:=TS hp H.c (⟨A.n,o1,A.s,A.l⟩:Arg N pm nm v1 S (.l lk)) hL;obtain⟨rs,g15,q15,_⟩:=H.wn [n,.l T,.l K,.i s,.b d] ⟨m1,m2,m3,⟨_,rfl⟩,⟨_,rfl⟩,trivial⟩ (nofun);obtain⟨w0,p0,rfl,o0,k0⟩:=af q15;obtain⟨w1,p1,rfl,⟨zw,rfl⟩,k1⟩:=af k0;cases dI k1
  have g15:Gf 15 [n,.l T,.l K,.i s,.b d]=some [w0,.i zw]:=g15;simp only[g13,g14,g15,aT,Nat.reduceAdd];refine bW.ite (fun hz=>bW.some ⟨_,_,_,_,zm,rfl,fun e=>absurd e hz⟩) fun _=> ?_;refine bW.ite (fun hz=>bW.some ⟨_,_,_,_,zw,rfl,fun e=>absurd e hz⟩) fun _=> ?_;exact bW.some ⟨_,_,_,_,0,rfl,fun _=>o0⟩
 obtain⟨r,h1,r0,r1,r2,r3,z,rfl,h2⟩:=key;exact⟨r0,r1,r2,r3,z,by rw[EC];exact h1,h2⟩
theorem ao5{nm P x g:Sc}{S lk:ab}{s u:Int}{d:Bool}{x0 x1 x2 x3 x4 x5 x6 x7 x8 x9 kI lu lx:Sc}(hx:x= .l [x0,x1,x2,x3,x4,x5,x6,x7,x8,x9,kI,lu,lx])(A:Arg N pm nm P S (.l lk))(A':Arg N pm nm P (S++[x]) (.l lk))(hg:II pm 117 g)(SU:Gf 6 []=some [.b true]):
 Gf 3 [nm,P,.l S,.l lk,x0,x1,x2,x3,x4,x5,x6,x7,x8,x9,kI,lu,lx,g,.i s,.b d,.i u]=some [.b true]:=by
 have hSl:S.length<=1048576:=bI (jc hp (by decide+kernel) A.s) (by decide+kernel)
 have li:∀{S:ab},Arg N pm nm P S (.l lk)->∃b,Gf 4 [nm,P,.l S,.l lk]=some [.b b]:=fun{S} A=>by have hT:=cY hp (N:=N);obtain⟨rs,g1,g2,_⟩:=H.li [nm,P,.l S,.l lk] (oC hT (us:=[.str 4294967296,.ae 115,.ae 35,.ae 134]) (by decide+kernel) ⟨A.n,A.p,A.s,A.l,trivial⟩) (nofun);obtain⟨_,rfl,b,rfl⟩:=EM g2;exact⟨b,g1⟩
 obtain⟨b1,g1⟩:=li A
 obtain⟨b2,g2⟩:=li A'
 have hT:=cY hp (N:=N)
 obtain⟨rs,g5,q5,_⟩:=H.br [g,.i s,.b d,.i u] (oC hT (us:=[.ae 117,.int,.bool,.int]) (by decide+kernel) ⟨hg,⟨_,rfl⟩,⟨_,rfl⟩,⟨_,rfl⟩,trivial⟩) (nofun)
 obtain⟨_,rfl,b3,rfl⟩:=EM q5
 have g5:Gf 5 [g,.i s,.b d,.i u]=some [.b b3]:=g5
 rw[hx]at g2
 have n1:(S.length:Int)<=462952264326:=by omega
 have n2:((S.length+1:Nat):Int)<=462952264326:=by omega
 suffices hq:bW (fF.aF Gf [nm,P,.l S,.l lk,x0,x1,x2,x3,x4,x5,x6,x7,x8,x9,kI,lu,lx,g,.i s,.b d,.i u] []) fun r=>r=[.b true]by
  obtain⟨r,h1,rfl⟩:=hq;rw[se];exact h1
 unfold fF
 cases b1 with
 |false=>
  simp only[g1,SU,n1,n2,fR,aT,Nat.reduceAdd];exact bW.some rfl
 |true=>
 cases b2 with
 |false=>
  simp only[g1,g2,SU,n1,n2,fR,aT,Nat.reduceAdd];exact bW.some rfl
 |true=>
 cases b3 with
 |false=>
  simp only[g1,g2,g5,SU,n1,n2,fR,aT,Nat.reduceAdd];exact bW.some rfl
 |true=>
 have hL:=(Ig g1 rfl).1
 have hL':=(Ig g2 rfl).1
 rw[<-hx]at hL'
 obtain⟨a0,a1,a2,a3,z,s1,t1⟩:=Uj hp H A hg hL (s:=s) (d:=d)
 obtain⟨c0,c1,c2,c3,z',s2,t2⟩:=Uj hp H A' hg hL' (s:=s) (d:=d)
 have s2':=s2
 rw[hx]at s2
 rcases GG (z≠0)with hz|hz
 ·simp only[g1,g2,g5,SU,s1,s2,n1,n2,fR,aT,Nat.reduceAdd];rw[aA (by simpa using hz)];exact bW.some rfl
 have hz:z=0:=LE.1 hz
 subst hz
 rcases GG (z'≠0)with hz|hz
 ·simp only[g1,g2,g5,SU,s1,s2,n1,n2,fR,aT,Nat.reduceAdd];rw[aA (by simpa using hz)];exact bW.some rfl
 have hz:z'=0:=LE.1 hz
 subst hz
 obtain⟨T,K,y,W,w,e1,e2,e3,e4⟩:=V5 hp H.c.tm H.bm H.c.bc H.c H.cc hL hL' A A' hg s1 rfl s2' rfl
 cases e1
 cases e2
 obtain⟨r0,r1,r2,zr,u1,q0,q1,q2,zq,u2,u3⟩:=aia H.ts hp H.pk H.ws H.wc e4 (t1 rfl) (t2 rfl) u
 rcases GG (zr≠0)with hz|hz
 ·simp only[g1,g2,g5,SU,s1,s2,u1,u2,n1,n2,fR,aT,Nat.reduceAdd];rw[aA (by simpa using hz)];exact bW.some rfl
 have hz:zr=0:=LE.1 hz
 subst hz
 rcases GG (zq≠0)with hz|hz
 ·simp only[g1,g2,g5,SU,s1,s2,u1,u2,n1,n2,fR,aT,Nat.reduceAdd];rw[aA (by simpa using hz)];exact bW.some rfl
 have hz:zq=0:=LE.1 hz
 subst hz
 obtain⟨f0,f1,f2,f3⟩:=u3 rfl rfl
 rw[e3]at f2
 simp only[g1,g2,g5,SU,s1,s2,u1,u2,f2,f3,n1,n2,fR,aT,Nat.reduceAdd]
 exact bW.some rfl
end
end Go.Proofs.YtnfambhakdnncaaGreatDoor
