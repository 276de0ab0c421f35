/-
  A part of the proof of TopText: CkD, CkE, CkF, CkG, CkH, CkI, CkJ, CkK, CkL, CkM, CkN, CkO, CkP, CkQ.
-/
import Derived.Test.YtlklkgdaegncaaaGreatDoorZ16
import Derived.KernelRfl
import Derived.Test.YtlklkgdaegncaaaGreatDoorZ13
namespace Go.Proofs.YtlklkgdaegncaaaGreatDoor
set_option linter.unusedVariables false
set_option linter.unusedSimpArgs false
set_option linter.unusedSectionVars false
set_option maxRecDepth 20000
set_option maxHeartbeats 8000000
open List
open Nat
open Int
section
section
variable {N:Nat}{X:Nat->Sc->Prop}
theorem acC {P:aP->Prop}{o:Option aP} (h:fA o fun r=>rO (IM N X) [yI] r/\P r):∃a,o=some [.i a]:=by
 obtain⟨r,h1,h2,_⟩:=h
 obtain⟨_,_,rfl,⟨a,rfl⟩,aCE⟩:=ah h2
 cases mU aCE
 exact⟨a,h1⟩
theorem ayH {P:aP->Prop}{o:Option aP} (h:fA o fun r=>rO (IM N X) [yB] r/\P r):∃a,o=some [.b a]:=by
 obtain⟨r,h1,h2,_⟩:=h
 obtain⟨_,_,rfl,⟨a,rfl⟩,aCF⟩:=ah h2
 cases mU aCF
 exact⟨a,h1⟩
theorem anv {P:aP->Prop}{o:Option aP} (h:fA o fun r=>rO (IM N X) [yS] r/\P r):∃a,o=some [.s (bs a)]:=by
 obtain⟨r,h1,h2,_⟩:=h
 obtain⟨_,_,rfl,⟨a,rfl⟩,aCG⟩:=ah h2
 cases mU aCG
 exact⟨a,h1⟩
theorem anu {P:aP->Prop}{o:Option aP} (h:fA o fun r=>rO (IM N X) [yI,yB] r/\P r):∃a b,o=some [.i a,.b b]:=by
 obtain⟨r,h1,h2,_⟩:=h
 obtain⟨_,_,rfl,⟨a,rfl⟩,aCH⟩:=ah h2
 obtain⟨_,_,rfl,⟨b,rfl⟩,aCI⟩:=ah aCH
 cases mU aCI
 exact⟨a,b,h1⟩
theorem aea {P:aP->Prop}{o:Option aP} (h:fA o fun r=>rO (IM N X) [yI,yI] r/\P r):∃a b,o=some [.i a,.i b]:=by
 obtain⟨r,h1,h2,_⟩:=h
 obtain⟨_,_,rfl,⟨a,rfl⟩,aCJ⟩:=ah h2
 obtain⟨_,_,rfl,⟨b,rfl⟩,aCK⟩:=ah aCJ
 cases mU aCK
 exact⟨a,b,h1⟩
theorem aph {n:Nat}{i:Nat} (hn:n<=LB) (hi:i<=n):IntKind.i64.wrap ((n:Int)-1-i-1)=(n:Int)-1-((i+1:Nat):Int):=by
 unfold LB at hn
 rw[cE (by omega) (by omega)];omega
theorem acw {α:Type}{g:fF->fF}{Q:aP->Prop} (l:List α) (hl:l.length<=LB)
 (hs:∀(i j:Nat) (x:α) (rec:fF),i<l.length->(l.length:Int)-1-i=j->l[j]? =some x->fA (rec [.i ((l.length:Int)-1-((i+1:Nat):Int))]) Q->fA (g rec [.i (j:Int)]) Q)
 (hf:∀rec,fA (g rec [.i (-1)]) Q):fA (dz g aF [.i ((l.length:Int)-1)]) Q:=by
 refine eG (S:=Unit) (fun i _=>[.i ((l.length:Int)-1-i)]) (fun _ _=>True) l.length (s:=()) (by simp) (by unfold LB at hl;omega) trivial (fun i s rec hi _ hr=> ?_) (fun s rec _=> ?_)
 ·obtain⟨x,hx⟩:=aV (xs:=l) (i:=l.length-1-i) (by omega)
  have e:(l.length:Int)-1-i=((l.length-1-i:Nat):Int):=by omega
  rw[e]
  exact hs i _ x rec hi e hx (hr () trivial)
 ·rw[show(l.length:Int)-1-l.length= -1 by omega]
  exact hf rec
theorem vK (hI:jw Cg (IM N X)):kM (IM N X) fR.F pR:=by
 intro c hc _
 obtain⟨_,_,rfl,⟨l,rfl,hl⟩,aC7⟩:=ah hc
 obtain⟨_,_,rfl,⟨w,rfl⟩,aC8⟩:=ah aC7
 cases mU aC8
 have hw:IntKind.i64.wrap ((l.length:Int)-1)=(l.length:Int)-1:=cE (by omega) (by unfold LB at hl;omega)
 rw[ZH]
 simp only[CN,hw,av,Nat.reduceAdd]
 refine acw l hl (fun i j x rec hi hj hx hr=> ?_) (fun rec=> ?_)
 ·have hjl:=bp hx
  have h2:(j:Int)<l.length:=by omega
  have hw2:IntKind.i64.wrap ((j:Int)-1)=(l.length:Int)-1-((i+1:Nat):Int):=by rw[<-hj];exact aph hl (by omega)
  simp only[ay hx,io.cs,h2,hw2,av]
  refine fA.ite (fun _=> ?_) (fun _=>hr)
  exact⟨_,rfl,⟨aY _,OH _,trivial⟩,fun p h=>by cases h⟩
 ·simp only[av,reduceToNat,reduceLE]
  exact⟨_,rfl,⟨aY _,OH _,trivial⟩,fun p h=>by cases h⟩
theorem An (hI:jw Cg (IM N X)):kM (IM N X) dV.F zQ:=by
 intro c hc _
 obtain⟨c0,c,rfl,_,azb⟩:=ah hc
 obtain⟨c1,c,rfl,_,azc⟩:=ah azb
 obtain⟨c2,c,rfl,_,azd⟩:=ah azc
 obtain⟨c3,c,rfl,_,aze⟩:=ah azd
 obtain⟨c4,c,rfl,_,azf⟩:=ah aze
 obtain⟨_,c,rfl,⟨l,rfl,hl⟩,azg⟩:=ah azf
 obtain⟨c6,c,rfl,_,azh⟩:=ah azg
 obtain⟨c7,c,rfl,_,azi⟩:=ah azh
 obtain⟨c8,c,rfl,_,azj⟩:=ah azi
 obtain⟨c9,c,rfl,_,azk⟩:=ah azj
 obtain⟨GF,c,rfl,_,azl⟩:=ah azk
 obtain⟨GG,c,rfl,_,azm⟩:=ah azl
 obtain⟨c12,c,rfl,_,azn⟩:=ah azm
 obtain⟨HS,c,rfl,_,azo⟩:=ah azn
 obtain⟨JJ,c,rfl,_,azp⟩:=ah azo
 obtain⟨JK,c,rfl,_,azq⟩:=ah azp
 obtain⟨JL,c,rfl,_,azr⟩:=ah azq
 obtain⟨JM,c,rfl,_,azs⟩:=ah azr
 obtain⟨JN,c,rfl,_,azt⟩:=ah azs
 obtain⟨_,c,rfl,⟨er,rfl⟩,azu⟩:=ah azt
 obtain⟨_,_,rfl,⟨w,rfl⟩,azv⟩:=ah azu
 cases mU azv
 have hw:IntKind.i64.wrap ((l.length:Int)-1)=(l.length:Int)-1:=cE (by omega) (by unfold LB at hl;omega)
 rw[Nd]
 simp only[qS,hw,av,Nat.reduceAdd]
 refine acw l hl (fun i j x rec hi hj hx hr=> ?_) (fun rec=> ?_)
 ·have hjl:=bp hx
  have h2:(j:Int)<l.length:=by omega
  have hw2:IntKind.i64.wrap ((j:Int)-1)=(l.length:Int)-1-((i+1:Nat):Int):=by rw[<-hj];exact aph hl (by omega)
  simp only[ay hx,io.cs,h2,hw2,av]
  refine fA.ite (fun _=> ?_) (fun _=>hr)
  exact⟨_,rfl,⟨aY _,aY _,trivial⟩,fun p h=>by cases h⟩
 ·simp only[av,reduceToNat,reduceLE]
  exact⟨_,rfl,⟨aY _,aY _,trivial⟩,fun p h=>by cases h⟩
theorem aaH (hI:jw Cg (IM N X)):kM (IM N X) vk.F Y2:=
 rN hI abK rfl (S:=[pR]) (by
  intro s hs
  simp only[mem_cons,not_mem_nil,or_false]at hs
  subst hs
  show kM (IM N X) (GC 309) _
  rw[TE];exact vK hI) (by decide+kernel)
theorem awy (hI:jw Cg (IM N X)){s0 s1 s2 s3 s4 s5 s6 s7 s8 s9 s10 s11 s12 s13 s14:Sc} (h:hM N X ([yV,yF]++kG) [s0,s1,s2,s3,s4,s5,s6,s7,s8,s9,s10,s11,s12,s13,s14]):
 ∀(e:aj) (k:Nat),e.sz<=k->e.sz<1000000->∃a b,fO k 328 ([s0,s1,s2,s3,s4,s5,s6,s7,s8,s9,s10,s11,s12,s13,s14]++e.cs)=some [.i a,.i b]:=by
 refine aj.ind fun op nm n ks ih k hk hb=> ?_
 have hs:=aj.dR (.mk op nm n ks)
 have hks:(aj.mk op nm n ks).ks=ks:=rfl
 rw[hks]at hs
 have hlen:=aj.AG ks
 obtain⟨k,rfl⟩:∃j,k=j+1:=⟨k-1,by omega⟩
 have key:fA (fO (k+1) 328 ([s0,s1,s2,s3,s4,s5,s6,s7,s8,s9,s10,s11,s12,s13,s14]++(aj.mk op nm n ks).cs)) fun r=>∃a b,r=[.i a,.i b]:=by
  rw[ZM,aj.jN]
  obtain⟨fa,fb,ajO⟩:=anu (aaH hI ([s0,s1,s2,s3,s4,s5,s6,s7,s8,s9,s10,s11,s12,s13,s14]++[.s (bs nm)]) (gF h ⟨eF _,trivial⟩) (fun p hp=>by cases hp))
  obtain⟨ka,ZZ⟩:=anv (Bh hI ([s2,s3,s4,s5,s6,s7,s8,s9,s10,s11,s12,s13,s14]++[.s (bs nm)]) (gF h.2.2 ⟨eF _,trivial⟩) (fun p hp=>by cases hp))
  obtain⟨oa,aDJ⟩:=ayH (We hI [.i op,.s (bs ka)] ⟨aY _,eF _,trivial⟩ (fun p hp=>by cases hp))
  simp only[cons_append,nil_append]at ajO ZZ
  simp only[Fc,av,reduceToNat,Nat.reduceAdd]
  refine eG (S:=uD) (fun i s=>[.l (s.map .i),.i (i:Int)]) (fun i s=>s.length=i) ks.length (s:=[]) rfl (by omega) rfl (fun i s rec hi hI' hr=> ?_) (fun s rec hI'=> ?_)
  ·obtain⟨x,hx⟩:=aV hi
   have hm:=aM hx
   have bN:(i:Int)<ks.length:=by omega
   have TH:=yk (f:=aj.sz) hm
   obtain⟨a,b,g⟩:=ih x hm k (by omega) (by omega)
   rw[aj.aA]at g
   simp only[cons_append,nil_append]at g
   have e1:((((s.map Sc.i)++[Sc.i a]).length:Nat):Int)<=17592186044416:=by simp;omega
   have e2:(s.map Sc.i)++[Sc.i a]=(s++[a]).map Sc.i:=by simp
   simp only[ay hx,aj.aA,bN,g,e1,aJ (k:=i) (by omega),av,Nat.reduceAdd]
   refine fA.ite (fun _=>⟨_,rfl,_,_,rfl⟩) (fun _=> ?_)
   rw[e2]
   exact hr (s++[a]) (by simp[hI'])
  ·simp only[Int.lt_irrefl,RA,Rz,RB,ajO,ZZ,aDJ,av,Nat.reduceAdd]
   refine fA.ite (fun _=> ?_) (fun _=> ?_)
   ·cases fb<;>exact⟨_,rfl,_,_,rfl⟩
   refine fA.ite (fun _=> ?_) (fun _=> ?_)
   ·cases oa<;>exact⟨_,rfl,_,_,rfl⟩
   refine fA.ite (fun c1=> ?_) (fun c1=> ?_)
   ·obtain⟨z,rfl⟩:∃z,s=[z]:=length_eq_one_iff.1 (by omega)
    obtain⟨ua,hun⟩:=acC (Ye hI [.i op,.i z] ⟨aY _,aY _,trivial⟩ (fun p hp=>by cases hp))
    simp only[RC,hun,show(0:Int)<((1:Nat):Int)from by decide,av,Nat.reduceAdd]
    refine fA.ite (fun _=>⟨_,rfl,_,_,rfl⟩) (fun _=>⟨_,rfl,_,_,rfl⟩)
   refine fA.ite (fun c2=> ?_) (fun c2=> ?_)
   ·obtain⟨z,y,rfl⟩:∃z y,s=[z,y]:=by
     rcases s with _|⟨z,_|⟨y,_|⟨w,q⟩⟩⟩
     ·simp at c2
     ·simp at c2
     ·exact⟨z,y,rfl⟩
     ·simp at c2;omega
    obtain⟨ua,hun⟩:=acC (Wd hI [.i op,.i z,.i y] ⟨aY _,aY _,aY _,trivial⟩ (fun p hp=>by cases hp))
    simp only[RE,hun,show(0:Int)<((2:Nat):Int)from by decide,show(1:Int)<((2:Nat):Int)from by decide,av,Nat.reduceAdd]
    refine fA.ite (fun _=>⟨_,rfl,_,_,rfl⟩) (fun _=>⟨_,rfl,_,_,rfl⟩)
   refine fA.ite (fun _=>⟨_,rfl,_,_,rfl⟩) (fun _=> ?_)
   refine fA.ite (fun _=>⟨_,rfl,_,_,rfl⟩) (fun _=> ?_)
   refine fA.ite (fun _=>⟨_,rfl,_,_,rfl⟩) (fun _=>⟨_,rfl,_,_,rfl⟩)
 obtain⟨r,h1,a,b,rfl⟩:=key
 exact⟨a,b,h1⟩
theorem Of (hI:jw Cg (IM N X)):kM (IM N X) lM.F MX:=by
 intro c hc _
 have hc:hM N X (([yV,yF]++kG)++ol) c:=hc
 have split:∀(ts us:List Ty) (c:aP),rO (IM N X) (ts++us) c->∃a b,c=a++b/\rO (IM N X) ts a/\rO (IM N X) us b:=by
  intro ts
  induction ts with
  |nil=>intro us c h;exact⟨[],c,rfl,trivial,h⟩
  |cons t ts ih=>
   intro us c h
   obtain⟨x,xs,rfl,h1,h2⟩:=ah h
   obtain⟨a,b,rfl,h3,h4⟩:=ih us xs h2
   exact⟨x::a,b,rfl,⟨h1,h3⟩,h4⟩
 obtain⟨a,b,rfl,ha,hb⟩:=split _ _ c hc
 obtain⟨e,he,rfl⟩:=Rj hb
 have ha0:=ha
 unfold kG at ha
 simp only[cons_append,nil_append]at ha
 obtain⟨s0,c,rfl,_,ayS⟩:=ah ha
 obtain⟨s1,c,rfl,_,ayT⟩:=ah ayS
 obtain⟨s2,c,rfl,_,ayU⟩:=ah ayT
 obtain⟨s3,c,rfl,_,ayV⟩:=ah ayU
 obtain⟨s4,c,rfl,_,ayW⟩:=ah ayV
 obtain⟨s5,c,rfl,_,ayX⟩:=ah ayW
 obtain⟨s6,c,rfl,_,ayY⟩:=ah ayX
 obtain⟨s7,c,rfl,_,ayZ⟩:=ah ayY
 obtain⟨s8,c,rfl,_,ay0⟩:=ah ayZ
 obtain⟨s9,c,rfl,_,ay1⟩:=ah ay0
 obtain⟨s10,c,rfl,_,ay2⟩:=ah ay1
 obtain⟨s11,c,rfl,_,ay3⟩:=ah ay2
 obtain⟨s12,c,rfl,_,ay4⟩:=ah ay3
 obtain⟨s13,c,rfl,_,ay5⟩:=ah ay4
 obtain⟨s14,c,rfl,_,ay6⟩:=ah ay5
 cases mU ay6
 obtain⟨x,y,g⟩:=awy hI ha0 e (aF+1) (by unfold aF;omega) he
 rw[<-X9]at g
 obtain⟨z,h1,_⟩:=Ew e he
 rw[aj.aA]at g h1⊢
 simp only[cons_append,nil_append]at g
 rw[abJ]
 simp only[Fa,TC,TD,h1,g,av,Nat.reduceAdd]
 refine fA.ite (fun _=> ?_) (fun _=> ?_)
 ·exact⟨_,rfl,⟨aY _,aY _,trivial⟩,fun p h=>by cases h⟩
 ·exact⟨_,rfl,⟨aY _,aY _,trivial⟩,fun p h=>by cases h⟩
end
end
section
section
variable {N:Nat}{X:Nat->Sc->Prop}
theorem kH (hI:jw Cg (IM N X)):kM (IM N X) cr.F gE:=
 rN hI J9 rfl (S:=[MX]) (by
  intro s hs
  simp only[mem_cons,not_mem_nil,or_false]at hs
  rcases hs with rfl
  ·show kM (IM N X) (o0 311) _
   rw[EF];exact Of hI) (by decide+kernel)
theorem Cf (hI:jw Cg (IM N X)):kM (IM N X) iR.F sa:=
 rN hI Pg rfl (S:=[P7]) (by
  intro s hs
  simp only[mem_cons,not_mem_nil,or_false]at hs
  rcases hs with rfl
  ·show kM (IM N X) (uC 166) _
   rw[Jc];exact Bh hI) (by decide+kernel)
theorem Hu (hI:jw Cg (IM N X)):kM (IM N X) kC.F uZ:=
 rN hI Ij rfl (S:=[pR]) (by
  intro s hs
  simp only[mem_cons,not_mem_nil,or_false]at hs
  rcases hs with rfl
  ·show kM (IM N X) (oc 309) _
   rw[DL];exact vK hI) (by decide+kernel)
theorem KV (hI:jw Cg (IM N X)):kM (IM N X) mt.F xz:=
 rN hI L9 rfl (S:=[pR,uZ]) (by
  intro s hs
  simp only[mem_cons,not_mem_nil,or_false]at hs
  rcases hs with rfl|rfl
  ·show kM (IM N X) (iZ 309) _
   rw[Fy];exact vK hI
  ·show kM (IM N X) (iZ 310) _
   rw[FA];exact Hu hI) (by decide+kernel)
theorem JA (hI:jw Cg (IM N X)):kM (IM N X) lC.F wA:=
 rN hI J8 rfl (S:=[sa,gE]) (by
  intro s hs
  simp only[mem_cons,not_mem_nil,or_false]at hs
  rcases hs with rfl|rfl
  ·show kM (IM N X) (ir 287) _
   rw[ED];exact Cf hI
  ·show kM (IM N X) (ir 288) _
   rw[EE];exact kH hI) (by decide+kernel)
theorem Mv (hI:jw Cg (IM N X)):kM (IM N X) m9.F zR:=
 rN hI Ns rfl (S:=[gE,pR]) (by
  intro s hs
  simp only[mem_cons,not_mem_nil,or_false]at hs
  rcases hs with rfl|rfl
  ·show kM (IM N X) (jL 288) _
   rw[Hl];exact kH hI
  ·show kM (IM N X) (jL 309) _
   rw[Hm];exact vK hI) (by decide+kernel)
theorem yJ (hI:jw Cg (IM N X)):kM (IM N X) fM.F o5:=
 rN hI L8 rfl (S:=[gE]) (by
  intro s hs
  simp only[mem_cons,not_mem_nil,or_false]at hs
  rcases hs with rfl
  ·show kM (IM N X) (qD 288) _
   rw[Fx];exact kH hI) (by decide+kernel)
theorem KW (hI:jw Cg (IM N X)):kM (IM N X) jd.F xA:=
 rN hI z7 rfl (S:=[P9,oe,o5,P8]) (by
  intro s hs
  simp only[mem_cons,not_mem_nil,or_false]at hs
  rcases hs with rfl|rfl|rfl|rfl
  ·show kM (IM N X) (cW 32) _
   rw[vd];exact acf hI
  ·show kM (IM N X) (cW 139) _
   rw[FB];exact oI hI
  ·show kM (IM N X) (cW 291) _
   rw[FC];exact yJ hI
  ·show kM (IM N X) (cW 296) _
   rw[FD];exact QG hI) (by decide+kernel)
theorem Mu (hI:jw Cg (IM N X)):kM (IM N X) dW.F LZ:=
 rN hI BP rfl (S:=[oe,zR,xz,sa,gE,wA,xA,o5]) (by
  intro s hs
  simp only[mem_cons,not_mem_nil,or_false]at hs
  rcases hs with rfl|rfl|rfl|rfl|rfl|rfl|rfl|rfl
  ·show kM (IM N X) (bo 139) _
   rw[He];exact oI hI
  ·show kM (IM N X) (bo 285) _
   rw[Hf];exact Mv hI
  ·show kM (IM N X) (bo 286) _
   rw[Hg];exact KV hI
  ·show kM (IM N X) (bo 287) _
   rw[Hh];exact Cf hI
  ·show kM (IM N X) (bo 288) _
   rw[Hi];exact kH hI
  ·show kM (IM N X) (bo 289) _
   rw[Hj];exact JA hI
  ·show kM (IM N X) (bo 290) _
   rw[vc];exact KW hI
  ·show kM (IM N X) (bo 291) _
   rw[Hk];exact yJ hI) (by decide+kernel)
end
end
section
section
variable {N:Nat}{X:Nat->Sc->Prop}
def kL.tb (m:kL):Prop:=m.params.length<=LB/\m.sites.length<=LB/\m.iH.length<=LB/\∀d∈m.sites,d.tb
theorem dL.ok.tb {d:dL} (h:d.ok):d.tb:=by
 have:=h.vl;have:=h.rl;have:=h.sl;have:=h.bl;have:=h.l1;have:=h.l2;have:=h.l3;have:=h.l4;have:=h.l5;have:=h.tl
 unfold dL.tb LB
 refine⟨by omega,by omega,by omega,by omega,by omega,by omega,by omega,by omega,by omega,by omega,fun r hr=> ?_⟩
 obtain⟨_,h1,h2,_⟩:=h.t r hr
 omega
theorem kL.ok.tb {m:kL} (h:m.ok):m.tb:=by
 have:=h.pl;have:=h.sl;have:=h.ll
 unfold kL.tb LB
 exact⟨by omega,by omega,by omega,fun d hd=>(h.s d hd).2.tb⟩
def ax.tb (s:ax):Prop:=s.e.sz<1000000/\s.f.sz<1000000/\s.args.length<=LB/\(∀x∈s.args,x.sz<1000000)/\s.d.vs.length<=LB/\s.d.ws.length<=LB
theorem abt:aj.zero.sz=1:=by rw[aj.dR];rfl
theorem oO.ok.len {d:oO} (h:d.ok):d.vs.length<=20/\d.ws.length<=20:=by
 obtain⟨h,_⟩:=h
 unfold oO.ok0 at h
 rcases h with⟨_,_,_,h1,h2,_⟩|⟨_,_,h1,h2,_⟩|⟨_,_,h1,h2,_⟩|⟨_,h1,h2,_⟩|⟨_,_,_,_,h1,h2,h3,_⟩
 ·rw[h1,h2];simp
 ·rw[h1,h2];simp
 ·rw[h1,h2];simp
 ·rw[h1,h2];simp
 ·omega
theorem ax.okN.tb {s:ax} (h:s.okN):s.tb:=by
 obtain⟨u,_,⟨_,_,f3,f4,_,f6,_⟩,_,_,p3,p4,p5,p6,p7⟩:=h
 unfold ax.tb LB
 refine⟨?_,?_,by omega,fun x hx=>by have:=(p6 x hx).2;omega,?_⟩
 ·rcases f3 with f|f
  ·have:=(p3 f).2;omega
  ·rw[f,abt];omega
 ·rcases f4 with f|f
  ·have:=(p4 f).2;omega
  ·rw[f,abt];omega
 ·rcases f6 with f|f
  ·have:=(p7 f).len;omega
  ·rw[f];exact⟨by decide,by decide⟩
def auJ:List Ty:=[yI,yS,yS]++ol++ol++[yX,yI,yI,yI,yI,yZ,yZ,yB,yA,yA]
theorem avH {s:ax} (h:s.tb):hM N X auJ s.cs:=by
 obtain⟨h1,h2,h3,h4,h5,h6⟩:=h
 have he:(s.e.ks.map aj.sz).sum<999999:=by rw[aj.dR]at h1;omega
 have hf:(s.f.ks.map aj.sz).sum<999999:=by rw[aj.dR]at h2;omega
 rw[ax.aA]
 exact⟨aY _,eF _,eF _,aY _,eF _,aY _,⟨_,rfl,he⟩,aY _,eF _,aY _,⟨_,rfl,hf⟩,⟨_,rfl,h3,h4⟩,aY _,aY _,aY _,aY _,⟨_,rfl,h5⟩,⟨_,rfl,h6⟩,OH _,trivial,trivial,trivial⟩
def Fd (m:kL) (ix:Int) (fs:List io) (d:dL):aP:=m.cs++[.i ix,ae fh.cs m.params,ae io.cs fs]++d.cs
theorem ajM {m:kL} (h:m.tb):hM N X qO m.cs:=⟨eF _,⟨_,rfl,h.1⟩,⟨_,rfl,h.2.1,h.2.2.2⟩,⟨_,rfl,h.2.2.1⟩,trivial⟩
theorem anE {m:kL} (h:m.tb) (ix:Int){fs:List io} (hf:fs.length<=LB){d:dL} (hd:d.tb):hM N X (qO++[yI,yV,yF]++kG) (Fd m ix fs d):=
 gF (gF (ajM h) ⟨aY _,⟨_,rfl,h.1⟩,⟨_,rfl,hf⟩,trivial⟩) (VJ hd)
theorem aAU (hI:jw Cg (IM N X)){m:kL} (h:m.tb) (ix:Int){fs:List io} (hf:fs.length<=LB){d:dL} (hd:d.tb){s:ax} (hs:s.tb):∃z,dW.F (Fd m ix fs d++s.cs)=some [.i z]:=
 have hh:hM N X ((qO++[yI,yV,yF]++kG)++auJ) (Fd m ix fs d++s.cs):=gF (anE h ix hf hd) (avH hs)
 acC (Mu hI _ hh (fun p hp=>by cases hp))
def Eo (m:kL) (s:ax):Prop:=s.op=13->0<=cN (fun r:dL=>decide (r.nm=s.pm)) m.sites
theorem apb (hI:jw Cg (IM N X)){m:kL} (h:m.tb) (ix:Int){fs:List io} (hf:fs.length<=LB){d:dL} (hd:d.tb){s:ax} (hs:s.tb):bw (dW.F (Fd m ix fs d++s.cs)) (Eo m s):=by
 obtain⟨z,hz⟩:=aAU hI h ix hf hd hs
 refine⟨z,hz,fun h0 h13=>Classical.byContradiction fun aem=> ?_⟩
 have hx:=Un m (by have:=h.2.1;unfold LB at this;unfold Lb;omega) s.pm
 have aem:cN (fun r:dL=>decide (r.nm=s.pm)) m.sites<0:=by omega
 generalize cN (fun r:dL=>decide (r.nm=s.pm)) m.sites=w at*
 have aof:jd.F (Fd m ix fs d++s.cs)=some [.i 5]:=by
  rw[z7,ax.aA]
  unfold Fd kL.cs dL.cs at*
  simp only[cons_append,nil_append]at hx
  simp only[pH,vd,hx,aem,av,Nat.reduceAdd]
 have cv:dW.F (Fd m ix fs d++s.cs)=some [.i 5]:=by
  rw[BP]
  rw[ax.aA]at aof⊢
  unfold Fd kL.cs dL.cs at*
  simp only[cons_append,nil_append,h13]at aof
  simp only[re,vc,aof,h13,av,Nat.reduceAdd,reduceEq]
 rw[cv]at hz
 simp at hz
 omega
mutual
def ax.hd (P:ax->Prop):ax->Prop
 | .mk op nm pm e f args d flag b c=>P (.mk op nm pm e f args d flag b c)/\ax.hdL P b/\ax.hdL P c
def ax.hdL (P:ax->Prop):kb->Prop
 |[]=>True
 |k::r=>k.hd P/\ax.hdL P r
end
theorem ax.anJ {P:ax->Prop}:∀s:ax,s.hd P↔P s/\ax.hdL P s.body/\ax.hdL P s.fG
 | .mk _ _ _ _ _ _ _ _ _ _=>by rw[ax.hd];rfl
theorem ax.aeh {P:ax->Prop}:∀l:kb,ax.hdL P l↔∀k∈l,k.hd P
 |[]=>by simp[ax.hdL]
 |k::r=>by rw[ax.hdL,ax.aeh r];simp
theorem awr (hI:jw Cg (IM N X)){m:kL} (h:m.tb) (ix:Int){fs:List io} (hf:fs.length<=LB){d:dL} (hd:d.tb):∀(l:kb) (k:Nat),ax.im l+1<=k->ax.im l<1000000->ax.R1 l->bw (iq k 206 (Fd m ix fs d++[ae ax.cs l])) (ax.hdL (Eo m) l):=by
 refine ax.X8 fun l ih k hk hb dI=> ?_
 obtain⟨k,rfl⟩:∃j,k=j+1:=⟨k-1,by omega⟩
 have hln:=ax.pk l
 rw[Kf]
 have cv:=fun(s:ax) (hs:s.tb)=>apb hI h ix hf hd hs
 unfold Fd kL.cs dL.cs at*
 simp only[cons_append,nil_append]at ih cv
 simp only[pG,av,Nat.reduceAdd]
 refine eX (S:=Unit) (fun i _=>[.i (i:Int)]) (fun i _=>kN (fun s=>s.hd (Eo m)) l i) l.length (s:=()) rfl (by omega) kN.zero (fun i _ rec hi hI' hr=> ?_) (fun _ rec hI'=> ?_)
 ·obtain⟨x,hx⟩:=aV hi
  have hm:=aM hx
  have bN:(i:Int)<l.length:=by omega
  obtain⟨b1,b2⟩:=ax.vw hm
  obtain⟨o1,o2,o3⟩:=(ax.vZ x).1 ((ax.vJ l).1 dI x hm)
  obtain⟨z1,g1,f1⟩:=cv x o1.tb
  obtain⟨z2,g2,f2⟩:=ih x.body b1 k (by omega) (by omega) o2
  obtain⟨z3,g3,f3⟩:=ih x.fG b2 k (by omega) (by omega) o3
  rw[ax.aA]at g1
  simp only[ay hx,ax.aA x,bN,ER,g1,g2,g3,aJ (k:=i) (by omega),av,Nat.reduceAdd]
  refine bw.ite (fun h1=>bw.bad h1) fun h1=>bw.ite (fun h2=>bw.bad h2) fun h2=>bw.ite (fun h3=>bw.bad h3) fun h3=> ?_
  exact hr () (hI'.succ hx ((ax.anJ x).2 ⟨f1 (by simpa using h1),f2 (by simpa using h2),f3 (by simpa using h3)⟩))
 ·simp only[Int.lt_irrefl,av]
  exact bw.some fun _=>(ax.aeh l).2 hI'.all
theorem aha {m:kL} (h:m.tb){ix:Nat}{d:dL} (hx:m.sites[ix]? =some d){fs:List io} (hf:fs.length<=LB){l:kb} (hb:ax.im l<1000000) (hs:ax.smL l):bw (lZ.F (m.cs++[.i (ix:Int),ae io.cs fs,ae ax.cs l])) (ax.R1 l/\ax.im l<=200/\ax.hdL (Eo m) l):=by
 obtain⟨z,g1,f1⟩:=agR l hb hs
 have hI:jw Cg (IM 1 fun _ _=>False):=aeY ⟨by omega,by unfold LB;omega⟩ ⟨fun x hx=>hx.elim,fun x hx=>hx.elim,fun x hx=>hx.elim⟩
 have hd:=h.2.2.2 d (aM hx)
 have hix:(ix:Int)<m.sites.length:=by have:=bp hx;omega
 have hle:¬(m.sites.length:Int)<=ix:=by omega
 have hn0:¬((ix:Nat):Int)<0:=by omega
 rw[ZG]
 by_cases c:z=0
 ·obtain⟨k1,k2⟩:=f1 c
  obtain⟨y,g2,f2⟩:=awr hI h ix hf hd l (aF+1) (by unfold aF;omega) hb k1
  rw[<-Ji]at g2
  unfold Fd at g2
  rw[c]at g1
  unfold kL.cs dL.cs at*
  simp only[cons_append,nil_append]at g2
  simp only[vM,EC,Rn,g1,g2,hix,hle,hn0,ay hx,av,Nat.reduceAdd]
  exact bw.some fun h0=>⟨k1,k2,f2 h0⟩
 ·unfold kL.cs
  simp only[vM,EC,g1,c,av,Nat.reduceAdd]
  exact bw.bad c
def kL.typed (m:kL):Prop:=m.ok/\∀d∈m.sites,∀r∈d.nh,ax.hdL (Eo m) r.body
theorem ag8 (m:kL) (hl:m.lb):bw (oD.F m.cs) m.typed:=by
 obtain⟨z,g1,f1⟩:=agq m hl
 rw[ZF]
 by_cases c:z=0
 ·have hm:=f1 c
  rw[c]at g1
  have htb:=hm.tb
  have key:∀(ix:Nat) (d:dL) (fs:List io) (l:kb),m.sites[ix]? =some d->fs.length<=LB->ax.im l<1000000->ax.smL l->bw (lZ.F (m.cs++[.i (ix:Int),ae io.cs fs,ae ax.cs l])) (ax.R1 l/\ax.im l<=200/\ax.hdL (Eo m) l):=fun ix d fs l hx hf hb hs=>aha htb hx hf hb hs
  have hfd:∀a b:List io,Sc.l ((a.map fun x=>Sc.l x.cs)++(b.map fun x=>Sc.l x.cs))=ae io.cs (a++b):=fun a b=>by simp[ae]
  have hlen:=hm.sl
  unfold kL.cs at*
  simp only[cons_append,nil_append]at key
  simp only[vL,Ga,g1,av,Nat.reduceAdd]
  refine eX (S:=Unit) (fun i _=>[.i (i:Int)]) (fun i _=>kN (fun d=>∀r∈d.nh,ax.hdL (Eo m) r.body) m.sites i) m.sites.length (s:=()) rfl (by omega) kN.zero (fun i _ rec hi hI hr=> ?_) (fun _ rec hI=> ?_)
  ·obtain⟨d,hd⟩:=aV hi
   have bN:(i:Int)<m.sites.length:=by omega
   have hdo:=(hm.s d (aM hd)).2
   have hrl:=hdo.tl
   simp only[ay hd,dL.cs,bN,av]
   refine eX (S:=Unit) (fun i _=>[.i (i:Int)]) (fun i _=>kN (fun r:jv=>ax.hdL (Eo m) r.body) d.nh i) d.nh.length (s:=()) rfl (by omega) kN.zero (fun j _ CE hj hJ Z4=> ?_) (fun _ CE hJ=> ?_)
   ·obtain⟨r,VQ⟩:=aV hj
    have W8:(j:Int)<d.nh.length:=by omega
    have hro:=(hdo.t r (aM VQ)).2
    obtain⟨q1,q2,q3,q4,q5⟩:=hro
    obtain⟨_,hlr⟩:=hl.2.2.2 d (aM hd)
    have alg:=hlr.2.1 r (aM VQ)
    obtain⟨y,g2,f2⟩:=key i d (r.params++r.locals) r.body hd (by unfold LB;simp;omega) (by omega) alg.2.2.2
    have e1:((r.params.length:Nat):Int)<=5864062014805:=by omega
    have e2:((((r.params.map fun x=>Sc.l x.cs)++(r.locals.map fun x=>Sc.l x.cs)).length:Nat):Int)<=5864062014805:=by simp;omega
    simp only[ay VQ,jv.cs,W8,e1,e2,hfd,Rm,g2,aJ (k:=j) (by omega),av,Nat.reduceAdd]
    exact bw.ite (fun h1=>bw.bad h1) fun h1=>Z4 () (hJ.succ VQ (f2 (by simpa using h1)).2.2)
   ·simp only[Int.lt_irrefl,aJ (k:=i) (by omega),av]
    exact hr () (hI.succ hd hJ.all)
  ·simp only[Int.lt_irrefl,av]
   exact bw.some fun _=>⟨hm,hI.all⟩
 ·unfold kL.cs at*
  simp only[vL,Ga,g1,c,av,Nat.reduceAdd]
  exact bw.bad c
end
end
mutual
def aj.mm:aj->Nat
 | .mk op _ _ ks=>(if op=3 then 2 else 1)+aj.mmL ks
def aj.mmL:i7->Nat
 |[]=>0
 |k::r=>k.mm+aj.mmL r
end
theorem aj.aoT:∀ks:i7,aj.mmL ks=(ks.map aj.mm).sum
 |[]=>rfl
 |k::r=>by rw[aj.mmL,aj.aoT r];simp
theorem aj.aj9:∀e:aj,e.mm=(if e.op=3 then 2 else 1)+(e.ks.map aj.mm).sum
 | .mk _ _ _ _=>by rw[aj.mm,aj.aoT];rfl
theorem ap0 {α:Type}{f g:α->Nat}:∀{l:List α},(∀x∈l,f x<=g x)->(l.map f).sum<=(l.map g).sum
 |[],_=>Nat.le_refl _
 |x::l,h=>by
  have h1:=h x (by simp)
  have h2:=ap0 (l:=l) fun y hy=>h y (by simp[hy])
  simp only[map_cons,sum_cons];omega
theorem aj.aqa:∀e:aj,e.sz<=e.mm:=aj.ind fun op nm n ks ih=>by
 rw[aj.dR,aj.aj9]
 have:=ap0 ih
 show 1+(ks.map aj.sz).sum<=(if op=3 then 2 else 1)+(ks.map aj.mm).sum
 split<;>omega
theorem akv {α:Type}{f g:α->Nat}:∀{l:List α},(∀x∈l,f x<=2*g x)->(l.map f).sum<=2*(l.map g).sum
 |[],_=>Nat.le_refl _
 |x::l,h=>by
  have h1:=h x (by simp)
  have h2:=akv (l:=l) fun y hy=>h y (by simp[hy])
  simp only[map_cons,sum_cons];omega
theorem aj.aAF:∀e:aj,e.mm<=2*e.sz:=aj.ind fun op nm n ks ih=>by
 rw[aj.dR,aj.aj9]
 have:=akv ih
 show(if op=3 then 2 else 1)+(ks.map aj.mm).sum<=2*(1+(ks.map aj.sz).sum)
 split<;>omega
theorem adw (t n:Int):∃e:aj,mW.F [.i t,.i n]=some e.cs/\e.mm<=2/\e.sz<=2:=by
 have hw:wd []=([]:Bs):=rfl
 have key:fA (mW.F [.i t,.i n]) fun r=>∃e:aj,r=e.cs/\e.mm<=2/\e.sz<=2:=by
  rw[adL]
  simp only[Hz,hw,av,Nat.reduceAdd]
  refine fA.ite (fun _=>⟨_,rfl,.mk 1 [] n [],?_,by simp[aj.mm,aj.mmL],by simp[aj.sz,aj.im]⟩) (fun _=> ?_)
  ·rw[aj.jN];rfl
  refine fA.ite (fun _=>fA.ite (fun _=>⟨_,rfl,.mk 2 [] 1 [],?_,by simp[aj.mm,aj.mmL],by simp[aj.sz,aj.im]⟩) (fun _=>⟨_,rfl,.mk 2 [] n [],?_,by simp[aj.mm,aj.mmL],by simp[aj.sz,aj.im]⟩)) (fun _=> ?_)
  ·rw[aj.jN];rfl
  ·rw[aj.jN];rfl
  refine fA.ite (fun _=>⟨_,rfl,.mk 7 [] 0 [.mk 1 [] n []],?_,by simp[aj.mm,aj.mmL],by simp[aj.sz,aj.im]⟩) (fun _=>⟨_,rfl,.mk 0 [] 0 [],?_,by simp[aj.mm,aj.mmL],by simp[aj.sz,aj.im]⟩)
  ·rw[aj.jN];simp[ae,aj.jN]
  ·rw[aj.jN];rfl
 obtain⟨r,h1,e,rfl,h2⟩:=key
 exact⟨e,h1,h2⟩
theorem U0 (l:i7) (e:aj):Sc.l ((l.map fun x=>Sc.l x.cs)++[Sc.l [Sc.i e.op,Sc.s (bs e.nm),Sc.i e.n,ae aj.cs e.ks]])=ae aj.cs (l++[e]):=by
 simp[ae,aj.aA e]
theorem Oi {α:Type}{f:α->Nat}{l:List α}{i:Nat}{x:α} (h:l[i]? =some x):((l.take (i+1)).map f).sum=((l.take i).map f).sum+f x:=by
 rw[<-fN h];simp
theorem alG (w:Bs) (c:aj) (hc:c.mm<=2):∀(e:aj) (k:Nat),e.sz<=k->e.sz<1000000->∃e':aj,pL k 251 (e.cs++[.s (bs w)]++c.cs)=some e'.cs/\e'.mm<=e.mm:=by
 refine aj.ind fun op nm n ks ih k hk hb=> ?_
 have hs:(aj.mk op nm n ks).sz=1+(ks.map aj.sz).sum:=aj.dR (.mk op nm n ks)
 have hm:(aj.mk op nm n ks).mm=(if op=3 then 2 else 1)+(ks.map aj.mm).sum:=aj.aj9 (.mk op nm n ks)
 have hlen:=aj.AG ks
 obtain⟨k,rfl⟩:∃j,k=j+1:=⟨k-1,by omega⟩
 have loop:∀g:fF->fF,
  (∀(i:Nat) (x x':aj) (s:i7) rec,ks[i]? =some x->s.length=i->pL k 251 (x.cs++[.s (bs w)]++c.cs)=some x'.cs->g rec [ae aj.cs s,.i (i:Int)]=rec [ae aj.cs (s++[x']),.i ((i+1:Nat):Int)])->
  (∀s rec,g rec [ae aj.cs s,.i (ks.length:Int)]=some (aj.mk op nm n s).cs)->
  ∃e':aj,dz g aF [.l [],.i 0]=some e'.cs/\e'.mm<=(aj.mk op nm n ks).mm:=by
  intro g h1 h2
  have key:fA (dz g aF [.l [],.i 0]) fun r=>∃e':aj,r=e'.cs/\e'.mm<=(aj.mk op nm n ks).mm:=by
   refine eG (S:=i7) (fun i s=>[ae aj.cs s,.i (i:Int)]) (fun i s=>s.length=i/\(s.map aj.mm).sum<=((ks.take i).map aj.mm).sum) ks.length (s:=[]) rfl (by omega) ⟨rfl,by simp⟩ (fun i s rec hi hI hr=> ?_) (fun s rec hI=> ?_)
   ·obtain⟨x,hx⟩:=aV hi
    have hmx:=aM hx
    have TH:=yk (f:=aj.sz) hmx
    obtain⟨x',g1,g2⟩:=ih x hmx k (by omega) (by omega)
    rw[h1 i x x' s rec hx hI.1 g1]
    refine hr (s++[x']) ⟨by simp[hI.1],?_⟩
    rw[Oi hx]
    have:=hI.2
    simp only[map_append,sum_append,map_cons,sum_cons,map_nil,sum_nil]
    omega
   ·rw[h2]
    refine⟨_,rfl,_,rfl,?_⟩
    have e:(aj.mk op nm n s).mm=(if op=3 then 2 else 1)+(s.map aj.mm).sum:=aj.aj9 (.mk op nm n s)
    have:=hI.2
    rw[take_length]at this
    rw[e,hm];omega
  obtain⟨r,h3,e',rfl,h4⟩:=key
  exact⟨e',h3,h4⟩
 rw[XJ,aj.jN]
 have hc0:c.cs=[.i c.op,.s (bs c.nm),.i c.n,ae aj.cs c.ks]:=aj.aA c
 rw[hc0]at loop⊢
 by_cases h3:op=3
 ·by_cases hw:nm=w
  ·subst hw
   refine⟨c,?_,by rw[hm,if_pos h3];omega⟩
   rw[hc0]
   simp only[qh,h3,av,Nat.reduceAdd]
  ·simp only[qh,h3,hw,av,Nat.reduceAdd]
   rw[h3]at loop
   refine loop _ (fun i x x' s rec hx hs' g1=> ?_) (fun s rec=> ?_)
   ·have hi:=bp hx
    have bN:(i:Int)<ks.length:=by omega
    have e1:((((s.map fun x=>Sc.l x.cs)++[Sc.l [Sc.i x'.op,Sc.s (bs x'.nm),Sc.i x'.n,ae aj.cs x'.ks]]).length:Nat):Int)<=2513169434916:=by simp;omega
    rw[aj.aA x,aj.aA x']at g1
    simp only[cons_append,nil_append]at g1
    simp only[ay hx,aj.aA x,bN,g1,e1,U0,aJ (k:=i) (by omega),av,Nat.reduceAdd]
   ·simp only[Int.lt_irrefl,aj.jN,av]
 ·simp only[qh,h3,av,Nat.reduceAdd]
  refine loop _ (fun i x x' s rec hx hs' g1=> ?_) (fun s rec=> ?_)
  ·have hi:=bp hx
   have bN:(i:Int)<ks.length:=by omega
   have e1:((((s.map fun x=>Sc.l x.cs)++[Sc.l [Sc.i x'.op,Sc.s (bs x'.nm),Sc.i x'.n,ae aj.cs x'.ks]]).length:Nat):Int)<=2513169434916:=by simp;omega
   rw[aj.aA x,aj.aA x']at g1
   simp only[cons_append,nil_append]at g1
   simp only[ay hx,aj.aA x,bN,g1,e1,U0,aJ (k:=i) (by omega),av,Nat.reduceAdd]
  ·simp only[Int.lt_irrefl,aj.jN,av]
theorem alF {e c:aj} (w:Bs) (hc:c.mm<=2) (he:e.sz<1000000):∃e':aj,ya.F (e.cs++[.s (bs w)]++c.cs)=some e'.cs/\e'.mm<=e.mm:=by
 rw[VW]
 exact alG w c hc e _ (by unfold aF;omega) he
theorem amS (e:aj):∃z b,tI.F e.cs=some [.i z,.b b]:=by
 have key:fA (tI.F e.cs) fun r=>∃z b,r=[.i z,.b b]:=by
  rw[adE,aj.aA]
  simp only[Hx,av,Nat.reduceAdd]
  refine fA.ite (fun _=>⟨_,rfl,_,_,rfl⟩) (fun _=> ?_)
  refine fA.ite (fun _=>⟨_,rfl,_,_,rfl⟩) (fun _=> ?_)
  refine fA.ite (fun _=> ?_) (fun _=>⟨_,rfl,_,_,rfl⟩)
  refine fA.ite (fun c1=> ?_) (fun _=>⟨_,rfl,_,_,rfl⟩)
  obtain⟨y,hy⟩:∃y,e.ks=[y]:=length_eq_one_iff.1 (by omega)
  rw[hy]
  simp only[show(0:Int)<((1:Nat):Int)from by decide,aj.aA y,av,Nat.reduceAdd]
  refine fA.ite (fun _=>⟨_,rfl,_,_,rfl⟩) (fun _=>⟨_,rfl,_,_,rfl⟩)
 obtain⟨r,h1,z,b,rfl⟩:=key
 exact⟨z,b,h1⟩
theorem avw:∀(e:aj) (k:Nat),e.sz<=k->e.sz<1000000->∃e':aj,jr k 293 e.cs=some e'.cs/\e'.sz<=e.sz:=by
 have hw:wd []=([]:Bs):=rfl
 have hI:jw Cg (IM 1 fun _ _=>False):=aeY ⟨by omega,by unfold LB;omega⟩ ⟨fun x hx=>hx.elim,fun x hx=>hx.elim,fun x hx=>hx.elim⟩
 refine aj.ind fun op nm n ks ih k hk hb=> ?_
 have hs:(aj.mk op nm n ks).sz=1+(ks.map aj.sz).sum:=aj.dR (.mk op nm n ks)
 have hlen:=aj.AG ks
 obtain⟨k,rfl⟩:∃j,k=j+1:=⟨k-1,by omega⟩
 have key:fA (jr (k+1) 293 (aj.mk op nm n ks).cs) fun r=>∃e':aj,r=e'.cs/\e'.sz<=(aj.mk op nm n ks).sz:=by
  rw[aeb,aj.jN]
  by_cases h0:(ks.length:Int)=0
  ·simp only[DX,h0,av,reduceToNat,Nat.reduceAdd,reduceLE]
   exact⟨_,rfl,.mk op nm n ks,(aj.jN ..).symm,Nat.le_refl _⟩
  have n0:(0:Int)<=(ks.length:Int):=by omega
  have n1:(ks.length:Int)<=16777216:=by omega
  simp only[DX,h0,n0,n1,av,reduceToNat,Nat.reduceAdd]
  refine eG (S:=i7×uD) (fun i s=>[ae aj.cs s.1,bY s.2,.i (i:Int)]) (fun i s=>s.1.length=i/\s.2.length<=i/\(s.1.map aj.sz).sum<=((ks.take i).map aj.sz).sum) ks.length (s:=([],[])) rfl (by omega) ⟨rfl,Nat.le_refl _,by simp⟩ (fun i s rec hi hI' hr=> ?_) (fun s rec hI'=> ?_)
  ·obtain⟨l,vs⟩:=s
   obtain⟨i1,i2,i3⟩:=hI'
   simp only at i1 i2 i3 hr⊢
   obtain⟨x,hx⟩:=aV hi
   have hmx:=aM hx
   have TH:=yk (f:=aj.sz) hmx
   have bN:(i:Int)<ks.length:=by omega
   obtain⟨x',g1,g2⟩:=ih x hmx k (by omega) (by omega)
   obtain⟨z,b,g3⟩:=amS x'
   have e1:((((l.map fun x=>Sc.l x.cs)++[Sc.l [Sc.i x'.op,Sc.s (bs x'.nm),Sc.i x'.n,ae aj.cs x'.ks]]).length:Nat):Int)<=2513169434916:=by simp;omega
   have e2:((((vs.map Sc.i)++[Sc.i z]).length:Nat):Int)<=17592186044416:=by simp;omega
   have e3:Sc.l ((vs.map Sc.i)++[Sc.i z])=bY (vs++[z]):=by simp[bY]
   rw[aj.aA x,aj.aA x']at g1
   rw[aj.aA x']at g3
   have arR:((l++[x']).map aj.sz).sum<=((ks.take (i+1)).map aj.sz).sum:=by rw[Oi hx];simp only[map_append,sum_append,map_cons,sum_cons,map_nil,sum_nil];omega
   cases b with
   |true=>
    simp only[ay hx,aj.aA x,bN,Jq,g1,g3,e1,e2,e3,U0,aJ (k:=i) (by omega),av,Nat.reduceAdd]
    exact hr (l++[x'],vs++[z]) ⟨by simp[i1],by simp;omega,arR⟩
   |false=>
    simp only[ay hx,aj.aA x,bN,Jq,g1,g3,e1,U0,aJ (k:=i) (by omega),av,Nat.reduceAdd]
    exact hr (l++[x'],vs) ⟨by simp[i1],by simp;omega,arR⟩
  ·obtain⟨l,vs⟩:=s
   obtain⟨i1,i2,i3⟩:=hI'
   rw[take_length]at i3
   simp only at i1 i2 i3⊢
   have hl':(aj.mk op nm n l).sz<=(aj.mk op nm n ks).sz:=by
    have:(aj.mk op nm n l).sz=1+(l.map aj.sz).sum:=aj.dR (.mk op nm n l)
    omega
   have same:∃e':aj,[Sc.i op,.s (bs nm),.i n,ae aj.cs l]=e'.cs/\e'.sz<=(aj.mk op nm n ks).sz:=⟨.mk op nm n l,(aj.jN ..).symm,hl'⟩
   have hle:=aj.AG l
   have Z9:∃a b,lM.F [.l [],.l [],.s (bs []),.l [],.l [],.l [],.l [],.l [],.l [],.l [],.l [],.l [],.l [],.l [],.l [],.i op,.s (bs nm),.i n,ae aj.cs l]=some [.i a,.i b]:=by
    have hh:hM 1 (fun _ _=>False) (([yV,yF]++kG)++ol) [.l [],.l [],.s (bs []),.l [],.l [],.l [],.l [],.l [],.l [],.l [],.l [],.l [],.l [],.l [],.l [],.i op,.s (bs nm),.i n,ae aj.cs l]:=by
     have z:(0:Nat)<=LB:=by unfold LB;omega
     exact⟨⟨[],rfl,z⟩,⟨[],rfl,z⟩,eF _,⟨[],rfl,z⟩,⟨[],rfl,z⟩,⟨[],rfl,z⟩,⟨[],rfl,z⟩,⟨[],rfl,z⟩,⟨[],rfl,z⟩,⟨[],rfl,z⟩,⟨[],rfl,z⟩,⟨[],rfl,z⟩,⟨[],rfl,z,fun r hr=>by cases hr⟩,trivial,trivial,aY _,eF _,aY _,⟨l,rfl,by omega⟩,trivial⟩
    exact aea (Of hI _ hh (fun p hp=>by cases hp))
   obtain⟨ta,tb,Z9⟩:=Z9
   simp only[Int.lt_irrefl,V0,hw,Z9,av,Nat.reduceAdd]
   refine fA.ite (fun _=>⟨_,rfl,same⟩) (fun _=> ?_)
   refine fA.ite (fun _=>⟨_,rfl,same⟩) (fun c1=> ?_)
   refine fA.ite (fun _=>⟨_,rfl,same⟩) (fun _=> ?_)
   have hks:1<=(ks.map aj.sz).sum:=by omega
   refine fA.ite (fun c2=> ?_) (fun c2=> ?_)
   ·obtain⟨z,rfl⟩:∃z,vs=[z]:=length_eq_one_iff.1 (by omega)
    obtain⟨ua,hun⟩:=acC (acd hI [.i op,.i z] ⟨aY _,aY _,trivial⟩ (fun p hp=>by cases hp))
    obtain⟨c,h1,_,h2⟩:=adw ta ua
    rw[aj.aA]at h1
    simp only[show(0:Int)<((1:Nat):Int)from by decide,V1,Jp,hun,h1,av,Nat.reduceAdd]
    exact⟨_,rfl,c,(aj.aA c).symm,by omega⟩
   ·obtain⟨y,z,q,rfl⟩:∃y z q,vs=y::z::q:=by
     rcases vs with _|⟨y,_|⟨z,q⟩⟩
     ·exfalso;simp only[length_nil]at c1;omega
     ·simp at c2
     ·exact⟨y,z,q,rfl⟩
    obtain⟨ua,hun⟩:=acC (aaE hI [.i op,.i y,.i z] ⟨aY _,aY _,aY _,trivial⟩ (fun p hp=>by cases hp))
    obtain⟨c,h1,_,h2⟩:=adw ta ua
    rw[aj.aA]at h1
    have q0:(0:Int)<((q.length+1+1:Nat):Int):=by omega
    have q1:(1:Int)<((q.length+1+1:Nat):Int):=by omega
    simp only[q0,q1,V2,Jp,hun,h1,av,Nat.reduceAdd]
    exact⟨_,rfl,c,(aj.aA c).symm,by omega⟩
 obtain⟨r,h1,e',rfl,h2⟩:=key
 exact⟨e',h1,h2⟩
theorem auT (e:aj) (he:e.sz<1000000):∃e':aj,B3.F e.cs=some e'.cs/\e'.sz<=e.sz:=by
 obtain⟨z,h1,_⟩:=Ew e he
 obtain⟨f,h2,h3⟩:=avw e (aF+1) (by unfold aF;omega) he
 rw[<-ab5]at h2
 obtain⟨y,h4,_⟩:=Ew f (by omega)
 have key:fA (B3.F e.cs) fun r=>∃e':aj,r=e'.cs/\e'.sz<=e.sz:=by
  rw[afI,aj.aA]
  rw[aj.aA]at h1
  rw[aj.aA e,aj.aA f]at h2
  rw[aj.aA]at h4
  simp only[KZ,XK,XL,h1,h2,h4,av,Nat.reduceAdd]
  refine fA.ite (fun _=>⟨_,rfl,e,(aj.aA e).symm,Nat.le_refl _⟩) (fun _=> ?_)
  refine fA.ite (fun _=>⟨_,rfl,e,(aj.aA e).symm,Nat.le_refl _⟩) (fun _=>⟨_,rfl,f,(aj.aA f).symm,h3⟩)
 obtain⟨r,h1,e',rfl,h2⟩:=key
 exact⟨e',h1,h2⟩
theorem abr (fY:List fh) (hv:fY.length<=LB) (e:aj) (he:e.mm<1000000):∃(e':aj) (z:Int),gm.F (ae fh.cs fY::e.cs)=some (e'.cs++[.i z])/\e'.sz<=e.mm+1:=by
 have hw:wd []=([]:Bs):=rfl
 have hsm:=aj.aqa e
 have key:fA (gm.F (ae fh.cs fY::e.cs)) fun r=>∃(e':aj) (z:Int),r=e'.cs++[.i z]/\e'.sz<=e.mm+1:=by
  rw[Q2,aj.aA]
  by_cases h0:e.op=0
  ·simp only[nV,h0,av,Nat.reduceAdd]
   exact⟨_,rfl,e,0,by rw[aj.aA,h0];rfl,by omega⟩
  simp only[nV,h0,av,Nat.reduceAdd]
  unfold LB at hv
  refine eG (S:=aj) (fun i s=>[.i (i:Int),.i s.op,.s (bs s.nm),.i s.n,ae aj.cs s.ks]) (fun i s=>s.mm<=e.mm) fY.length (s:=e) rfl (by omega) (Nat.le_refl _) (fun i s rec hi hI hr=> ?_) (fun s rec hI=> ?_)
  ·obtain⟨x,hx⟩:=aV hi
   have bN:(i:Int)<fY.length:=by omega
   have hss:=aj.aqa s
   obtain⟨c,g1,g2,_⟩:=adw x.ty x.n
   obtain⟨s',g3,g4⟩:=alF (e:=s) (c:=c) x.nm g2 (by omega)
   rw[aj.aA s,aj.aA c,aj.aA s']at g3
   rw[aj.aA]at g1
   simp only[cons_append,nil_append]at g3
   simp only[ay hx,fh.cs,bN,Kh,Kg,g1,g3,aJ (k:=i) (by omega),av,Nat.reduceAdd]
   exact hr s' (by omega)
  ·have hss:=aj.aqa s
   obtain⟨z,h1,_⟩:=Ew s (by omega)
   obtain⟨f,h2,h3⟩:=auT s (by omega)
   rw[aj.aA]at h1
   rw[aj.aA s,aj.aA f]at h2
   simp only[Int.lt_irrefl,Ki,Kj,h1,h2,hw,av,Nat.reduceAdd]
   refine fA.ite (fun _=>⟨_,rfl,.mk 0 [] 0 [],z,?_,?_⟩) (fun _=>⟨_,rfl,f,0,by rw[aj.aA];rfl,by omega⟩)
   ·rw[aj.jN];rfl
   ·have:(aj.mk 0 [] 0 []).sz=1:=by rw[aj.dR];rfl
    omega
 obtain⟨r,h1,e',z,rfl,h2⟩:=key
 exact⟨e',z,h1,h2⟩
theorem F5:ble (xE Tryz.prog 54) 1000&&ble (xE Tryz.prog 50) 1000&&ble (xE Tryz.prog 86) 1000&&ble (xE Tryz.prog 187) 1000=true:=by kernel_rfl
theorem Ym {bytes:Nat} (hb:ble bytes 1000=true){xs:aP} (hl:xs.length<=LB):M1 bytes [.l xs]=some [.l xs]:=by
 have hb:=le_of_ble_eq_true hb
 unfold LB at hl
 show(if xs.length<=maxLen/\xs.length*bytes<=140737488355328 then some [Sc.l xs]else none)=_
 rw[if_pos]
 refine⟨?_,?_⟩
 ·unfold maxLen;omega
 ·have:=Nat.mul_le_mul hl hb
  omega
theorem ajv {xs:aP} (hl:xs.length<=LB):cT.F [.l xs]=some [.l xs]:=Ym (by have:=F5;simp only[Bool.and_eq_true]at this;exact this.1.1.1) hl
theorem arf {xs:aP} (hl:xs.length<=LB):gZ.F [.l xs]=some [.l xs]:=Ym (by have:=F5;simp only[Bool.and_eq_true]at this;exact this.1.1.2) hl
theorem arh {xs:aP} (hl:xs.length<=LB):jD.F [.l xs]=some [.l xs]:=Ym (by have:=F5;simp only[Bool.and_eq_true]at this;exact this.1.2) hl
theorem amZ {xs:aP} (hl:xs.length<=LB):jC.F [.l xs]=some [.l xs]:=Ym (by have:=F5;simp only[Bool.and_eq_true]at this;exact this.2) hl
section
def ax.zero:ax:= .mk 0 [] [] .zero .zero [] .zero false [] []
theorem ax.atB:ax.zero.cs=[.i 0,.s (bs []),.s (bs []),.i 0,.s (bs []),.i 0,.l [],.i 0,.s (bs []),.i 0,.l [],.l [],.i 0,.i 0,.i 0,.i 0,.l [],.l [],.b false,.l [],.l []]:=by
 rw[ax.aA];rfl
theorem ax.atD:ax.zero.sz=1:=by rw[ax.dR];rfl
theorem ax.atC:ax.zero.sm:=by
 rw[ax.Wc]
 refine⟨⟨by show aj.zero.sz<_;rw[abt];omega,by show aj.zero.sz<_;rw[abt];omega,fun x hx=>(by cases hx),by show 0<1000000;omega,?_⟩,trivial,trivial⟩
 exact⟨by unfold Lb;show 0<=_;omega,by unfold Lb;show 0<=_;omega⟩
theorem ax.tb.dlb {s:ax} (h:s.tb):s.d.lb:=by
 obtain⟨_,_,_,_,h1,h2⟩:=h
 unfold LB at h1 h2
 exact⟨by unfold Lb;omega,by unfold Lb;omega⟩
section
variable (fY:List fh) (hv:fY.length<=LB)
def CL (l:kb) (k:Nat):Prop:=∃(l':kb) (z:Int),dg k 84 [ae fh.cs fY,ae ax.cs l]=some [ae ax.cs l',.i z]/\ax.im l'<=ax.im l/\ax.smL l'
theorem awG {s:ax} (h:s.okN):s.e.sz<=60/\s.f.sz<=60/\s.args.length<=6/\∀x∈s.args,x.sz<=60:=by
 obtain⟨u,_,⟨_,_,f3,f4,_,f6,_⟩,_,_,p3,p4,p5,p6,p7⟩:=h
 refine⟨?_,?_,p5,fun x hx=>(p6 x hx).2⟩
 ·rcases f3 with f|f
  ·exact(p3 f).2
  ·rw[f,abt];omega
 ·rcases f4 with f|f
  ·exact(p4 f).2
  ·rw[f,abt];omega
include hv in
theorem amX (e:aj) (he:e.sz<=60):∃(e':aj) (z:Int),gm.F [ae fh.cs fY,.i e.op,.s (bs e.nm),.i e.n,ae aj.cs e.ks]=some [.i e'.op,.s (bs e'.nm),.i e'.n,ae aj.cs e'.ks,.i z]/\e'.sz<=200:=by
 have h1:=aj.aAF e
 obtain⟨e',z,g,h⟩:=abr fY hv e (by omega)
 rw[aj.aA e,aj.aA e']at g
 exact⟨e',z,g,by omega⟩
include hv in
theorem ayo (s:ax) (hs:s.okN){k:Nat} (hb:CL fY s.body k) (he:CL fY s.fG k):∃(s':ax) (z:Int),dg (k+1) 167 (ae fh.cs fY::s.cs)=some (s'.cs++[.i z])/\s'.sz<=s.sz/\s'.sm:=by
 have hw:wd []=([]:Bs):=rfl
 obtain⟨q1,q2,q3,q4⟩:=awG hs
 have htb:=hs.tb
 obtain⟨e',z1,g1,r1⟩:=amX fY hv s.e q1
 obtain⟨f',z2,g2,r2⟩:=amX fY hv s.f q2
 obtain⟨lb,zb,g3,r3,m3⟩:=hb
 obtain⟨le,ze,g4,r4,m4⟩:=he
 have kZ:=ax.dR s
 have hzero:ax.zero.sz<=s.sz:=by rw[ax.atD];omega
 have key:fA (dg (k+1) 167 (ae fh.cs fY::s.cs)) fun r=>∃(s':ax) (z:Int),r=s'.cs++[.i z]/\s'.sz<=s.sz/\s'.sm:=by
  rw[Pi,ax.aA]
  have bad:∀z:Int,∃(s':ax) (z':Int),[Sc.i 0,.s (bs []),.s (bs []),.i 0,.s (bs []),.i 0,.l [],.i 0,.s (bs []),.i 0,.l [],.l [],.i 0,.i 0,.i 0,.i 0,.l [],.l [],.b false,.l [],.l [],.i z]=s'.cs++[.i z']/\s'.sz<=s.sz/\s'.sm:=fun z=>⟨.zero,z,by rw[ax.atB];rfl,hzero,ax.atC⟩
  simp only[uM,Jo,g1,g2,hw,av,Nat.reduceAdd]
  refine fA.ite (fun _=>⟨_,rfl,bad _⟩) (fun _=> ?_)
  refine fA.ite (fun _=>⟨_,rfl,bad _⟩) (fun _=> ?_)
  refine eG (S:=Int×i7) (fun i s=>[.i s.1,ae aj.cs s.2,.i (i:Int)]) (fun i s=>s.2.length=i/\∀x∈s.2,x.sz<=200) s.args.length (s:=(z2,[])) rfl (by omega) ⟨rfl,fun _ h=>by cases h⟩ (fun i st rec hi hI hr=> ?_) (fun st rec hI=> ?_)
  ·obtain⟨ez,acc⟩:=st
   obtain⟨i1,i2⟩:=hI
   simp only at i1 i2 hr⊢
   obtain⟨x,hx⟩:=aV hi
   have bN:(i:Int)<s.args.length:=by omega
   obtain⟨x',z3,g5,r5⟩:=amX fY hv x (q4 x (aM hx))
   have e1:((((acc.map fun x=>Sc.l x.cs)++[Sc.l [Sc.i x'.op,Sc.s (bs x'.nm),Sc.i x'.n,ae aj.cs x'.ks]]).length:Nat):Int)<=2513169434916:=by simp;omega
   simp only[ay hx,aj.aA x,bN,g5,e1,U0,aJ (k:=i) (by omega),av,Nat.reduceAdd]
   refine fA.ite (fun _=>⟨_,rfl,bad _⟩) (fun _=> ?_)
   refine hr (z3,acc++[x']) ⟨by simp[i1],fun y hy=> ?_⟩
   rcases mem_append.1 hy with hy|hy
   ·exact i2 y hy
   ·rcases mem_singleton.1 hy with rfl;exact r5
  ·obtain⟨ez,acc⟩:=st
   obtain⟨i1,i2⟩:=hI
   simp only at i1 i2⊢
   simp only[Int.lt_irrefl,g3,g4,av,Nat.reduceAdd]
   refine fA.ite (fun _=>⟨_,rfl,bad _⟩) (fun _=> ?_)
   refine fA.ite (fun _=>⟨_,rfl,bad _⟩) (fun _=> ?_)
   refine⟨_,rfl,.mk s.op s.nm s.pm e' f' acc s.d s.flag lb le,0,?_,?_,?_⟩
   ·rw[ax.aA];rfl
   ·rw[ax.dR,kZ]
    show 1+(ax.im lb+ax.im le)<=_
    omega
   ·rw[ax.Wc]
    refine⟨⟨by show e'.sz<_;omega,by show f'.sz<_;omega,fun x hx=>by have:=i2 x hx;omega,by show acc.length<_;omega,htb.dlb⟩,m3,m4⟩
 obtain⟨r,h1,s',z,rfl,h2⟩:=key
 exact⟨s',z,h1,h2⟩
include hv in
theorem ayk:∀(l:kb) (k:Nat),2*ax.im l+1<=k->ax.im l<1000000->ax.R1 l->CL fY l k:=by
 refine ax.X8 fun l ih k hk hb dI=> ?_
 obtain⟨k,rfl⟩:∃j,k=j+1:=⟨k-1,by omega⟩
 have hln:=ax.pk l
 have key:fA (dg (k+1) 84 [ae fh.cs fY,ae ax.cs l]) fun r=>∃(l':kb) (z:Int),r=[ae ax.cs l',.i z]/\ax.im l'<=ax.im l/\ax.smL l':=by
  rw[Ph]
  simp only[uL,av,Nat.reduceAdd]
  refine eG (S:=kb) (fun i s=>[ae ax.cs s,.i (i:Int)]) (fun i s=>s.length=i/\ax.im s<=ax.im (l.take i)/\ax.smL s) l.length (s:=[]) rfl (by omega) ⟨rfl,by simp[ax.im],trivial⟩ (fun i s rec hi hI hr=> ?_) (fun s rec hI=> ?_)
  ·obtain⟨i1,i2,i3⟩:=hI
   obtain⟨x,hx⟩:=aV hi
   have hm:=aM hx
   have bN:(i:Int)<l.length:=by omega
   obtain⟨b1,b2⟩:=ax.vw hm
   obtain⟨o1,o2,o3⟩:=(ax.vZ x).1 ((ax.vJ l).1 dI x hm)
   have hsx:=ax.OM hm
   have hse:=ax.dR x
   obtain⟨k',rfl⟩:∃j,k=j+1:=⟨k-1,by omega⟩
   obtain⟨x',z,g,r1,r2⟩:=ayo fY hv x o1 (k:=k') (ih x.body b1 k' (by omega) (by omega) o2) (ih x.fG b2 k' (by omega) (by omega) o3)
   rw[ax.aA x,ax.aA x']at g
   simp only[cons_append,nil_append]at g
   have e2:Sc.l ((s.map fun x=>Sc.l x.cs)++[Sc.l x'.cs])=ae ax.cs (s++[x']):=by simp[ae]
   have e1:((((s.map fun x=>Sc.l x.cs)++[Sc.l x'.cs]).length:Nat):Int)<=451081693446:=by simp;omega
   rw[ax.aA x']at e1 e2
   simp only[ay hx,ax.aA x,bN,g,e1,e2,aJ (k:=i) (by omega),av,Nat.reduceAdd]
   refine fA.ite (fun _=>⟨_,rfl,[],z,rfl,by simp[ax.im],trivial⟩) (fun _=> ?_)
   refine hr (s++[x']) ⟨by simp[i1],?_,?_⟩
   ·rw[ax.nD]at i2⊢
    rw[ax.nD]at i2
    rw[ax.nD (l.take (i+1)),Oi hx]
    simp only[map_append,sum_append,map_cons,sum_cons,map_nil,sum_nil]
    omega
   ·rw[ax.Gr]at i3⊢
    intro y hy
    rcases mem_append.1 hy with hy|hy
    ·exact i3 y hy
    ·rcases mem_singleton.1 hy with rfl;exact r2
  ·obtain⟨i1,i2,i3⟩:=hI
   rw[take_length]at i2
   simp only[Int.lt_irrefl,av]
   exact⟨_,rfl,s,0,rfl,i2,i3⟩
 obtain⟨r,h1,l',z,rfl,h2⟩:=key
 exact⟨l',z,h1,h2⟩
include hv in
theorem abs {l:kb} (hb:ax.im l<1000000) (dI:ax.R1 l):∃(l':kb) (z:Int),pd.F [ae fh.cs fY,ae ax.cs l]=some [ae ax.cs l',.i z]/\ax.im l'<=ax.im l/\ax.smL l':=by
 rw[NN]
 exact ayk fY hv l _ (by unfold aF;omega) hb dI
end
end
theorem auy (x:Sc) (n:Int):U2.ev .rep x (.i n)= .l (replicate n.toNat x):=rfl
theorem Va {α:Type}{g:fF->fF}{xs:List α}{P:Option aP->Prop} (p:α->Bool) (hl:Lb xs.length)
 (av9:∀(i:Nat) (x:α) (rec:fF),xs[i]? =some x->p x=true->P (g rec [.i (i:Int)])) (Yv:∀(i:Nat) (x:α) (rec:fF),xs[i]? =some x->p x=false->g rec [.i (i:Int)]=rec [.i ((i+1:Nat):Int)]) (X3:∀rec,P (g rec [.i (xs.length:Int)])):P (dz g aF [.i 0]):=by
 unfold Lb at hl
 have run:∀(d i k:Nat),i+d=xs.length->P (dz g (k+d+1) [.i (i:Int)]):=by
  intro d
  induction d with
  |zero=>
   intro i k hi
   have hi:i=xs.length:=by omega
   subst hi
   rw[bO];exact X3 _
  |succ d ih=>
   intro i k hi
   obtain⟨x,hx⟩:=aV (xs:=xs) (i:=i) (by omega)
   rw[bO]
   cases hp:p x with
   |true=>exact av9 i x _ hx hp
   |false=>rw[Yv i x _ hx hp];exact ih (i+1) k (by omega)
 obtain⟨k,hk⟩:=DV (n:=xs.length) (by omega)
 rw[hk]
 exact run _ 0 k (by omega)
theorem am5 {g:fF->fF}{n:Nat} (hn:n<=LB)
 (hs:∀(i j:Nat) (l:List fh) (x:fh) (rec:fF),l.length=n->i<j->l[j]? =some x->g rec [.i (i:Int),.i (j:Int),ae fh.cs l]=rec [.i (i:Int),.i ((j+1:Nat):Int),ae fh.cs l]\/g rec [.i (i:Int),.i (j:Int),ae fh.cs l]=rec [.i ((i+1:Nat):Int),.i ((j+1:Nat):Int),ae fh.cs (l.set i x)])
 (hf:∀(i:Nat) (l:List fh) (rec:fF),l.length=n->i<n->g rec [.i (i:Int),.i (n:Int),ae fh.cs l]=some [ae fh.cs (l.take i)])
 (i:Nat) (hi:i<n) (l:List fh) (hl:l.length=n):fA (dz g aF [.i (i:Int),.i ((i+1:Nat):Int),ae fh.cs l]) fun r=>∃l':List fh,r=[ae fh.cs l']/\l'.length<=n:=by
 have run:∀(d j i k:Nat) (l:List fh),j+d=n->i<j->l.length=n->fA (dz g (k+d+1) [.i (i:Int),.i (j:Int),ae fh.cs l]) fun r=>∃l':List fh,r=[ae fh.cs l']/\l'.length<=n:=by
  intro d
  induction d with
  |zero=>
   intro j i k l hj hij hl
   have hj:j=n:=by omega
   subst hj
   rw[bO,hf i l _ hl hij]
   exact⟨_,rfl,_,rfl,by simp;omega⟩
  |succ d ih=>
   intro j i k l hj hij hl
   obtain⟨x,hx⟩:=aV (xs:=l) (i:=j) (by omega)
   rw[bO]
   rcases hs i j l x (dz g (k+(d+1))) hl hij hx with h|h
   ·rw[h];exact ih (j+1) i k l (by omega) (by omega) hl
   ·rw[h];exact ih (j+1) (i+1) k (l.set i x) (by omega) (by omega) (by simpa using hl)
 obtain⟨k,hk⟩:∃k,aF=k+(n-(i+1))+1:=⟨aF-(n-(i+1))-1,by unfold LB at hn;unfold aF;omega⟩
 rw[hk]
 exact run _ _ i k l (by omega) (by omega) hl
theorem asx (m:kL) (h:m.tb){d:dL} (hd:d.tb){r:jv} (hr:r.params.length<1000000/\r.locals.length<1000000):∃l:List fh,tH.F (m.cs++d.cs++r.cs)=some [ae fh.cs l]/\l.length<=LB:=by
 have hI:jw Cg (IM 1 fun _ _=>False):=aeY ⟨by omega,by unfold LB;omega⟩ ⟨fun x hx=>hx.elim,fun x hx=>hx.elim,fun x hx=>hx.elim⟩
 have pK:=h.1
 have ZZ:∀w:Bs,∃a,ef.F (d.cs++[.s (bs w)])=some [.s (bs a)]:=fun w=>anv (Bh hI _ (gF (VJ hd) ⟨eF _,trivial⟩) (fun p hp=>by cases hp))
 have hc:=Zo r.params r.locals hr.1 hr.2
 have Mn:jD.F [ae fh.cs m.params]=some [ae fh.cs m.params]:=arh (by simpa using pK)
 have EI:Lb (r.params++r.locals).length:=by
  have h1:=hr.1;have h2:=hr.2;unfold Lb;simp;omega
 generalize r.params++r.locals=fs at hc EI
 have key:fA (tH.F (m.cs++d.cs++r.cs)) fun q=>∃l:List fh,q=[ae fh.cs l]/\l.length<=m.params.length:=by
  rw[adD]
  unfold kL.cs dL.cs jv.cs at*
  simp only[cons_append,nil_append]at ZZ
  simp only[Hw,XM,Vh,hc,Mn,av,Nat.reduceAdd]
  have hn:m.params.length<=LB:=pK
  unfold LB at pK
  have del:∀(g:fF->fF) (i:Nat),i<m.params.length->
   (∀(i j:Nat) (l:List fh) (x:fh) (rec:fF),l.length=m.params.length->i<j->l[j]? =some x->g rec [.i (i:Int),.i (j:Int),ae fh.cs l]=rec [.i (i:Int),.i ((j+1:Nat):Int),ae fh.cs l]\/g rec [.i (i:Int),.i (j:Int),ae fh.cs l]=rec [.i ((i+1:Nat):Int),.i ((j+1:Nat):Int),ae fh.cs (l.set i x)])->
   (∀(i:Nat) (l:List fh) (rec:fF),l.length=m.params.length->i<m.params.length->g rec [.i (i:Int),.i (m.params.length:Int),ae fh.cs l]=some [ae fh.cs (l.take i)])->
   fA (dz g aF [.i (i:Int),.i ((i+1:Nat):Int),ae fh.cs m.params]) fun q=>∃l:List fh,q=[ae fh.cs l]/\l.length<=m.params.length:=fun g i hi h1 h2=>am5 hn h1 h2 i hi m.params rfl
  refine eG (S:=Unit) (fun i _=>[.i (i:Int)]) (fun _ _=>True) m.params.length (s:=()) rfl (by omega) trivial (fun i _ rec hi _ VQ=> ?_) (fun _ rec _=> ?_)
  ·obtain⟨x,hx⟩:=aV hi
   have bN:(i:Int)<m.params.length:=by omega
   have aem:¬(i:Int)= -1:=by omega
   obtain⟨a,hk⟩:=ZZ x.nm
   simp only[ay hx,fh.cs,bN,aJ (k:=i) (by omega),av,reduceCtorEq]
   refine Va (P:=fun o=>fA o fun q=>∃l:List fh,q=[ae fh.cs l]/\l.length<=m.params.length) (xs:=fs) (fun f:io=>decide (f.nm=x.nm)) EI (fun k f CE hf hp=> ?_) (fun k f CE hf hp=> ?_) (fun CE=> ?_)
   ·have hp:f.nm=x.nm:=of_decide_eq_true hp
    have mi:=bp hf
    have pJ:(k:Int)<fs.length:=by omega
    simp only[ay hf,io.cs,pJ,hp,av]
    refine del _ i hi (fun i2 j2 l y agH hl hij hy=> ?_) (fun i2 l agH hl hi2=> ?_)
    ·have hj2:=bp hy
     have hj3:(j2:Int)<l.length:=by omega
     have hi3:(i2:Int)<l.length:=by omega
     obtain⟨b,hkb⟩:=ZZ y.nm
     have avp:Sc.l ((l.map fun x=>Sc.l x.cs).set i2 (Sc.l [Sc.s (bs y.nm),Sc.i y.ty,Sc.i y.n]))=ae fh.cs (l.set i2 y):=by simp[ae,fh.cs,map_set]
     simp only[ay hy,fh.cs,hj3,aJ (k:=j2) (by omega),av]
     refine Va (P:=fun o=>o=agH [.i (i2:Int),.i ((j2+1:Nat):Int),ae fh.cs l]\/o=agH [.i ((i2+1:Nat):Int),.i ((j2+1:Nat):Int),ae fh.cs (l.set i2 y)]) (xs:=fs) (fun f:io=>decide (f.nm=y.nm)) EI (fun k f apu hf hp=> ?_) (fun k f apu hf hp=> ?_) (fun apu=> ?_)
     ·have hp:f.nm=y.nm:=of_decide_eq_true hp
      have mi:=bp hf
      have pJ:(k:Int)<fs.length:=by omega
      refine .inl ?_
      simp only[ay hf,io.cs,pJ,hp,av]
     ·have hp:¬f.nm=y.nm:=of_decide_eq_false hp
      have mi:=bp hf
      have pJ:(k:Int)<fs.length:=by omega
      simp only[ay hf,io.cs,pJ,hp,aJ (k:=k) (by unfold Lb at EI;omega),av]
     ·by_cases hb:b=AZ
      ·refine .inl ?_
       simp only[Int.lt_irrefl,tF,hkb,hb,av,Nat.reduceAdd]
      ·refine .inr ?_
       simp only[Int.lt_irrefl,tF,hkb,hb,hi3,aJ (k:=i2) (by omega),Ur,avp,av,Nat.reduceAdd]
    ·have w1:IntKind.i64.wrap ((l.length:Int)-(i2:Int))=((l.length-i2:Nat):Int):=by rw[cE (by omega) (by omega)];omega
     have w2:IntKind.i64.wrap ((i2:Int)+((l.length-i2:Nat):Int))=(l.length:Int):=by rw[cE (by omega) (by omega)];omega
     have w3:IntKind.i64.wrap ((i2:Int)-0)=(i2:Int):=by rw[cE (by omega) (by omega)];omega
     have w4:IntKind.i64.wrap (0+(i2:Int))=(i2:Int):=by rw[cE (by omega) (by omega)];omega
     have n1:(i2:Int)<=(l.length:Int):=by omega
     have n2:(l.length:Int)<=(l.length:Int):=Int.le_refl _
     have n3:¬(m.params.length:Int)<(l.length:Int):=by omega
     have n4:∀q:Nat,i2<=q->(i2:Int)<=(q:Int):=fun q hq=>by omega
     simp only[aqb,auy,w1,w2,w3,w4,n1,n2,n3,length_append,length_drop,length_take,length_replicate,Nat.sub_self,Nat.min_self,Nat.add_zero,drop_zero,av]
     rw[if_pos (n4 _ (by omega))]
     congr 2
     simp[ae,take_append,map_take,hl]
     rw[show min (i2-min i2 m.params.length) (m.params.length-i2)=0 by omega]
     simp[take_take]
   ·have hp:¬f.nm=x.nm:=of_decide_eq_false hp
    have mi:=bp hf
    have pJ:(k:Int)<fs.length:=by omega
    simp only[ay hf,io.cs,pJ,hp,aJ (k:=k) (by unfold Lb at EI;omega),av]
   ·by_cases ha:a=AZ
    ·simp only[Int.lt_irrefl,tF,hk,ha,av,Nat.reduceAdd]
     refine del _ i hi (fun i2 j2 l y agH hl hij hy=> ?_) (fun i2 l agH hl hi2=> ?_)
     ·have hj2:=bp hy
      have hj3:(j2:Int)<l.length:=by omega
      have hi3:(i2:Int)<l.length:=by omega
      obtain⟨b,hkb⟩:=ZZ y.nm
      have avp:Sc.l ((l.map fun x=>Sc.l x.cs).set i2 (Sc.l [Sc.s (bs y.nm),Sc.i y.ty,Sc.i y.n]))=ae fh.cs (l.set i2 y):=by simp[ae,fh.cs,map_set]
      simp only[ay hy,fh.cs,hj3,aJ (k:=j2) (by omega),av]
      refine Va (P:=fun o=>o=agH [.i (i2:Int),.i ((j2+1:Nat):Int),ae fh.cs l]\/o=agH [.i ((i2+1:Nat):Int),.i ((j2+1:Nat):Int),ae fh.cs (l.set i2 y)]) (xs:=fs) (fun f:io=>decide (f.nm=y.nm)) EI (fun k f apu hf hp=> ?_) (fun k f apu hf hp=> ?_) (fun apu=> ?_)
      ·have hp:f.nm=y.nm:=of_decide_eq_true hp
       have mi:=bp hf
       have pJ:(k:Int)<fs.length:=by omega
       refine .inl ?_
       simp only[ay hf,io.cs,pJ,hp,av]
      ·have hp:¬f.nm=y.nm:=of_decide_eq_false hp
       have mi:=bp hf
       have pJ:(k:Int)<fs.length:=by omega
       simp only[ay hf,io.cs,pJ,hp,aJ (k:=k) (by unfold Lb at EI;omega),av]
      ·by_cases hb:b=AZ
       ·refine .inl ?_
        simp only[Int.lt_irrefl,hkb,hb,av,Nat.reduceAdd]
       ·refine .inr ?_
        simp only[Int.lt_irrefl,hkb,hb,hi3,aJ (k:=i2) (by omega),Ur,avp,av,Nat.reduceAdd]
     ·have w1:IntKind.i64.wrap ((l.length:Int)-(i2:Int))=((l.length-i2:Nat):Int):=by rw[cE (by omega) (by omega)];omega
      have w2:IntKind.i64.wrap ((i2:Int)+((l.length-i2:Nat):Int))=(l.length:Int):=by rw[cE (by omega) (by omega)];omega
      have w3:IntKind.i64.wrap ((i2:Int)-0)=(i2:Int):=by rw[cE (by omega) (by omega)];omega
      have w4:IntKind.i64.wrap (0+(i2:Int))=(i2:Int):=by rw[cE (by omega) (by omega)];omega
      have n1:(i2:Int)<=(l.length:Int):=by omega
      have n2:(l.length:Int)<=(l.length:Int):=Int.le_refl _
      have n3:¬(m.params.length:Int)<(l.length:Int):=by omega
      have n4:∀q:Nat,i2<=q->(i2:Int)<=(q:Int):=fun q hq=>by omega
      simp only[aqb,auy,w1,w2,w3,w4,n1,n2,n3,length_append,length_drop,length_take,length_replicate,Nat.sub_self,Nat.min_self,Nat.add_zero,drop_zero,av]
      rw[if_pos (n4 _ (by omega))]
      congr 2
      simp[ae,take_append,map_take,hl]
      rw[show min (i2-min i2 m.params.length) (m.params.length-i2)=0 by omega]
      simp[take_take]
    ·simp only[Int.lt_irrefl,tF,hk,ha,av,Nat.reduceAdd]
     exact VQ () trivial
  ·simp only[Int.lt_irrefl,av,reduceCtorEq]
   exact⟨_,rfl,_,rfl,Nat.le_refl _⟩
 obtain⟨q,h1,l,rfl,h2⟩:=key
 exact⟨l,h1,by omega⟩
def dL.gd (d:dL):Prop:=(d.lb/\∀l∈d.laws,Lb l.dK.length)/\d.nh.length<=16/\d.tb
theorem kL.lb2.gd {m:kL} (h:m.lb2) (ho:m.ok):∀d∈m.sites,d.gd:=fun d hd=>⟨⟨h.1.2.2.2 d hd,h.2 d hd⟩,(ho.s d hd).2.tl,(ho.s d hd).2.tb⟩
def kL.gd (m:kL):Prop:=m.lb2/\m.params.length<=32/\m.sites.length<=16/\m.iH.length<=32/\∀d∈m.sites,d.gd
theorem apP (s:List dL) (i:Nat) (d:dL) (t:List jv):Sc.l ((s.map fun x=>Sc.l x.cs).set i (Sc.l [.s (bs d.nm),ae fh.cs d.vars,ae oP.cs d.res,ae xg.cs d.cU,ae CO.cs d.kX,am d.fc,am d.cd,am d.de,am d.levels,am d.counts,ae jv.cs t,ae xB.cs d.starts,ae zC.cs d.laws]))=ae dL.cs (s.set i {d with nh:=t}):=by
 simp[ae,dL.cs,map_set]
theorem apA (s:List jv) (i:Nat) (r:jv) (b:kb):Sc.l ((s.map fun x=>Sc.l x.cs).set i (Sc.l [.s (bs r.nm),ae io.cs r.params,ae io.cs r.locals,ae ax.cs b]))=ae jv.cs (s.set i {r with body:=b}):=by
 simp[ae,jv.cs,map_set]
theorem alV (s:List dL) (i:Nat) (d:dL) (t:List jv):Sc.l ((s.map fun x=>Sc.l [.s (bs x.nm),ae fh.cs x.vars,ae oP.cs x.res,ae xg.cs x.cU,ae CO.cs x.kX,am x.fc,am x.cd,am x.de,am x.levels,am x.counts,ae jv.cs x.nh,ae xB.cs x.starts,ae zC.cs x.laws]).set i (Sc.l [.s (bs d.nm),ae fh.cs d.vars,ae oP.cs d.res,ae xg.cs d.cU,ae CO.cs d.kX,am d.fc,am d.cd,am d.de,am d.levels,am d.counts,ae jv.cs t,ae xB.cs d.starts,ae zC.cs d.laws]))=ae dL.cs (s.set i {d with nh:=t}):=apP s i d t
theorem asm (s:List jv) (i:Nat) (r:jv) (b:kb):Sc.l ((s.map fun x=>Sc.l [.s (bs x.nm),ae io.cs x.params,ae io.cs x.locals,ae ax.cs x.body]).set i (Sc.l [.s (bs r.nm),ae io.cs r.params,ae io.cs r.locals,ae ax.cs b]))=ae jv.cs (s.set i {r with body:=b}):=apA s i r b
theorem am0 (m:kL) (hl:m.lb2):∃(m':kL) (z:Int),qo.F m.cs=some (m'.cs++[.i z])/\m'.gd:=by
 have hw:wd []=([]:Bs):=rfl
 have anL:(⟨[],[],[],[]⟩:kL).gd:=by
  have z:Lb 0:=by unfold Lb;omega
  exact⟨⟨⟨z,z,z,fun d hd=>by cases hd⟩,fun d hd=>by cases hd⟩,zero_le _,zero_le _,zero_le _,fun d hd=>by cases hd⟩
 obtain⟨z,g0,f0⟩:=ag8 m hl.1
 by_cases hz:z=0
 case neg=>
  refine⟨⟨[],[],[],[]⟩,z,?_,anL⟩
  rw[Ql]
  unfold kL.cs at*
  simp only[yU,Io,g0,hz,hw,av,Nat.reduceAdd]
  rfl
 obtain⟨hm,_⟩:=f0 hz
 rw[hz]at g0
 have htb:=hm.tb
 have hsl:=hm.sl
 have aC6:gZ.F [ae dL.cs m.sites]=some [ae dL.cs m.sites]:=arf (by simpa using htb.2.1)
 have key:fA (qo.F m.cs) fun q=>∃(m':kL) (z:Int),q=m'.cs++[.i z]/\m'.gd:=by
  have bad:∀z:Int,∃(m':kL) (z':Int),[Sc.s (bs []),.l [],.l [],.l [],.i z]=m'.cs++[.i z']/\m'.gd:=fun z=>⟨⟨[],[],[],[]⟩,z,rfl,anL⟩
  rw[Ql]
  unfold kL.cs at*
  simp only[yU,Io,Ve,g0,aC6,hw,av,Nat.reduceAdd]
  refine eG (S:=List dL) (fun i s=>[.i (i:Int),ae dL.cs s]) (fun i s=>s.length=m.sites.length/\(∀j,i<=j->s[j]? =m.sites[j]?)/\∀x∈s,x.gd) m.sites.length (s:=m.sites) rfl (by omega) ⟨rfl,fun _ _=>rfl,hl.gd hm⟩ (fun i s rec hi hI hr=> ?_) (fun s rec hI=> ?_)
  ·obtain⟨i1,i2,i3⟩:=hI
   obtain⟨d,hd⟩:=aV hi
   have hsd:s[i]? =some d:=by rw[i2 i (Nat.le_refl _)];exact hd
   have bN:(i:Int)<m.sites.length:=by omega
   have hi3:(i:Int)<s.length:=by omega
   have hdo:=(hm.s d (aM hd)).2
   have hdt:=hdo.tb
   have hrl:=hdo.tl
   have hdg:=hl.gd hm d (aM hd)
   have avK:cT.F [ae jv.cs d.nh]=some [ae jv.cs d.nh]:=ajv (by unfold LB;simp;omega)
   simp only[ay hsd,dL.cs,bN,hi3,Vd,avK,av,Nat.reduceAdd]
   refine eG (S:=List jv) (fun j t=>[.i (j:Int),ae jv.cs t]) (fun j t=>t.length=d.nh.length/\(∀k,j<=k->t[k]? =d.nh[k]?)/\∀r∈t,r.lb/\r.params.length<=LB/\r.locals.length<=LB) d.nh.length (s:=d.nh) rfl (by omega) ⟨rfl,fun _ _=>rfl,fun r hr=>⟨hdg.1.1.2.2.1 r hr,hdt.2.2.2.2.2.2.2.2.2.2 r hr⟩⟩ (fun j t CE hj hJ Z4=> ?_) (fun t CE hJ=> ?_)
   ·obtain⟨j1,j2,j3⟩:=hJ
    obtain⟨r,VQ⟩:=aV hj
    have htr:t[j]? =some r:=by rw[j2 j (Nat.le_refl _)];exact VQ
    have W8:(j:Int)<d.nh.length:=by omega
    have hj3:(j:Int)<t.length:=by omega
    obtain⟨q1,q2,q3,q4,q5⟩:=(hdo.t r (aM VQ)).2
    have alg:=hdg.1.1.2.2.1 r (aM VQ)
    have aDW:=hdt.2.2.2.2.2.2.2.2.2.2 r (aM VQ)
    obtain⟨fY,g1,v1⟩:=asx m htb hdt (r:=r) ⟨by omega,by omega⟩
    have g1:tH.F [.s (bs m.nm),ae fh.cs m.params,ae dL.cs m.sites,ae HR.cs m.iH,.s (bs d.nm),ae fh.cs d.vars,ae oP.cs d.res,ae xg.cs d.cU,ae CO.cs d.kX,am d.fc,am d.cd,am d.de,am d.levels,am d.counts,ae jv.cs d.nh,ae xB.cs d.starts,ae zC.cs d.laws,.s (bs r.nm),ae io.cs r.params,ae io.cs r.locals,ae ax.cs r.body]=some [ae fh.cs fY]:=g1
    obtain⟨b',zb,g2,b1,b2⟩:=abs fY v1 (l:=r.body) (by omega) q4
    simp only[dL.cs,ay VQ,ay htr,jv.cs,W8,hj3,Vf,Vg,g1,g2,Ur,asm t j r b',aJ (k:=j) (by omega),av,Nat.reduceAdd]
    refine fA.ite (fun _=>⟨_,rfl,by simpa using bad zb⟩) (fun _=> ?_)
    refine Z4 (t.set j {r with body:=b'}) ⟨by simpa using j1,fun k hk=> ?_,fun x hx=> ?_⟩
    ·rw[getElem?_set_ne (by omega)];exact j2 k (by omega)
    ·rcases mem_or_eq_of_mem_set hx with hx|rfl
     ·exact j3 x hx
     ·exact⟨⟨alg.1,alg.2.1,by show ax.im b'<_;omega,b2⟩,aDW⟩
   ·obtain⟨j1,j2,j3⟩:=hJ
    simp only[dL.cs,Int.lt_irrefl,Ur,alV s i d t,aJ (k:=i) (by omega),av]
    refine hr (s.set i {d with nh:=t}) ⟨by simpa using i1,fun k hk=> ?_,fun x hx=> ?_⟩
    ·rw[getElem?_set_ne (by omega)];exact i2 k (by omega)
    ·rcases mem_or_eq_of_mem_set hx with hx|rfl
     ·exact i3 x hx
     ·obtain⟨⟨⟨⟨n1,n2,n3,n4,n5,n6,n7,n8,n9,n10,n11,n12⟩,e2,e3,e4⟩,e5⟩,e6,⟨t1,t2,t3,t4,t5,t6,t7,t8,t9,t10,t11⟩⟩:=hdg
      exact⟨⟨⟨⟨n1,n2,n3,n4,n5,n6,n7,n8,n9,by show Lb t.length;rw[j1];exact n10,n11,n12⟩,e2,fun r hr=>(j3 r hr).1,e4⟩,e5⟩,by show t.length<=16;rw[j1];exact e6,⟨t1,t2,t3,t4,t5,t6,t7,t8,t9,by show t.length<=_;rw[j1];exact t10,fun r hr=>(j3 r hr).2⟩⟩
  ·obtain⟨i1,i2,i3⟩:=hI
   simp only[Int.lt_irrefl,av]
   refine⟨_,rfl,⟨m.nm,[],s,m.iH⟩,0,rfl,?_⟩
   obtain⟨⟨l1,l2,l3,l4⟩,l5⟩:=hl
   exact⟨⟨⟨by unfold Lb;show 0<=_;omega,by show Lb s.length;rw[i1];exact l2,l3,fun x hx=>(i3 x hx).1.1⟩,fun x hx=>(i3 x hx).1.2⟩,zero_le _,by show s.length<=16;omega,hm.ll,i3⟩
 obtain⟨q,h1,m',z',rfl,h2⟩:=key
 exact⟨m',z',h1,h2⟩
section
def csc (m:kL) (fs:List io) (d:dL) (er:Int):aP:=[.s (bs m.nm),ae fh.cs m.params,ae dL.cs m.sites,ae HR.cs m.iH,ae fh.cs m.params,ae io.cs fs,.s (bs d.nm),ae fh.cs d.vars,ae oP.cs d.res,ae xg.cs d.cU,ae CO.cs d.kX,am d.fc,am d.cd,am d.de,am d.levels,am d.counts,ae jv.cs d.nh,ae xB.cs d.starts,ae zC.cs d.laws,.i er]
def afA:List Ty:=qO++[yV,yF]++kG++[yI]
section
variable {N:Nat}{X:Nat->Sc->Prop}
theorem ayP {m:kL} (h:m.tb){fs:List io} (hf:fs.length<=LB){d:dL} (hd:d.tb) (er:Int):hM N X afA (csc m fs d er):=by
 have h1:hM N X afA (m.cs++[ae fh.cs m.params,ae io.cs fs]++d.cs++[.i er]):=gF (gF (gF (ajM h) ⟨⟨_,rfl,h.1⟩,⟨_,rfl,hf⟩,trivial⟩) (VJ hd)) ⟨aY _,trivial⟩
 exact h1
end
section
variable {N:Nat}{X:Nat->Sc->Prop} (hI:jw Cg (IM N X)){c0 c1 c2 c3 c4 c5 c6 c7 c8 c9 GF GG c12 HS JJ JK JL JM JN:Sc} (hS:∀er,hM N X afA [c0,c1,c2,c3,c4,c5,c6,c7,c8,c9,GF,GG,c12,HS,JJ,JK,JL,JM,JN,.i er]) (hK:hM N X kG [c6,c7,c8,c9,GF,GG,c12,HS,JJ,JK,JL,JM,JN])
include hI hS hK
theorem axn (er:Int) (w:Bs):∃a b,dV.F ([c0,c1,c2,c3,c4,c5,c6,c7,c8,c9,GF,GG,c12,HS,JJ,JK,JL,JM,JN,.i er]++[.s (bs w)])=some [.i a,.i b]:=
 aea (An hI _ (gF (hS er) ⟨eF _,trivial⟩) (fun p hp=>by cases hp))
theorem ajd (er:Int) (w:Bs):∃a b,cM.F ([c0,c1,c2,c3,c4,c5,c6,c7,c8,c9,GF,GG,c12,HS,JJ,JK,JL,JM,JN,.i er]++[.s (bs w)])=some [.i a,.i b]:=
 aea (uv hI _ (gF (hS er) ⟨eF _,trivial⟩) (fun p hp=>by cases hp))
theorem arV (er:Int) (w:Bs):∃a b,dc.F ([c0,c1,c2,c3,c4,c5,c6,c7,c8,c9,GF,GG,c12,HS,JJ,JK,JL,JM,JN,.i er]++[.s (bs w)])=some [.i a,.i b]:=
 aea (yH hI _ (gF (hS er) ⟨eF _,trivial⟩) (fun p hp=>by cases hp))
omit hS in
theorem awi (w:Bs):∃a,ef.F ([c6,c7,c8,c9,GF,GG,c12,HS,JJ,JK,JL,JM,JN]++[.s (bs w)])=some [.s (bs a)]:=
 anv (Bh hI _ (gF hK ⟨eF _,trivial⟩) (fun p hp=>by cases hp))
omit hI hS hK in
theorem YG (a:Int) (b:Bs) (c:Int):(aj.mk a b c []).sz=1:=by rw[aj.dR];rfl
theorem awx (er:Int) (w:Bs):∃(e:aj) (Fk:Int),gG.F ([c0,c1,c2,c3,c4,c5,c6,c7,c8,c9,GF,GG,c12,HS,JJ,JK,JL,JM,JN,.i er]++[.s (bs w)])=some (e.cs++[.i Fk])/\e.sz=1:=by
 have hw:wd []=([]:Bs):=rfl
 obtain⟨a,b,g1⟩:=axn hI hS hK er w
 obtain⟨c,e,g2⟩:=ajd hI hS hK b w
 have key:fA (gG.F ([c0,c1,c2,c3,c4,c5,c6,c7,c8,c9,GF,GG,c12,HS,JJ,JK,JL,JM,JN,.i er]++[.s (bs w)])) fun r=>∃(e:aj) (Fk:Int),r=e.cs++[.i Fk]/\e.sz=1:=by
  rw[Nb]
  simp only[cons_append,nil_append]at g1 g2
  simp only[qQ,GO,GP,g1,g2,hw,av,Nat.reduceAdd]
  refine fA.ite (fun _=>⟨_,rfl,.mk 25 [] a [],b,by rw[aj.jN];rfl,YG ..⟩) (fun _=> ?_)
  refine fA.ite (fun _=>⟨_,rfl,.mk 26 [] c [],5,by rw[aj.jN];rfl,YG ..⟩) (fun _=>⟨_,rfl,.mk 26 [] c [],e,by rw[aj.jN];rfl,YG ..⟩)
 obtain⟨r,h1,e,z,rfl,h2⟩:=key
 exact⟨e,z,h1,h2⟩
omit hI hS hK in
theorem ajD (ks:i7) (hb:(ks.map aj.sz).sum<1000000\/ks.length<=LB){k:Nat} (ih:∀x∈ks,∀er,∃(x':aj) (Fk:Int),bA k 261 ([c0,c1,c2,c3,c4,c5,c6,c7,c8,c9,GF,GG,c12,HS,JJ,JK,JL,JM,JN,.i er]++x.cs)=some (x'.cs++[.i Fk])/\x'.sz<=x.sz) (er:Int):
 ∃(OL:i7) (Fk:Int),bA (k+1) 262 ([c0,c1,c2,c3,c4,c5,c6,c7,c8,c9,GF,GG,c12,HS,JJ,JK,JL,JM,JN,.i er]++[ae aj.cs ks])=some [ae aj.cs OL,.i Fk]/\(OL.map aj.sz).sum<=(ks.map aj.sz).sum/\OL.length=ks.length/\∀y∈OL,∃x∈ks,y.sz<=x.sz:=by
 have hlen:ks.length<=LB:=by
  rcases hb with hb|hb
  ·have:=aj.AG ks;unfold LB;omega
  ·exact hb
 unfold LB at hlen
 have key:fA (bA (k+1) 262 ([c0,c1,c2,c3,c4,c5,c6,c7,c8,c9,GF,GG,c12,HS,JJ,JK,JL,JM,JN,.i er]++[ae aj.cs ks])) fun r=>∃(OL:i7) (Fk:Int),r=[ae aj.cs OL,.i Fk]/\(OL.map aj.sz).sum<=(ks.map aj.sz).sum/\OL.length=ks.length/\∀y∈OL,∃x∈ks,y.sz<=x.sz:=by
  rw[Kb]
  simp only[cons_append,nil_append]at ih
  simp only[pt,av,Nat.reduceAdd]
  refine eG (S:=i7×Int) (fun i s=>[ae aj.cs s.1,.i (i:Int),.i s.2]) (fun i s=>s.1.length=i/\(s.1.map aj.sz).sum<=((ks.take i).map aj.sz).sum/\∀y∈s.1,∃x∈ks,y.sz<=x.sz) ks.length (s:=([],er)) rfl (by omega) ⟨rfl,by simp,fun _ h=>by cases h⟩ (fun i s rec hi hI hr=> ?_) (fun s rec hI=> ?_)
  ·obtain⟨acc,ez⟩:=s
   obtain⟨i1,i2,i3⟩:=hI
   simp only at i1 i2 i3 hr⊢
   obtain⟨x,hx⟩:=aV hi
   have bN:(i:Int)<ks.length:=by omega
   obtain⟨x',Fk,g1,g2⟩:=ih x (aM hx) ez
   have e1:((((acc.map fun x=>Sc.l x.cs)++[Sc.l [Sc.i x'.op,Sc.s (bs x'.nm),Sc.i x'.n,ae aj.cs x'.ks]]).length:Nat):Int)<=2513169434916:=by simp;omega
   rw[aj.aA x,aj.aA x']at g1
   simp only[cons_append,nil_append]at g1
   simp only[ay hx,aj.aA x,bN,g1,e1,U0,aJ (k:=i) (by omega),av,Nat.reduceAdd]
   refine hr (acc++[x'],Fk) ⟨by simp[i1],?_,fun y hy=> ?_⟩
   ·rw[Oi hx]
    simp only[map_append,sum_append,map_cons,sum_cons,map_nil,sum_nil]
    omega
   ·rcases mem_append.1 hy with hy|hy
    ·exact i3 y hy
    ·rcases mem_singleton.1 hy with rfl;exact⟨x,aM hx,g2⟩
  ·obtain⟨acc,ez⟩:=s
   obtain⟨i1,i2,i3⟩:=hI
   rw[take_length]at i2
   simp only[Int.lt_irrefl,av]
   exact⟨_,rfl,acc,ez,rfl,i2,i1,i3⟩
 obtain⟨r,h1,OL,z,rfl,h2⟩:=key
 exact⟨OL,z,h1,h2⟩
theorem anj:∀(e:aj) (k:Nat),2*e.sz<=k->e.sz<1000000->∀er,∃(e':aj) (Fk:Int),bA k 261 ([c0,c1,c2,c3,c4,c5,c6,c7,c8,c9,GF,GG,c12,HS,JJ,JK,JL,JM,JN,.i er]++e.cs)=some (e'.cs++[.i Fk])/\e'.sz<=e.sz:=by
 have hw:wd []=([]:Bs):=rfl
 refine aj.ind fun op nm n ks ih k hk hb er=> ?_
 have hs:(aj.mk op nm n ks).sz=1+(ks.map aj.sz).sum:=aj.dR (.mk op nm n ks)
 obtain⟨k,rfl⟩:∃j,k=j+1+1:=⟨k-2,by omega⟩
 obtain⟨OL,er1,g1,r1,_⟩:=ajD ks (.inl (by omega)) (k:=k) (fun x hx er=>ih x hx k (by have:=yk (f:=aj.sz) hx;omega) (by have:=yk (f:=aj.sz) hx;omega) er) er
 obtain⟨e2,er2,g2,r2⟩:=awx hI hS hK er nm
 obtain⟨a,b,g3⟩:=arV hI hS hK er nm
 obtain⟨kd,g4⟩:=awi hI hK nm
 have g4:ef.F [c6,c7,c8,c9,GF,GG,c12,HS,JJ,JK,JL,JM,JN,.s (bs nm)]=some [.s (bs kd)]:=g4
 have key:fA (bA (k+1+1) 261 ([c0,c1,c2,c3,c4,c5,c6,c7,c8,c9,GF,GG,c12,HS,JJ,JK,JL,JM,JN,.i er]++(aj.mk op nm n ks).cs)) fun r=>∃(e':aj) (Fk:Int),r=e'.cs++[.i Fk]/\e'.sz<=(aj.mk op nm n ks).sz:=by
  have aa:∀(a:Int) (c:Int) (Fk:Int),∃(e':aj) (avo:Int),[Sc.i a,.s (bs []),.i c,.l [],.i Fk]=e'.cs++[.i avo]/\e'.sz<=(aj.mk op nm n ks).sz:=fun a c Fk=>⟨.mk a [] c [],Fk,by rw[aj.jN];rfl,by rw[YG];omega⟩
  have node:∃(e':aj) (avo:Int),[Sc.i op,.s (bs nm),.i n,ae aj.cs OL,.i er1]=e'.cs++[.i avo]/\e'.sz<=(aj.mk op nm n ks).sz:=⟨.mk op nm n OL,er1,by rw[aj.jN];rfl,by
   have:(aj.mk op nm n OL).sz=1+(OL.map aj.sz).sum:=aj.dR (.mk op nm n OL)
   omega⟩
  rw[Ma,aj.jN]
  rw[aj.aA e2]at g2
  simp only[cons_append,nil_append]at g1 g2 g3
  by_cases h3:op=3
  ·simp only[eV,FH,h3,g2,av,Nat.reduceAdd,reduceEq]
   exact⟨_,rfl,e2,er2,by rw[aj.aA];rfl,by rw[r2,aj.dR];omega⟩
  by_cases h22:op=22
  ·have l:=aa op a b
   rw[h22]at l
   simp only[eV,mH,h22,g3,hw,av,Nat.reduceAdd,reduceEq]
   exact⟨_,rfl,by rw[<-h22]at l⊢;exact l⟩
  by_cases h23:op=23
  ·have l:=aa op a b
   rw[h23]at l
   simp only[eV,mH,h23,g3,hw,av,Nat.reduceAdd,reduceEq]
   exact⟨_,rfl,by rw[<-h23]at l⊢;exact l⟩
  by_cases h24:op=24
  ·simp only[eV,mH,FF,h24,g3,g4,hw,av,Nat.reduceAdd,reduceEq]
   refine fA.ite (fun _=>⟨_,rfl,?_⟩) (fun _=>⟨_,rfl,?_⟩)
   ·rw[<-h24];exact aa _ _ _
   ·rw[<-h24];exact aa _ _ _
  ·simp only[eV,h3,h22,h23,h24,g1,av,Nat.reduceAdd]
   exact⟨_,rfl,node⟩
 obtain⟨r,h1,e',z,rfl,h2⟩:=key
 exact⟨e',z,h1,h2⟩
theorem ahV {e:aj} (he:e.sz<1000000) (er:Int):∃(e':aj) (Fk:Int),dt.F ([c0,c1,c2,c3,c4,c5,c6,c7,c8,c9,GF,GG,c12,HS,JJ,JK,JL,JM,JN,.i er]++e.cs)=some (e'.cs++[.i Fk])/\e'.sz<=e.sz:=by
 rw[Kx]
 exact anj hI hS hK e _ (by unfold aF;omega) he er
theorem ajC {ks:i7} (hl:ks.length<=LB) (hk:∀k∈ks,k.sz<1000000) (er:Int):∃(OL:i7) (Fk:Int),cZ.F ([c0,c1,c2,c3,c4,c5,c6,c7,c8,c9,GF,GG,c12,HS,JJ,JK,JL,JM,JN,.i er]++[ae aj.cs ks])=some [ae aj.cs OL,.i Fk]/\OL.length=ks.length/\∀y∈OL,y.sz<1000000:=by
 rw[Jg]
 obtain⟨OL,Fk,g1,_,g2,g3⟩:=ajD ks (.inr hl) (k:=aF) (fun x hx er=>anj hI hS hK x _ (by have:=hk x hx;unfold aF;omega) (hk x hx) er) er
 exact⟨OL,Fk,g1,g2,fun y hy=>by
  obtain⟨x,hx,h⟩:=g3 y hy
  have:=hk x hx;omega⟩
end
end
theorem awa (l:List vO) (i:Nat) (x:vO) (a:Int):Sc.l ((l.map fun x=>Sc.l [.i x.op,.i x.a,.i x.b,.i x.c,.i x.e.op,.s (bs x.e.nm),.i x.e.n,ae aj.cs x.e.ks,.i x.f.op,.s (bs x.f.nm),.i x.f.n,ae aj.cs x.f.ks,ae aj.cs x.args,.i x.d.op,.i x.d.a,.i x.d.b,.i x.d.n,bY x.d.vs,bY x.d.ws,.b x.flag]).set i (Sc.l [.i x.op,.i a,.i x.b,.i x.c,.i x.e.op,.s (bs x.e.nm),.i x.e.n,ae aj.cs x.e.ks,.i x.f.op,.s (bs x.f.nm),.i x.f.n,ae aj.cs x.f.ks,ae aj.cs x.args,.i x.d.op,.i x.d.a,.i x.d.b,.i x.d.n,bY x.d.vs,bY x.d.ws,.b x.flag]))=ae vO.cs (l.set i {x with a:=a}):=by
 simp[ae,vO.cs,map_set]
theorem aeH (l:List vO) (hl:l.length<=LB) (hlb:∀x∈l,x.lb) (n:Int):∃l':List vO,mP.F [ae vO.cs l,.i n]=some [ae vO.cs l']/\l'.length=l.length/\∀x∈l',x.lb:=by
 have hc:jC.F [ae vO.cs l]=some [ae vO.cs l]:=amZ (by simpa using hl)
 unfold LB at hl
 have key:fA (mP.F [ae vO.cs l,.i n]) fun r=>∃l':List vO,r=[ae vO.cs l']/\l'.length=l.length/\∀x∈l',x.lb:=by
  rw[XC]
  simp only[AR,Po,hc,av,Nat.reduceAdd]
  refine eG (S:=List vO) (fun i s=>[.i (i:Int),ae vO.cs s]) (fun i s=>s.length=l.length/\∀x∈s,x.lb) l.length (s:=l) rfl (by omega) ⟨rfl,hlb⟩ (fun i s rec hi hI hr=> ?_) (fun s rec hI=> ?_)
  ·obtain⟨i1,i2⟩:=hI
   obtain⟨x,hx⟩:=aV (xs:=s) (i:=i) (by omega)
   have bN:(i:Int)<l.length:=by omega
   have hi3:(i:Int)<s.length:=by omega
   have Yh:∀a:Int,(s.set i {x with a:=a}).length=l.length/\∀y∈s.set i {x with a:=a},y.lb:=fun a=>⟨by simpa using i1,fun y hy=>by
    rcases mem_or_eq_of_mem_set hy with hy|rfl
    ·exact i2 y hy
    ·exact i2 x (aM hx)⟩
   simp only[ay hx,vO.cs,bN,hi3,Ur,awa s i x,aJ (k:=i) (by omega),av]
   refine fA.ite (fun _=>hr _ (Yh _)) (fun _=> ?_)
   refine fA.ite (fun _=>hr _ (Yh _)) (fun _=>hr s ⟨i1,i2⟩)
  ·obtain⟨i1,i2⟩:=hI
   simp only[Int.lt_irrefl,av]
   exact⟨_,rfl,s,rfl,i1,i2⟩
 obtain⟨r,h1,l',rfl,h2⟩:=key
 exact⟨l',h1,h2⟩
def akV:List Ty:=[yS,yV,.UF 23,yL,yV,yF]++kG++[yI]
def stY:List Ty:=[.UF 24,yS,.UF 22]++ol++ol++[yX,yI,yI,yI,yI,yZ,yZ,yB,.UF 20,.UF 21]
abbrev YW:Sp:=⟨261,afA++ol,[],ol++[yI],[]⟩
abbrev UM:Sp:=⟨262,afA++[yX],[],[yX,yI],[]⟩
abbrev YX:Sp:=⟨260,akV++stY,[(.o .eq (.v 20) (.i 13),true)],instrY++[yI],[]⟩
abbrev QU:Sp:=⟨257,akV++stY,[],[yC,yI],[]⟩
abbrev amy:Sp:=⟨212,akV++stY,[],[yC,yI],[]⟩
def XS (m:kL) (s:ax):Nat->Sc->Prop
 |0=>fun x=>x=ae ax.cs s.body
 |1=>fun x=>x=ae ax.cs s.fG
 |2=>fun x=>x= .s (bs s.pm)
 |3=>fun x=>x=ae dL.cs m.sites
 |4=>fun x=>x= .i s.op
 |_=>fun _=>False
theorem asJ {N:Nat}{X:Nat->Sc->Prop} (hI:jw Cg (IM N X)){k:Nat} (h1:kM (IM N X) dt.F YW) (h2:kM (IM N X) cZ.F UM) (h3:kM (IM N X) gH.F YX) (h4:kM (IM N X) (aC k 257) QU):
 kM (IM N X) (aC (k+1) 212) amy:=
 rN hI (Mc k) rfl (S:=[oe,xy,QU,zQ,ud,YX,YW,UM]) (by
  intro s hs
  simp only[mem_cons,not_mem_nil,or_false]at hs
  rcases hs with rfl|rfl|rfl|rfl|rfl|rfl|rfl|rfl
  ·show kM (IM N X) (aC k 139) _
   rw[FI];exact oI hI
  ·show kM (IM N X) (aC k 256) _
   rw[FJ];exact yH hI
  ·exact h4
  ·show kM (IM N X) (aC k 258) _
   rw[FK];exact An hI
  ·show kM (IM N X) (aC k 259) _
   rw[FL];exact uv hI
  ·show kM (IM N X) (aC k 260) _
   rw[FM];exact h3
  ·show kM (IM N X) (aC k 261) _
   rw[mJ];exact h1
  ·show kM (IM N X) (aC k 262) _
   rw[FN];exact h2) (by decide+kernel)
section
theorem ZY {I:Nat->Sc->Prop}:∀{ts us:List Ty}{c:aP},rO I (ts++us) c->∃a b,c=a++b/\rO I ts a/\rO I us b
 |[],us,c,h=>⟨[],c,rfl,trivial,h⟩
 |t::ts,us,c,h=>by
  obtain⟨x,xs,rfl,h1,h2⟩:=ah h
  obtain⟨a,b,rfl,h3,h4⟩:=ZY h2
  exact⟨x::a,b,rfl,⟨h1,h3⟩,h4⟩
def au8 (y:Ty):List Ty:=[yS,yV,y,yL,yV,yF]++kG++[yI]
section
variable {N:Nat}{X:Nat->Sc->Prop}
theorem Yn {y:Ty}{ts:List Ty}{l:aP} (h:hM N X (au8 y++ts) l):∃(c0 c1 c2 c3 c4 c5 c6 c7 c8 c9 GF GG c12 HS JJ JK JL JM JN:Sc) (er:Int) (rest:aP),l=[c0,c1,c2,c3,c4,c5,c6,c7,c8,c9,GF,GG,c12,HS,JJ,JK,JL,JM,JN,.i er]++rest/\has (IM N X) yS c0/\has (IM N X) yV c1/\has (IM N X) y c2/\has (IM N X) yL c3/\(∀Fk:Int,hM N X (au8 y) [c0,c1,c2,c3,c4,c5,c6,c7,c8,c9,GF,GG,c12,HS,JJ,JK,JL,JM,JN,.i Fk])/\hM N X kG [c6,c7,c8,c9,GF,GG,c12,HS,JJ,JK,JL,JM,JN]/\hM N X ts rest:=by
 obtain⟨a,rest,rfl,h1,h2⟩:=ZY h
 unfold au8 kG at h1
 simp only[cons_append,nil_append]at h1
 obtain⟨c0,a0,rfl,g0,k0⟩:=ah h1
 obtain⟨c1,a1,rfl,g1,k1⟩:=ah k0
 obtain⟨c2,a2,rfl,g2,k2⟩:=ah k1
 obtain⟨c3,a3,rfl,g3,k3⟩:=ah k2
 obtain⟨c4,a4,rfl,g4,k4⟩:=ah k3
 obtain⟨c5,a5,rfl,g5,k5⟩:=ah k4
 obtain⟨c6,a6,rfl,g6,k6⟩:=ah k5
 obtain⟨c7,a7,rfl,g7,k7⟩:=ah k6
 obtain⟨c8,a8,rfl,g8,k8⟩:=ah k7
 obtain⟨c9,a9,rfl,g9,k9⟩:=ah k8
 obtain⟨GF,a10,rfl,g10,k10⟩:=ah k9
 obtain⟨GG,a11,rfl,g11,k11⟩:=ah k10
 obtain⟨c12,a12,rfl,g12,k12⟩:=ah k11
 obtain⟨HS,a13,rfl,g13,k13⟩:=ah k12
 obtain⟨JJ,a14,rfl,g14,k14⟩:=ah k13
 obtain⟨JK,a15,rfl,g15,k15⟩:=ah k14
 obtain⟨JL,a16,rfl,g16,k16⟩:=ah k15
 obtain⟨JM,a17,rfl,g17,k17⟩:=ah k16
 obtain⟨JN,a18,rfl,g18,k18⟩:=ah k17
 obtain⟨_,a19,rfl,⟨er,rfl⟩,k19⟩:=ah k18
 cases mU k19
 exact⟨c0,c1,c2,c3,c4,c5,c6,c7,c8,c9,GF,GG,c12,HS,JJ,JK,JL,JM,JN,er,rest,rfl,g0,g1,g2,g3,fun Fk=>⟨g0,g1,g2,g3,g4,g5,g6,g7,g8,g9,g10,g11,g12,g13,g14,g15,g16,g17,g18,⟨Fk,rfl⟩,trivial⟩,⟨g6,g7,g8,g9,g10,g11,g12,g13,g14,g15,g16,g17,g18,trivial⟩,h2⟩
theorem apU (hI:jw Cg (IM N X)):kM (IM N X) dt.F YW:=by
 intro l hl _
 obtain⟨c0,c1,c2,c3,c4,c5,c6,c7,c8,c9,GF,GG,c12,HS,JJ,JK,JL,JM,JN,er,rest,rfl,-,-,-,-,hS,hK,hr⟩:=Yn (y:=yD) (ts:=ol) hl
 obtain⟨e,he,rfl⟩:=Rj hr
 obtain⟨e',Fk,g1,g2⟩:=ahV hI hS hK he er
 exact⟨_,g1,gF (ah4 (by omega)) ⟨aY _,trivial⟩,fun p h=>by cases h⟩
theorem alW (hI:jw Cg (IM N X)):kM (IM N X) cZ.F UM:=by
 intro l hl _
 obtain⟨c0,c1,c2,c3,c4,c5,c6,c7,c8,c9,GF,GG,c12,HS,JJ,JK,JL,JM,JN,er,rest,rfl,-,-,-,-,hS,hK,hr⟩:=Yn (y:=yD) (ts:=[yX]) hl
 obtain⟨_,q,rfl,⟨ks,rfl,h1,h2⟩,hq⟩:=ah hr
 cases mU hq
 obtain⟨OL,Fk,g1,g2,g3⟩:=ajC hI hS hK h1 h2 er
 exact⟨_,g1,⟨⟨OL,rfl,by omega,g3⟩,aY _,trivial⟩,fun p h=>by cases h⟩
theorem toD {m:kL}{s:ax} (hm:m.tb){c:Sc} (h:has (IM N (XS m s)) (.UF 23) c):has (IM N (XS m s)) yD c:=⟨m.sites,h,hm.2.1,hm.2.2.2⟩
theorem apV {m:kL} (hm:m.tb){s:ax} (hs:Eo m s) (hI:jw Cg (IM N (XS m s))):kM (IM N (XS m s)) gH.F YX:=by
 intro l hl ab3
 obtain⟨c0,c1,c2,c3,c4,c5,c6,c7,c8,c9,GF,GG,c12,HS,JJ,JK,JL,JM,JN,er,rest,rfl,⟨mn,rfl⟩,⟨mp,rfl,mp1⟩,hc2,⟨ml,rfl,ml1⟩,hS,hK,hr⟩:=Yn (y:= .UF 23) (ts:=stY) hl
 have aC5:c2=ae dL.cs m.sites:=hc2
 subst aC5
 have hS':∀Fk,hM N (XS m s) afA [.s (bs mn),ae fh.cs mp,ae dL.cs m.sites,ae HR.cs ml,c4,c5,c6,c7,c8,c9,GF,GG,c12,HS,JJ,JK,JL,JM,JN,.i Fk]:=fun Fk=>by
  have h:=hS Fk
  exact⟨h.1,h.2.1,toD hm h.2.2.1,h.2.2.2⟩
 unfold stY ol at hr
 simp only[cons_append,nil_append]at hr
 obtain⟨s0,r0,rfl,hop,q0⟩:=ah hr
 obtain⟨_,r1,rfl,⟨nm,rfl⟩,q1⟩:=ah q0
 obtain⟨s2,r2,rfl,hof,q2⟩:=ah q1
 obtain⟨_,r3,rfl,⟨eo,rfl⟩,q3⟩:=ah q2
 obtain⟨_,r4,rfl,⟨en,rfl⟩,q4⟩:=ah q3
 obtain⟨_,r5,rfl,⟨ez,rfl⟩,q5⟩:=ah q4
 obtain⟨_,r6,rfl,⟨ek,rfl,hek⟩,q6⟩:=ah q5
 obtain⟨s7,r7,rfl,-,q7⟩:=ah q6
 obtain⟨s8,r8,rfl,-,q8⟩:=ah q7
 obtain⟨s9,r9,rfl,-,q9⟩:=ah q8
 obtain⟨s10,r10,rfl,-,q10⟩:=ah q9
 obtain⟨_,r11,rfl,⟨ar,rfl,ha1,ha2⟩,q11⟩:=ah q10
 obtain⟨s12,r12,rfl,-,q12⟩:=ah q11
 obtain⟨s13,r13,rfl,-,q13⟩:=ah q12
 obtain⟨s14,r14,rfl,-,q14⟩:=ah q13
 obtain⟨s15,r15,rfl,-,q15⟩:=ah q14
 obtain⟨s16,r16,rfl,-,q16⟩:=ah q15
 obtain⟨s17,r17,rfl,-,q17⟩:=ah q16
 obtain⟨s18,r18,rfl,-,q18⟩:=ah q17
 obtain⟨s19,r19,rfl,-,q19⟩:=ah q18
 obtain⟨s20,r20,rfl,-,q20⟩:=ah q19
 cases mU q20
 have hop:s0= .i s.op:=hop
 have hof:s2= .s (bs s.pm):=hof
 subst hop hof
 have h13:s.op=13:=by
  have h:=ab3 _ (mem_singleton.2 rfl)
  have h:(s.op==13)=true:=h
  simpa using h
 have hj:=hs h13
 obtain⟨j,d2,e1,e2,e3⟩:=EW hj
 have hd2:=hm.2.2.2 d2 (aM e2)
 have Z8:=Un ⟨mn,mp,m.sites,ml⟩ (by have:=hm.2.1;unfold LB at this;show m.sites.length<=140737488355328;omega) s.pm
 have Z8:fV.F [.s (bs mn),ae fh.cs mp,ae dL.cs m.sites,ae HR.cs ml,.s (bs s.pm)]=some [.i (j:Int)]:=by
  rw[<-e1];exact Z8
 have hc6:has (IM N (XS m s)) yS c6:=hK.1
 obtain⟨sn,rfl⟩:=hc6
 obtain⟨la,lb,azV⟩:=anu (QG hI [.s (bs mn),ae fh.cs mp,ae dL.cs m.sites,ae HR.cs ml,.s (bs sn),.s (bs s.pm)] ⟨eF _,⟨mp,rfl,mp1⟩,⟨m.sites,rfl,hm.2.1,hm.2.2.2⟩,⟨ml,rfl,ml1⟩,eF _,eF _,trivial⟩ (fun p hp=>by cases hp))
 obtain⟨ra,hrt⟩:=acC (oI hI (d2.cs++[.s (bs nm)]) (gF (VJ hd2) ⟨eF _,trivial⟩) (fun p hp=>by cases hp))
 have hrt:bx.F [.s (bs d2.nm),ae fh.cs d2.vars,ae oP.cs d2.res,ae xg.cs d2.cU,ae CO.cs d2.kX,am d2.fc,am d2.cd,am d2.de,am d2.levels,am d2.counts,ae jv.cs d2.nh,ae xB.cs d2.starts,ae zC.cs d2.laws,.s (bs nm)]=some [.i ra]:=hrt
 obtain⟨e',er1,g1,g2⟩:=ahV hI hS' hK (e:= .mk eo en ez ek) (by rw[aj.dR];show 1+(ek.map aj.sz).sum<1000000;omega) er
 obtain⟨OL,er2,g3,g4,g5⟩:=ajC hI hS' hK ha1 ha2 er1
 have hjl:(j:Int)<m.sites.length:=by have:=bp e2;omega
 have anM:e'.sz<1000000:=by
  have:(aj.mk eo en ez ek).sz=1+(ek.map aj.sz).sum:=aj.dR (.mk eo en ez ek)
  omega
 have aDl:(e'.ks.map aj.sz).sum<999999:=by rw[aj.dR]at anM;omega
 rw[aj.jN,aj.aA e']at g1
 simp only[cons_append,nil_append]at g1 g3
 have hw:wd []=([]:Bs):=rfl
 refine⟨[.i 14,.i (j:Int),.i ra,.i la,.i e'.op,.s (bs e'.nm),.i e'.n,ae aj.cs e'.ks,.i 0,.s (bs []),.i 0,.l [],ae aj.cs OL,.i 0,.i 0,.i 0,.i 0,.l [],.l [],.b false,.i er2],?_,?_,fun p h=>by cases h⟩
 ·rw[Nc]
  simp only[qR,Ip,GT,GQ,GR,GS,Z8,azV,hjl,ay e2,dL.cs,hrt,g1,g3,hw,av,Nat.reduceAdd]
 ·have z:(0:Nat)<=LB:=by unfold LB;omega
  exact⟨aY _,aY _,aY _,aY _,aY _,eF _,aY _,⟨e'.ks,rfl,aDl⟩,aY _,eF _,aY _,⟨[],rfl,by decide⟩,⟨OL,rfl,by omega,g5⟩,aY _,aY _,aY _,aY _,⟨[],rfl,z⟩,⟨[],rfl,z⟩,OH _,aY _,trivial⟩
end
end
section
def LC (m:kL) (k:Nat) (l:kb) (M:Nat):Prop:=∀c0 c1 c2 c3 c4 c5 c6 c7 c8 c9 GF GG c12 HS JJ JK JL JM JN:Sc,(∀er:Int,hM 1 (XS m .zero) akV [c0,c1,c2,c3,c4,c5,c6,c7,c8,c9,GF,GG,c12,HS,JJ,JK,JL,JM,JN,.i er])->hM 1 (XS m .zero) kG [c6,c7,c8,c9,GF,GG,c12,HS,JJ,JK,JL,JM,JN]->∀er:Int,∃(code:List vO) (Fk:Int),aC k 169 ([c0,c1,c2,c3,c4,c5,c6,c7,c8,c9,GF,GG,c12,HS,JJ,JK,JL,JM,JN,.i er]++[ae ax.cs l])=some [ae vO.cs code,.i Fk]/\code.length<=M/\∀x∈code,x.lb
theorem inz {e:aj} (he:e.sz<1000000) (op a:Int):(⟨op,a,0,0,e,.zero,[],.zero,false⟩:vO).lb:=by
 have z:(0:Nat)<=LB:=by unfold LB;omega
 exact⟨he,by show aj.zero.sz<_;rw[abt];omega,z,fun _ h=>(by cases h),z,z⟩
theorem awc (e:aj) (op a:Int):(⟨op,a,0,0,e,.zero,[],.zero,false⟩:vO).cs=[.i op,.i a,.i 0,.i 0,.i e.op,.s (bs e.nm),.i e.n,ae aj.cs e.ks,.i 0,.s (bs []),.i 0,.l [],.l [],.i 0,.i 0,.i 0,.i 0,.l [],.l [],.b false]:=rfl
theorem axb (A B:vO) (l:List vO):ae vO.cs (A::(l++[B]))= .l (.l A.cs::((l.map fun x=>Sc.l x.cs)++[.l B.cs])):=by simp[ae]
theorem axc (A B:vO) (l l2:List vO):ae vO.cs (A::(l++[B]++l2))= .l (.l A.cs::((l.map fun x=>Sc.l x.cs)++[.l B.cs]++(l2.map fun x=>Sc.l x.cs))):=by simp[ae]
section
variable {N:Nat}
theorem aiX {m:kL} (hm:m.tb){s:ax} (hI:jw Cg (IM N (XS m s))){k:Nat} (hN:2+4*ax.im s.body+4*ax.im s.fG<=N) (hNL:N<=LB) (hb:LC m k s.body (4*ax.im s.body)) (he:LC m k s.fG (4*ax.im s.fG)):kM (IM N (XS m s)) (aC (k+1) 257) QU:=by
 intro l hl _
 obtain⟨c0,c1,c2,c3,c4,c5,c6,c7,c8,c9,GF,GG,c12,HS,JJ,JK,JL,JM,JN,er,rest,rfl,-,-,-,-,hS,hK,hr⟩:=Yn (y:= .UF 23) (ts:=stY) hl
 have hS':∀Fk,hM N (XS m s) afA [c0,c1,c2,c3,c4,c5,c6,c7,c8,c9,GF,GG,c12,HS,JJ,JK,JL,JM,JN,.i Fk]:=fun Fk=>by
  have h:=hS Fk
  exact⟨h.1,h.2.1,toD hm h.2.2.1,h.2.2.2⟩
 unfold stY ol at hr
 simp only[cons_append,nil_append]at hr
 obtain⟨s0,r0,rfl,hop,q0⟩:=ah hr
 obtain⟨s1,r1,rfl,-,q1⟩:=ah q0
 obtain⟨s2,r2,rfl,-,q2⟩:=ah q1
 obtain⟨_,r3,rfl,⟨eo,rfl⟩,q3⟩:=ah q2
 obtain⟨_,r4,rfl,⟨en,rfl⟩,q4⟩:=ah q3
 obtain⟨_,r5,rfl,⟨ez,rfl⟩,q5⟩:=ah q4
 obtain⟨_,r6,rfl,⟨ek,rfl,hek⟩,q6⟩:=ah q5
 obtain⟨s7,r7,rfl,-,q7⟩:=ah q6
 obtain⟨s8,r8,rfl,-,q8⟩:=ah q7
 obtain⟨s9,r9,rfl,-,q9⟩:=ah q8
 obtain⟨s10,r10,rfl,-,q10⟩:=ah q9
 obtain⟨s11,r11,rfl,-,q11⟩:=ah q10
 obtain⟨s12,r12,rfl,-,q12⟩:=ah q11
 obtain⟨s13,r13,rfl,-,q13⟩:=ah q12
 obtain⟨s14,r14,rfl,-,q14⟩:=ah q13
 obtain⟨s15,r15,rfl,-,q15⟩:=ah q14
 obtain⟨s16,r16,rfl,-,q16⟩:=ah q15
 obtain⟨s17,r17,rfl,-,q17⟩:=ah q16
 obtain⟨s18,r18,rfl,-,q18⟩:=ah q17
 obtain⟨s19,r19,rfl,anI,q19⟩:=ah q18
 obtain⟨s20,r20,rfl,arE,q20⟩:=ah q19
 cases mU q20
 have hop:s0= .i s.op:=hop
 have anI:s19=ae ax.cs s.body:=anI
 have arE:s20=ae ax.cs s.fG:=arE
 subst hop anI arE
 have hLB:LB=1000000:=rfl
 obtain⟨e',er1,g1,g2⟩:=ahV hI hS' hK (e:= .mk eo en ez ek) (by rw[aj.dR];show 1+(ek.map aj.sz).sum<1000000;omega) er
 have anM:e'.sz<1000000:=by
  have:(aj.mk eo en ez ek).sz=1+(ek.map aj.sz).sum:=aj.dR (.mk eo en ez ek)
  omega
 obtain⟨cb,er2,g3,l3,b3⟩:=hb c0 c1 c2 c3 c4 c5 c6 c7 c8 c9 GF GG c12 HS JJ JK JL JM JN hS hK er1
 obtain⟨cb',g4,l4,b4⟩:=aeH cb (by omega) b3 1
 obtain⟨ce,er3,g5,l5,b5⟩:=he c0 c1 c2 c3 c4 c5 c6 c7 c8 c9 GF GG c12 HS JJ JK JL JM JN hS hK er2
 obtain⟨ce',g6,l6,b6⟩:=aeH ce (by omega) b5 ((cb'.length+1:Nat)+1:Int)
 rw[aj.jN,aj.aA e']at g1
 simp only[cons_append,nil_append]at g1 g3 g5
 have hw:wd []=([]:Bs):=rfl
 have w1:IntKind.i64.wrap (((cb'.length+1:Nat):Int)+1)=((cb'.length+1:Nat):Int)+1:=cE (by omega) (by omega)
 have w2:IntKind.i64.wrap (((cb'.length+1:Nat):Int)+1+(ce.length:Int))=((cb'.length+1:Nat):Int)+1+(ce.length:Int):=cE (by omega) (by omega)
 have key:fA (aC (k+1) 257 ([c0,c1,c2,c3,c4,c5,c6,c7,c8,c9,GF,GG,c12,HS,JJ,JK,JL,JM,JN,.i er]++[.i s.op,s1,s2,.i eo,.s (bs en),.i ez,ae aj.cs ek,s7,s8,s9,s10,s11,s12,s13,s14,s15,s16,s17,s18,ae ax.cs s.body,ae ax.cs s.fG])) fun r=>∃(code:List vO) (Fk:Int),r=[ae vO.cs code,.i Fk]/\code.length<=N/\∀x∈code,x.lb:=by
  have e1:((cb'.length+1:Nat):Int)<=549755813888:=by omega
  have e2:((cb'.length+1+1:Nat):Int)<=549755813888:=by omega
  have e3:(0:Int)<((cb'.length+1+1:Nat):Int):=by omega
  have e4:(0:Int)<((cb'.length+1:Nat):Int):=by omega
  rw[Ik]
  by_cases h4:s.op=4
  ·simp only[kI,mJ,mI,g1,g3,g4,hw,h4,length_append,e1,e2,e3,Ur,set_cons_zero,av,Nat.reduceAdd]
   refine⟨_,rfl,⟨5,((cb'.length+1+1:Nat):Int),0,0,e',.zero,[],.zero,false⟩::(cb'++[⟨4,0,0,0,.zero,.zero,[],.zero,false⟩]),er2,?_,?_,?_⟩
   ·rw[axb];rfl
   ·simp only[length_cons,length_append,length_nil];omega
   ·intro x hx
    simp only[mem_cons,mem_append,not_mem_nil,or_false]at hx
    rcases hx with rfl|hx|rfl
    ·exact inz anM _ _
    ·exact b4 x hx
    ·exact inz (by rw[abt];omega) _ _
  ·simp only[kI,mJ,mI,g1,g3,g4,g5,hw,h4,length_append,e1,e2,e3,e4,w1,w2,Ur,set_cons_zero,av,Nat.reduceAdd]
   refine fA.ite (fun _=> ?_) (fun _=> ?_)
   ·refine⟨_,rfl,⟨5,((cb'.length+1:Nat):Int),0,0,e',.zero,[],.zero,false⟩::cb',er3,?_,?_,?_⟩
    ·simp only[ae,map_cons,awc]
    ·simp only[length_cons];omega
    ·intro x hx
     rcases mem_cons.1 hx with rfl|hx
     ·exact inz anM _ _
     ·exact b4 x hx
   ·have e5:((cb'.length+1+ce'.length+1:Nat):Int)<=549755813888:=by omega
    simp only[g6,e5,av,Nat.reduceAdd]
    refine⟨_,rfl,⟨5,((cb'.length+1:Nat):Int)+1,0,0,e',.zero,[],.zero,false⟩::(cb'++[⟨4,((cb'.length+1:Nat):Int)+1+(ce.length:Int),0,0,.zero,.zero,[],.zero,false⟩]++ce'),er3,?_,?_,?_⟩
    ·rw[axc];rfl
    ·simp only[length_cons,length_append,length_nil];omega
    ·intro x hx
     simp only[mem_cons,mem_append,not_mem_nil,or_false]at hx
     rcases hx with rfl|(hx|rfl)|hx
     ·exact inz anM _ _
     ·exact b4 x hx
     ·exact inz (by rw[abt];omega) _ _
     ·exact b6 x hx
 obtain⟨r,h1,code,z,rfl,h2,h3⟩:=key
 exact⟨_,h1,⟨⟨code,rfl,h2,h3⟩,aY _,trivial⟩,fun p h=>by cases h⟩
end
theorem ayQ {N:Nat}{m:kL}{s:ax} (h:s.tb):hM N (XS m s) stY s.cs:=by
 obtain⟨h1,h2,h3,h4,h5,h6⟩:=h
 have he:(s.e.ks.map aj.sz).sum<999999:=by rw[aj.dR]at h1;omega
 have hf:(s.f.ks.map aj.sz).sum<999999:=by rw[aj.dR]at h2;omega
 rw[ax.aA]
 exact⟨rfl,eF _,rfl,aY _,eF _,aY _,⟨_,rfl,he⟩,aY _,eF _,aY _,⟨_,rfl,hf⟩,⟨_,rfl,h3,h4⟩,aY _,aY _,aY _,aY _,⟨_,rfl,h5⟩,⟨_,rfl,h6⟩,OH _,rfl,rfl,trivial⟩
theorem IMX (m:kL) (hm:m.tb) (s:ax) (N:Nat) (hN:1<=N/\N<=LB):jw Cg (IM N (XS m s)):=aeY hN ⟨fun x hx=>⟨s.pm,hx⟩,fun x hx=>⟨m.sites,hx,hm.2.1,hm.2.2.2⟩,fun x hx=>⟨s.op,hx⟩⟩
theorem awq {m:kL} (hm:m.tb):∀(l:kb) (k:Nat),3*ax.im l+1<=k->ax.im l<=1000->ax.R1 l->ax.hdL (Eo m) l->LC m k l (4*ax.im l):=by
 refine ax.X8 fun l ih k hk hb dI hhd=> ?_
 intro c0 c1 c2 c3 c4 c5 c6 c7 c8 c9 GF GG c12 HS JJ JK JL JM JN hS hK er
 have hLB:LB=1000000:=rfl
 obtain⟨k,rfl⟩:∃j,k=j+1:=⟨k-1,by omega⟩
 have hln:=ax.pk l
 have key:fA (aC (k+1) 169 ([c0,c1,c2,c3,c4,c5,c6,c7,c8,c9,GF,GG,c12,HS,JJ,JK,JL,JM,JN,.i er]++[ae ax.cs l])) fun r=>∃(code:List vO) (Fk:Int),r=[ae vO.cs code,.i Fk]/\code.length<=4*ax.im l/\∀x∈code,x.lb:=by
  rw[Mb]
  simp only[qP,av,Nat.reduceAdd]
  refine eG (S:=List vO×Int) (fun i s=>[ae vO.cs s.1,.i (i:Int),.i s.2]) (fun i s=>s.1.length<=4*ax.im (l.take i)/\∀x∈s.1,x.lb) l.length (s:=([],er)) rfl (by omega) ⟨by simp,fun _ h=>by cases h⟩ (fun i s rec hi hI hr=> ?_) (fun s rec hI=> ?_)
  ·obtain⟨acc,ez⟩:=s
   obtain⟨i1,i2⟩:=hI
   simp only at i1 i2 hr⊢
   obtain⟨x,hx⟩:=aV hi
   have hmx:=aM hx
   have bN:(i:Int)<l.length:=by omega
   obtain⟨b1,b2⟩:=ax.vw hmx
   obtain⟨o1,o2,o3⟩:=(ax.vZ x).1 ((ax.vJ l).1 dI x hmx)
   obtain⟨p1,p2,p3⟩:=(ax.anJ x).1 ((ax.aeh l).1 hhd x hmx)
   have hsx:=ax.OM hmx
   have hse:=ax.dR x
   obtain⟨k,rfl⟩:∃j,k=j+1+1:=⟨k-2,by omega⟩
   have hN:1<=4*x.sz/\4*x.sz<=LB:=by omega
   have hI:=IMX m hm x (4*x.sz) hN
   have hch:=aiX hm hI (k:=k) (by omega) hN.2 (ih x.body b1 k (by omega) (by omega) o2 p2) (ih x.fG b2 k (by omega) (by omega) o3 p3)
   have pW:=asJ hI (apU hI) (alW hI) (apV hm p1 hI) hch
   have hS2:hM (4*x.sz) (XS m x) akV [c0,c1,c2,c3,c4,c5,c6,c7,c8,c9,GF,GG,c12,HS,JJ,JK,JL,JM,JN,.i ez]:=hS ez
   have dU:=pW ([c0,c1,c2,c3,c4,c5,c6,c7,c8,c9,GF,GG,c12,HS,JJ,JK,JL,JM,JN,.i ez]++x.cs) (gF hS2 (ayQ o1.tb)) (fun p hp=>by cases hp)
   obtain⟨r,g1,g2,_⟩:=dU
   obtain⟨_,r1,rfl,⟨code,rfl,q1,q2⟩,g3⟩:=ah g2
   obtain⟨_,r2,rfl,⟨er2,rfl⟩,g4⟩:=ah g3
   cases mU g4
   obtain⟨ajx,g5,q3,q4⟩:=aeH code (by omega) q2 (acc.length:Int)
   have tk:ax.im (l.take (i+1))=ax.im (l.take i)+x.sz:=by rw[ax.nD,ax.nD,Oi hx]
   have tl:ax.im (l.take i)<=ax.im l:=by
    have:ax.im l=ax.im (l.take i)+ax.im (l.drop i):=by
     rw[ax.nD,ax.nD,ax.nD,<-sum_append,<-map_append,take_append_drop]
    omega
   have e1:((((acc.map fun x=>Sc.l x.cs)++(ajx.map fun x=>Sc.l x.cs)).length:Nat):Int)<=549755813888:=by simp;omega
   have e2:Sc.l ((acc.map fun x=>Sc.l x.cs)++(ajx.map fun x=>Sc.l x.cs))=ae vO.cs (acc++ajx):=by simp[ae]
   rw[ax.aA x]at g1
   simp only[cons_append,nil_append]at g1
   simp only[ay hx,ax.aA x,bN,g1,mI,g5,e1,e2,aJ (k:=i) (by omega),av,Nat.reduceAdd]
   refine hr (acc++ajx,er2) ⟨by rw[tk];simp;omega,fun y hy=> ?_⟩
   rcases mem_append.1 hy with hy|hy
   ·exact i2 y hy
   ·exact q4 y hy
  ·obtain⟨acc,ez⟩:=s
   obtain⟨i1,i2⟩:=hI
   rw[take_length]at i1
   simp only[Int.lt_irrefl,av]
   exact⟨_,rfl,acc,ez,rfl,i1,i2⟩
 obtain⟨r,h1,code,z,rfl,h2⟩:=key
 exact⟨code,z,h1,h2⟩
end
theorem ard {m:kL} (hm:m.tb){fs:List io} (hf:fs.length<=LB){d:dL} (hd:d.tb){l:kb} (hb:ax.im l<=200) (dI:ax.R1 l) (hhd:ax.hdL (Eo m) l):∃(code:List vO) (z:Int),mV.F (csc m fs d 0++[ae ax.cs l])=some [ae vO.cs code,.i z]/\code.length<=800/\∀x∈code,x.lb:=by
 have h:=awq hm l (aF+1) (by unfold aF;omega) (by omega) dI hhd
 have hS:∀er:Int,hM 1 (XS m .zero) akV (csc m fs d er):=fun er=>by
  have h0:hM 1 (XS m .zero) afA (csc m fs d er):=ayP hm hf hd er
  exact⟨h0.1,h0.2.1,rfl,h0.2.2.2⟩
 have hK:hM 1 (XS m .zero) kG d.cs:=VJ hd
 obtain⟨code,z,g1,g2,g3⟩:=h _ _ _ _ _ _ _ _ _ _ _ _ _ _ _ _ _ _ _ (fun er=>hS er) hK 0
 rw[Ky]
 exact⟨code,z,g1,by omega,g3⟩
theorem am4 {m:kL} (hm:m.tb){ix:Nat}{d:dL} (hx:m.sites[ix]? =some d){fs:List io} (hf:fs.length<=LB){l:kb} (hb:ax.im l<1000000) (hs:ax.smL l):∃(code:List vO) (z:Int),pY.F (m.cs++[.i (ix:Int),ae io.cs fs,ae ax.cs l])=some [ae vO.cs code,.i z]/\code.length<=800/\∀x∈code,x.lb:=by
 obtain⟨z,g1,f1⟩:=aha hm hx hf hb hs
 have hd:=hm.2.2.2 d (aM hx)
 have hix:(ix:Int)<m.sites.length:=by have:=bp hx;omega
 have e0:ae vO.cs []= .l []:=rfl
 have key:fA (pY.F (m.cs++[.i (ix:Int),ae io.cs fs,ae ax.cs l])) fun r=>∃(code:List vO) (z:Int),r=[ae vO.cs code,.i z]/\code.length<=800/\∀x∈code,x.lb:=by
  have bad:∀z:Int,∃(code:List vO) (z':Int),[Sc.l [],.i z]=[ae vO.cs code,.i z']/\code.length<=800/\∀x∈code,x.lb:=fun z=>⟨[],z,rfl,by simp,fun x h=>by cases h⟩
  rw[XB]
  by_cases c:z=0
  ·obtain⟨k1,k2,k3⟩:=f1 c
   obtain⟨code,y,g2,c1,c2⟩:=ard hm hf hd k2 k1 k3
   unfold csc at g2
   rw[c]at g1
   unfold kL.cs at*
   simp only[cons_append,nil_append]at g1 g2
   simp only[tW,Dj,Pn,g1,g2,hix,ay hx,dL.cs,av,Nat.reduceAdd]
   refine fA.ite (fun _=>⟨_,rfl,bad _⟩) (fun _=>⟨_,rfl,code,0,rfl,c1,c2⟩)
  ·unfold kL.cs at*
   simp only[cons_append,nil_append]at g1
   simp only[tW,Dj,g1,c,av,Nat.reduceAdd]
   exact⟨_,rfl,bad _⟩
 obtain⟨r,h1,code,z,rfl,h2⟩:=key
 exact⟨code,z,h1,h2⟩
def CoD.gd (c:CoD):Prop:=c.ins.length<=1000/\∀x∈c.ins,x.lb
theorem ahN {m:kL} (hg:m.gd){si ri:Nat}{d:dL}{r:jv} (hx:m.sites[si]? =some d) (hr:d.nh[ri]? =some r):∃(c:CoD) (z:Int),km.F (m.cs++[.i (si:Int),.i (ri:Int)])=some (c.cs++[.i z])/\c.gd:=by
 have hw:wd []=([]:Bs):=rfl
 obtain⟨z,g1,f1⟩:=ag8 m hg.1.1
 have key:fA (km.F (m.cs++[.i (si:Int),.i (ri:Int)])) fun q=>∃(c:CoD) (z:Int),q=c.cs++[.i z]/\c.gd:=by
  have bad:∀z:Int,∃(c:CoD) (z':Int),[Sc.s (bs []),.i 0,.i 0,.l [],.i z]=c.cs++[.i z']/\c.gd:=fun z=>⟨⟨[],0,0,[]⟩,z,rfl,by simp[CoD.gd]⟩
  rw[S7]
  by_cases c:z=0
  ·obtain⟨hm,_⟩:=f1 c
   have htb:=hm.tb
   have hdo:=(hm.s d (aM hx)).2
   obtain⟨q1,q2,q3,q4,q5⟩:=(hdo.t r (aM hr)).2
   have alg:=(hg.1.1.2.2.2 d (aM hx)).2.2.1 r (aM hr)
   have hc:=Zo r.params r.locals (by omega) (by omega)
   obtain⟨code,y,g2,c1,c2⟩:=am4 htb hx (fs:=r.params++r.locals) (by unfold LB;simp;omega) (l:=r.body) (by omega) alg.2.2.2
   have h1:(si:Int)<m.sites.length:=by have:=bp hx;omega
   have h2:(ri:Int)<d.nh.length:=by have:=bp hr;omega
   have n1:¬(si:Int)<0:=by omega
   have n2:¬(ri:Int)<0:=by omega
   have n3:¬(m.sites.length:Int)<=si:=by omega
   have n4:¬(d.nh.length:Int)<=ri:=by omega
   have e1:((code.length+1:Nat):Int)<=549755813888:=by omega
   rw[c]at g1
   unfold kL.cs at*
   simp only[cons_append,nil_append]at g1 g2
   simp only[pq,BT,NC,ND,g1,g2,hc,h1,h2,n1,n2,n3,n4,ay hx,dL.cs,ay hr,jv.cs,hw,length_append,e1,av,Nat.reduceAdd]
   refine fA.ite (fun _=>⟨_,rfl,bad _⟩) (fun _=> ?_)
   refine fA.ite (fun _=>⟨_,rfl,bad _⟩) (fun cl=> ?_)
   refine⟨_,rfl,⟨r.nm,r.params.length,((r.params.length+r.locals.length:Nat):Int),code++[⟨19,0,0,0,.zero,.zero,[],.zero,false⟩]⟩,0,?_,?_,?_⟩
   ·have e:ae vO.cs (code++[⟨19,0,0,0,.zero,.zero,[],.zero,false⟩])= .l ((code.map fun x=>Sc.l x.cs)++[.l (⟨19,0,0,0,.zero,.zero,[],.zero,false⟩:vO).cs]):=by simp[ae]
    unfold CoD.cs
    rw[e]
    rfl
   ·simp;omega
   ·intro x hx
    rcases mem_append.1 hx with hx|hx
    ·exact c2 x hx
    ·rcases mem_singleton.1 hx with rfl
     exact inz (by rw[abt];omega) _ _
  ·unfold kL.cs at*
   simp only[pq,BT,g1,c,hw,av,Nat.reduceAdd]
   exact⟨_,rfl,bad _⟩
 obtain⟨q,h1,c,z,rfl,h2⟩:=key
 exact⟨c,z,h1,h2⟩
def ScD.gd (s:ScD):Prop:=(s.decl.lb/\∀l∈s.decl.laws,Lb l.dK.length)/\s.nh.length<=16/\∀c∈s.nh,c.gd
def PrD.gd (p:PrD):Prop:=p.sites.length<=16/\p.iH.length<=32/\∀s∈p.sites,s.gd
theorem asl (s:List jv) (i:Nat) (r:jv):Sc.l ((s.map fun x=>Sc.l [.s (bs x.nm),ae io.cs x.params,ae io.cs x.locals,ae ax.cs x.body]).set i (Sc.l [.s (bs r.nm),ae io.cs r.params,ae io.cs r.locals,.l []]))=ae jv.cs (s.set i {r with body:=[]}):=apA s i r []
theorem am1 (m:kL) (hl:m.lb2):∃(p:PrD) (z:Int),mO.F m.cs=some (p.cs++[.i z])/\p.gd:=by
 have hw:wd []=([]:Bs):=rfl
 obtain⟨n,z,g0,hn⟩:=am0 m hl
 have g0:qo.F [.s (bs m.nm),ae fh.cs m.params,ae dL.cs m.sites,ae HR.cs m.iH]=some [.s (bs n.nm),ae fh.cs n.params,ae dL.cs n.sites,ae HR.cs n.iH,.i z]:=g0
 have hcr:=fun(si ri:Nat) (d:dL) (r:jv) (hx:n.sites[si]? =some d) (hr:d.nh[ri]? =some r)=>ahN hn hx hr
 obtain⟨hn1,X7,hn3,hn4,hn5⟩:=hn
 have hix:=fun w=>Un n (by unfold Lb;omega) w
 have key:fA (mO.F m.cs) fun q=>∃(p:PrD) (z:Int),q=[.s (bs p.nm),ae ScD.cs p.sites,ae ArD.cs p.iH,.i z]/\p.gd:=by
  have bad:∀z:Int,∃(p:PrD) (z':Int),[Sc.s (bs []),.l [],.l [],.i z]=[.s (bs p.nm),ae ScD.cs p.sites,ae ArD.cs p.iH,.i z']/\p.gd:=fun z=>⟨⟨[],[],[]⟩,z,rfl,zero_le _,zero_le _,fun s h=>by cases h⟩
  rw[XA]
  unfold kL.cs at hix hcr⊢
  simp only[cons_append,nil_append]at hix hcr
  simp only[AQ,Re,g0,hw,av,Nat.reduceAdd]
  refine fA.ite (fun _=>⟨_,rfl,bad _⟩) (fun _=> ?_)
  refine eG (S:=List ScD) (fun i s=>[.i (i:Int),ae ScD.cs s]) (fun i s=>s.length=i/\∀x∈s,x.gd) n.sites.length (s:=[]) rfl (by omega) ⟨rfl,fun _ h=>by cases h⟩ (fun i s rec hi hI hr=> ?_) (fun s rec hI=> ?_)
  ·obtain⟨i1,i2⟩:=hI
   obtain⟨d,hd⟩:=aV hi
   have bN:(i:Int)<n.sites.length:=by omega
   obtain⟨⟨azz,hdl⟩,aHf,aHj⟩:=hn5 d (aM hd)
   have avK:cT.F [ae jv.cs d.nh]=some [ae jv.cs d.nh]:=ajv (by unfold LB;simp;omega)
   simp only[ay hd,dL.cs,bN,Rf,avK,av,Nat.reduceAdd]
   refine eG (S:=List CoD×List jv) (fun j t=>[.i (j:Int),ae CoD.cs t.1,ae jv.cs t.2]) (fun j t=>t.1.length=j/\(∀c∈t.1,c.gd)/\t.2.length=d.nh.length/\∀r∈t.2,r.lb) d.nh.length (s:=([],d.nh)) rfl (by omega) ⟨rfl,(fun _ h=>by cases h),rfl,azz.2.2.1⟩ (fun j t CE hj hJ Z4=> ?_) (fun t CE hJ=> ?_)
   ·obtain⟨cs,ts⟩:=t
    obtain⟨j1,j2,j3,j4⟩:=hJ
    simp only at j1 j2 j3 j4 Z4⊢
    obtain⟨r,VQ⟩:=aV hj
    obtain⟨t,ht⟩:=aV (xs:=ts) (i:=j) (by omega)
    have W8:(j:Int)<d.nh.length:=by omega
    have hj3:(j:Int)<ts.length:=by omega
    obtain⟨c,zc,g1,g2⟩:=hcr i j d r hd VQ
    have g1:km.F [.s (bs n.nm),ae fh.cs n.params,ae dL.cs n.sites,ae HR.cs n.iH,.i (i:Int),.i (j:Int)]=some [.s (bs c.nm),.i c.params,.i c.aZ,ae vO.cs c.ins,.i zc]:=g1
    have e1:((((cs.map fun x=>Sc.l x.cs)++[Sc.l [.s (bs c.nm),.i c.params,.i c.aZ,ae vO.cs c.ins]]).length:Nat):Int)<=2513169434916:=by simp;omega
    have e2:Sc.l ((cs.map fun x=>Sc.l x.cs)++[Sc.l [.s (bs c.nm),.i c.params,.i c.aZ,ae vO.cs c.ins]])=ae CoD.cs (cs++[c]):=by simp[ae,CoD.cs]
    simp only[ay ht,jv.cs,W8,hj3,Rg,g1,e1,e2,Ur,asl ts j t,aJ (k:=j) (by omega),av,Nat.reduceAdd]
    refine fA.ite (fun _=>⟨_,rfl,bad _⟩) (fun _=> ?_)
    refine Z4 (cs++[c],ts.set j {t with body:=[]}) ⟨by simp[j1],fun y hy=> ?_,by simpa using j3,fun y hy=> ?_⟩
    ·rcases mem_append.1 hy with hy|hy
     ·exact j2 y hy
     ·rcases mem_singleton.1 hy with rfl;exact g2
    ·rcases mem_or_eq_of_mem_set hy with hy|rfl
     ·exact j4 y hy
     ·obtain⟨l1,l2,_,_⟩:=j4 t (aM ht)
      exact⟨l1,l2,by show ax.im []<_;simp[ax.im],trivial⟩
   ·obtain⟨cs,ts⟩:=t
    obtain⟨j1,j2,j3,j4⟩:=hJ
    simp only at j1 j2 j3 j4⊢
    have e1:((((s.map fun x=>Sc.l x.cs)++[Sc.l [.s (bs d.nm),ae fh.cs d.vars,ae oP.cs d.res,ae xg.cs d.cU,ae CO.cs d.kX,am d.fc,am d.cd,am d.de,am d.levels,am d.counts,ae jv.cs ts,ae xB.cs d.starts,ae zC.cs d.laws,ae CoD.cs cs]]).length:Nat):Int)<=429077708400:=by simp;omega
    have e2:Sc.l ((s.map fun x=>Sc.l x.cs)++[Sc.l [.s (bs d.nm),ae fh.cs d.vars,ae oP.cs d.res,ae xg.cs d.cU,ae CO.cs d.kX,am d.fc,am d.cd,am d.de,am d.levels,am d.counts,ae jv.cs ts,ae xB.cs d.starts,ae zC.cs d.laws,ae CoD.cs cs]])=ae ScD.cs (s++[⟨{d with nh:=ts},cs⟩]):=by simp[ae,ScD.cs,dL.cs]
    simp only[Int.lt_irrefl,e1,e2,aJ (k:=i) (by omega),av]
    refine hr (s++[⟨{d with nh:=ts},cs⟩]) ⟨by simp[i1],fun y hy=> ?_⟩
    rcases mem_append.1 hy with hy|hy
    ·exact i2 y hy
    ·rcases mem_singleton.1 hy with rfl
     obtain⟨⟨n1,n2,n3,n4,n5,n6,n7,n8,n9,n10,n11,n12⟩,f2,f3,f4⟩:=azz
     exact⟨⟨⟨⟨n1,n2,n3,n4,n5,n6,n7,n8,n9,by show Lb ts.length;rw[j3];exact n10,n11,n12⟩,f2,j4,f4⟩,hdl⟩,by show cs.length<=16;omega,j2⟩
  ·obtain⟨i1,i2⟩:=hI
   simp only[Int.lt_irrefl,av]
   refine eG (S:=List ArD) (fun i t=>[.i (i:Int),ae ArD.cs t]) (fun i t=>t.length=i) n.iH.length (s:=[]) rfl (by omega) rfl (fun i t CE hi hI2 Z4=> ?_) (fun t CE hI2=> ?_)
   ·obtain⟨x,hx⟩:=aV hi
    have bN:(i:Int)<n.iH.length:=by omega
    have h1:=hix x.from_
    have h2:=hix x.aJL
    have e1:∀a b:Int,((((t.map fun x=>Sc.l x.cs)++[Sc.l [.i a,.i b,.i x.ue]]).length:Nat):Int)<=5864062014805:=fun a b=>by simp;omega
    have e2:∀a b:Int,Sc.l ((t.map fun x=>Sc.l x.cs)++[Sc.l [.i a,.i b,.i x.ue]])=ae ArD.cs (t++[⟨a,b,x.ue⟩]):=fun a b=>by simp[ae,ArD.cs]
    simp only[ay hx,HR.cs,bN,Rh,h1,h2,e1,e2,aJ (k:=i) (by omega),av,Nat.reduceAdd]
    exact Z4 _ (by simp[hI2])
   ·simp only[Int.lt_irrefl,av]
    exact⟨_,rfl,⟨n.nm,s,t⟩,0,rfl,by show s.length<=16;omega,by show t.length<=32;omega,i2⟩
 obtain⟨q,h1,p,z',rfl,h2⟩:=key
 exact⟨p,z',h1,h2⟩
theorem agQ (x:vO) (h:x.lb):tJ.F (x.cs++x.cs)=some [.b true]:=by
 obtain⟨h1,h2,h3,h4,h5,h6⟩:=h
 unfold LB at h3 h5 h6
 have g1:=Jy x.e h1
 have g2:=Jy x.f h2
 have g3:=Yo x.d ⟨by unfold Lb;omega,by unfold Lb;omega⟩
 have g4:=fun(k:aj) (hk:k∈x.args)=>Jy k (h4 k hk)
 rw[aj.aA]at g1 g2
 rw[oO.aA]at g3
 simp only[cons_append,nil_append]at g1 g2 g3
 rw[U4]
 unfold vO.cs
 simp only[yW,NB,NA,g1,g2,av,Nat.reduceAdd]
 refine cu (fun i=>[.i (i:Int)]) x.args.length rfl (by omega) (fun i hi rec=> ?_) (fun rec=> ?_)
 ·obtain⟨k,hk⟩:=aV hi
  have bN:(i:Int)<x.args.length:=by omega
  have g5:=g4 k (aM hk)
  rw[aj.aA]at g5
  simp only[cons_append,nil_append]at g5
  simp only[ay hk,aj.aA k,bN,g5,aJ (k:=i) (by omega),av,Nat.reduceAdd]
 ·simp only[Int.lt_irrefl,g3,av,Nat.reduceAdd]
theorem aiT (c:CoD) (h:c.gd):vF.F (c.cs++c.cs)=some [.b true]:=by
 obtain⟨h1,h2⟩:=h
 rw[Xy]
 unfold CoD.cs
 simp only[AO,av,Nat.reduceAdd]
 refine cu (fun i=>[.i (i:Int)]) c.ins.length rfl (by omega) (fun i hi rec=> ?_) (fun rec=> ?_)
 ·obtain⟨k,hk⟩:=aV hi
  have bN:(i:Int)<c.ins.length:=by omega
  have g5:=agQ k (h2 k (aM hk))
  unfold vO.cs at g5
  simp only[cons_append,nil_append]at g5
  simp only[ay hk,vO.cs,bN,Pm,g5,aJ (k:=i) (by omega),av,Nat.reduceAdd]
 ·simp only[Int.lt_irrefl,av]
theorem aiU (s:ScD) (h:s.gd):vG.F (s.cs++s.cs)=some [.b true]:=by
 obtain⟨⟨h1,h2⟩,h3,h4⟩:=h
 have hw:wd []=([]:Bs):=rfl
 have g1:=akb ⟨[],[],[s.decl],[]⟩ ⟨⟨by unfold Lb;show 0<=_;omega,by unfold Lb;show 1<=_;omega,by unfold Lb;show 0<=_;omega,fun d hd=>by rcases mem_singleton.1 hd with rfl;exact h1⟩,fun d hd=>by rcases mem_singleton.1 hd with rfl;exact h2⟩
 have g1:pe.F [.s (bs []),.l [],.l [.l [.s (bs s.decl.nm),ae fh.cs s.decl.vars,ae oP.cs s.decl.res,ae xg.cs s.decl.cU,ae CO.cs s.decl.kX,am s.decl.fc,am s.decl.cd,am s.decl.de,am s.decl.levels,am s.decl.counts,ae jv.cs s.decl.nh,ae xB.cs s.decl.starts,ae zC.cs s.decl.laws]],.l [],.s (bs []),.l [],.l [.l [.s (bs s.decl.nm),ae fh.cs s.decl.vars,ae oP.cs s.decl.res,ae xg.cs s.decl.cU,ae CO.cs s.decl.kX,am s.decl.fc,am s.decl.cd,am s.decl.de,am s.decl.levels,am s.decl.counts,ae jv.cs s.decl.nh,ae xB.cs s.decl.starts,ae zC.cs s.decl.laws]],.l []]=some [.b true]:=g1
 rw[Xz]
 unfold ScD.cs dL.cs
 simp only[cons_append,nil_append]
 simp only[AP,Ti,g1,hw,av,Nat.reduceAdd]
 refine cu (fun i=>[.i (i:Int)]) s.nh.length rfl (by omega) (fun i hi rec=> ?_) (fun rec=> ?_)
 ·obtain⟨k,hk⟩:=aV hi
  have bN:(i:Int)<s.nh.length:=by omega
  have g5:=aiT k (h4 k (aM hk))
  unfold CoD.cs at g5
  simp only[cons_append,nil_append]at g5
  simp only[ay hk,CoD.cs,bN,Rc,g5,aJ (k:=i) (by omega),av,Nat.reduceAdd]
 ·simp only[Int.lt_irrefl,av]
theorem asu (p:PrD) (h:p.gd):Gc.F (p.cs++p.cs)=some [.b true]:=by
 obtain⟨h1,h2,h3⟩:=h
 have g0:=anb p.iH (by unfold Lb;omega)
 rw[afJ]
 unfold PrD.cs
 simp only[K0,ZS,g0,av,Nat.reduceAdd]
 refine cu (fun i=>[.i (i:Int)]) p.sites.length rfl (by omega) (fun i hi rec=> ?_) (fun rec=> ?_)
 ·obtain⟨k,hk⟩:=aV hi
  have bN:(i:Int)<p.sites.length:=by omega
  have g5:=aiU k (h3 k (aM hk))
  unfold ScD.cs dL.cs at g5
  simp only[cons_append,nil_append]at g5
  simp only[ay hk,ScD.cs,dL.cs,bN,ZR,g5,aJ (k:=i) (by omega),av,Nat.reduceAdd]
 ·simp only[Int.lt_irrefl,av]
theorem ao1:∀(e:aj) (k:Nat),e.sz<=k->e.sz<1000000->∀b:Int,∃z:Int,iY k 36 (e.cs++[.i b])=some [.i z]:=by
 refine aj.ind fun op nm n ks ih k hk hb b=> ?_
 have hs:(aj.mk op nm n ks).sz=1+(ks.map aj.sz).sum:=aj.dR (.mk op nm n ks)
 have hlen:=aj.AG ks
 obtain⟨k,rfl⟩:∃j,k=j+1:=⟨k-1,by omega⟩
 have key:fA (iY (k+1) 36 ((aj.mk op nm n ks).cs++[.i b])) fun r=>∃z:Int,r=[.i z]:=by
  rw[Mf,aj.jN]
  simp only[rb,av,Nat.reduceAdd]
  refine eG (S:=Int) (fun i s=>[.i s,.i (i:Int)]) (fun _ _=>True) ks.length (s:=IntKind.i64.wrap (b-1)) rfl (by omega) trivial (fun i s rec hi _ hr=> ?_) (fun s rec _=> ?_)
  ·obtain⟨x,hx⟩:=aV hi
   have hm:=aM hx
   have TH:=yk (f:=aj.sz) hm
   have bN:(i:Int)<ks.length:=by omega
   obtain⟨z,g⟩:=ih x hm k (by omega) (by omega) s
   rw[aj.aA]at g
   simp only[cons_append,nil_append]at g
   simp only[ay hx,aj.aA x,bN,g,aJ (k:=i) (by omega),av,Nat.reduceAdd]
   refine fA.ite (fun _=>hr z trivial) (fun _=>⟨_,rfl,_,rfl⟩)
  ·simp only[Int.lt_irrefl,av]
   exact⟨_,rfl,_,rfl⟩
 obtain⟨r,h1,z,rfl⟩:=key
 exact⟨z,h1⟩
theorem ao0 {e:aj} (he:e.sz<1000000) (b:Int):∃z:Int,j7.F (e.cs++[.i b])=some [.i z]:=by
 rw[KD]
 exact ao1 e _ (by unfold aF;omega) he b
theorem awp:∀(l:kb) (k:Nat),ax.im l+1<=k->ax.im l<1000000->ax.smL l->∀b:Int,∃z:Int,gv k 11 [ae ax.cs l,.i b]=some [.i z]:=by
 refine ax.X8 fun l ih k hk hb hsm b=> ?_
 obtain⟨k,rfl⟩:∃j,k=j+1:=⟨k-1,by omega⟩
 have hln:=ax.pk l
 have key:fA (gv (k+1) 11 [ae ax.cs l,.i b]) fun r=>∃z:Int,r=[.i z]:=by
  rw[Nz]
  simp only[tv,av,Nat.reduceAdd]
  refine eG (S:=Int) (fun i s=>[.i s,.i (i:Int)]) (fun _ _=>True) l.length (s:=b) rfl (by omega) trivial (fun i s rec hi _ hr=> ?_) (fun s rec _=> ?_)
  ·obtain⟨x,hx⟩:=aV hi
   have hm:=aM hx
   have bN:(i:Int)<l.length:=by omega
   obtain⟨b1,b2⟩:=ax.vw hm
   obtain⟨⟨m1,m2,m3,m4,_⟩,o2,o3⟩:=(ax.Wc x).1 ((ax.Gr l).1 hsm x hm)
   have ihb:=ih x.body b1 k (by omega) (by omega) o2
   have ihe:=ih x.fG b2 k (by omega) (by omega) o3
   obtain⟨E,hEE⟩:∃E,E=x.e::x.f::x.args:=⟨_,rfl⟩
   have hE:∀y∈E,y.sz<1000000:=by
    intro y hy
    rw[hEE]at hy
    rcases mem_cons.1 hy with rfl|hy
    ·exact m1
    ·rcases mem_cons.1 hy with rfl|hy
     ·exact m2
     ·exact m3 y hy
   have hEl:E.length=x.args.length+1+1:=by rw[hEE];rfl
   have eE:Sc.l (Sc.l [Sc.i x.e.op,Sc.s (bs x.e.nm),Sc.i x.e.n,ae aj.cs x.e.ks]::Sc.l [Sc.i x.f.op,Sc.s (bs x.f.nm),Sc.i x.f.n,ae aj.cs x.f.ks]::x.args.map fun y=>Sc.l y.cs)=ae aj.cs E:=by
    rw[hEE];simp[ae,aj.aA x.e,aj.aA x.f]
   have n1:((x.args.length+1+1:Nat):Int)<=2513169434916:=by omega
   simp only[ay hx,ax.aA x,bN,n1,aJ (k:=i) (by omega),av]
   refine fA.ite (fun hs0=> ?_) (fun _=>⟨_,rfl,_,rfl⟩)
   generalize hw:IntKind.i64.wrap (s-1)=w
   simp only[eE,<-hEl]
   by_cases w0:0<=w
   ·obtain⟨zb,gb⟩:=ihb w
    obtain⟨ze,ge⟩:=ihe zb
    refine eG (S:=Unit) (fun j _=>[.i (j:Int)]) (fun _ _=>True) E.length (s:=()) rfl (by omega) trivial (fun j _ CE hj _ Z4=> ?_) (fun _ CE _=> ?_)
    ·obtain⟨y,hy⟩:=aV hj
     have W8:(j:Int)<E.length:=by omega
     obtain⟨z,g⟩:=ao0 (hE y (aM hy)) 60
     rw[aj.aA]at g
     simp only[cons_append,nil_append]at g
     simp only[w0,W8,ay hy,aj.aA y,Ju,g,aJ (k:=j) (by omega),av,Nat.reduceAdd]
     refine fA.ite (fun _=>⟨_,rfl,_,rfl⟩) (fun _=> ?_)
     refine fA.ite (fun _=>⟨_,rfl,_,rfl⟩) (fun _=>Z4 () trivial)
    ·simp only[w0,Int.lt_irrefl,gb,ge,av,Nat.reduceAdd]
     refine fA.ite (fun _=>hr ze trivial) (fun _=>hr zb trivial)
   ·have q0:(0:Int)<(E.length:Int):=by omega
    obtain⟨kk,hkk⟩:∃kk,aF=kk+1:=⟨aF-1,by unfold aF;omega⟩
    rw[hkk,bO]
    simp only[w0,q0,av,Int.reduceLT,reduceLE]
    exact hr w trivial
  ·simp only[Int.lt_irrefl,av]
   exact⟨_,rfl,_,rfl⟩
 obtain⟨r,h1,z,rfl⟩:=key
 exact⟨z,h1⟩
theorem awo {l:kb} (hb:ax.im l<1000000) (hs:ax.smL l) (b:Int):∃z:Int,nR.F [ae ax.cs l,.i b]=some [.i z]:=by
 rw[Mp]
 exact awp l _ (by unfold aF;omega) hb hs b
theorem aoK (m:kL) (hl:m.lb):∃b:Bool,jc.F m.cs=some [.b b]:=by
 obtain⟨h1,h2,h3,h4⟩:=hl
 unfold Lb at h2
 have key:fA (jc.F m.cs) fun r=>∃b:Bool,r=[.b b]:=by
  rw[L7]
  unfold kL.cs
  simp only[pF,av,Nat.reduceAdd]
  refine fA.ite (fun _=>⟨_,rfl,_,rfl⟩) (fun _=> ?_)
  refine fA.ite (fun _=>⟨_,rfl,_,rfl⟩) (fun _=> ?_)
  refine fA.ite (fun _=>⟨_,rfl,_,rfl⟩) (fun _=> ?_)
  refine eG (S:=Int) (fun i s=>[.i s,.i (i:Int)]) (fun _ _=>True) m.sites.length (s:=80) rfl (by omega) trivial (fun i s rec hi _ hr=> ?_) (fun s rec _=> ?_)
  ·obtain⟨d,hd⟩:=aV hi
   have bN:(i:Int)<m.sites.length:=by omega
   obtain⟨hn,_,hrt,_⟩:=h4 d (aM hd)
   have h10:=hn.2.2.2.2.2.2.2.2.2.1
   unfold Lb at h10
   simp only[ay hd,dL.cs,bN,aJ (k:=i) (by omega),av]
   refine fA.ite (fun _=>⟨_,rfl,_,rfl⟩) (fun _=> ?_)
   refine fA.ite (fun _=>⟨_,rfl,_,rfl⟩) (fun _=> ?_)
   refine fA.ite (fun _=>⟨_,rfl,_,rfl⟩) (fun _=> ?_)
   refine fA.ite (fun _=>⟨_,rfl,_,rfl⟩) (fun _=> ?_)
   refine fA.ite (fun _=>⟨_,rfl,_,rfl⟩) (fun _=> ?_)
   refine fA.ite (fun _=>⟨_,rfl,_,rfl⟩) (fun _=> ?_)
   refine fA.ite (fun _=>⟨_,rfl,_,rfl⟩) (fun _=> ?_)
   refine eG (S:=Int) (fun j s=>[.i s,.i (j:Int)]) (fun _ _=>True) d.nh.length (s:=s) rfl (by omega) trivial (fun j t CE hj _ Z4=> ?_) (fun t CE _=> ?_)
   ·obtain⟨r,VQ⟩:=aV hj
    have W8:(j:Int)<d.nh.length:=by omega
    obtain⟨_,_,q1,q2⟩:=hrt r (aM VQ)
    obtain⟨z,g⟩:=awo q1 q2 t
    simp only[ay VQ,jv.cs,W8,Hd,g,aJ (k:=j) (by omega),av,Nat.reduceAdd]
    refine fA.ite (fun _=>⟨_,rfl,_,rfl⟩) (fun _=>Z4 z trivial)
   ·simp only[Int.lt_irrefl,av]
    exact hr t trivial
  ·simp only[Int.lt_irrefl,av]
   exact⟨_,rfl,_,rfl⟩
 obtain⟨r,h1,b,rfl⟩:=key
 exact⟨b,h1⟩
end Go.Proofs.YtlklkgdaegncaaaGreatDoor
