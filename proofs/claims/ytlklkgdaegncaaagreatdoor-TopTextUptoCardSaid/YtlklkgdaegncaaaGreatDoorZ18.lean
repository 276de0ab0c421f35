/-
  A part of the proof of TopText: LQ6, Alive, CkR, J0.
-/
import Derived.Test.YtlklkgdaegncaaaGreatDoorZ14
import Derived.Test.YtlklkgdaegncaaaGreatDoorZ13
import Derived.KernelRfl
import Derived.Test.YtlklkgdaegncaaaGreatDoorZ17
import Derived.Test.YtlklkgdaegncaaaGreatDoorRows
import Derived.JoinedCond
namespace Go.Proofs.YtlklkgdaegncaaaGreatDoor
set_option linter.unusedVariables false
set_option linter.unusedSimpArgs false
set_option linter.unusedSectionVars false
set_option maxRecDepth 20000
set_option maxHeartbeats 8000000
open List
open Nat
open Int
def Ci (ws:xm):Nat:=(ws.map List.length).sum
theorem KH (dp:Nat) (ws:xm):(Dl ⟨dp,ws⟩).length<=dp+Ci ws+ws.length+1:=by
 have h1:=qn ew ws
 have h2:(ew).length=1:=by simp[wd]
 rw[h2]at h1
 unfold Dl
 simp only[length_append,Lib.repeatL_length]
 simp only[wd,length_map,length_cons,length_nil]at h1⊢
 unfold Ci
 omega
def UL (M:Nat) (ls:List Ln):Prop:=∀l∈ls,(Dl l).length<=M
theorem agj {M:Nat}:∀{ls:List Ln},UL M ls->(bF ls).length<=M*ls.length
 |[],_=>by simp[bF]
 |l::r,h=>by
  have h1:=h l (by simp)
  have h2:=agj (M:=M) (ls:=r) fun x hx=>h x (by simp[hx])
  rw[lR,length_append,length_cons,Nat.mul_add]
  omega
theorem UL.app {M:Nat}{a b:List Ln} (h1:UL M a) (h2:UL M b):UL M (a++b):=fun l hl=>(mem_append.1 hl).elim (h1 l) (h2 l)
theorem UL.cons {M:Nat}{a:Ln}{b:List Ln} (h1:(Dl a).length<=M) (h2:UL M b):UL M (a::b):=fun l hl=>by
 rcases mem_cons.1 hl with rfl|hl
 ·exact h1
 ·exact h2 l hl
theorem UL.nil {M:Nat}:UL M []:=fun l hl=>by cases hl
theorem wR {α:Type}{f:α->List Ln}{N:Nat}:∀{xs:List α},(∀x∈xs,(f x).length<=N)->(bi f xs).length<=N*xs.length
 |[],_=>by simp[bi]
 |x::r,h=>by
  have h1:=h x (by simp)
  have h2:=wR (f:=f) (N:=N) (xs:=r) fun y hy=>h y (by simp[hy])
  have:bi f (x::r)=f x++bi f r:=by simp[bi]
  rw[this,length_append,length_cons,Nat.mul_add]
  omega
theorem UL.of {α:Type}{f:α->List Ln}{M:Nat}{xs:List α} (h:∀x∈xs,UL M (f x)):UL M (bi f xs):=fun l hl=>by
 unfold bi at hl
 obtain⟨a,h1,h2⟩:=mem_flatten.1 hl
 obtain⟨x,hx,rfl⟩:=mem_map.1 h1
 exact h x hx l h2
theorem adz (d:oO) (h:d.ok):d.tx.length<=1000:=by
 obtain⟨h0,_⟩:=h
 unfold oO.ok0 at h0
 unfold oO.tx
 rcases h0 with⟨e,-,-,-,-,ha⟩|⟨e,-,-,-,ha,hb,-⟩|⟨e,-,-,-,ha,hb⟩|⟨e,-,-,hn,ha,hb,-⟩|⟨e,-,-,-,hl,h1,h2,hv,hw⟩
 ·have:=uK d.a (ha.i64 (by decide) (by decide))
  simp only[e,if_true,length_append];simp only[wd,length_map,length_cons,length_nil];omega
 ·have:=uK d.a (ha.i64 (by decide) (by decide))
  have:=uK d.b (hb.i64 (by decide) (by decide))
  simp only[e,reduceEq,if_true,if_false,length_append];simp only[wd,length_map,length_cons,length_nil];omega
 ·have:=uK d.a (ha.i64 (by decide) (by decide))
  have:=uK d.b (hb.i64 (by decide) (by decide))
  simp only[e,reduceEq,if_true,if_false,length_append];simp only[wd,length_map,length_cons,length_nil];omega
 ·have:=uK d.a (ha.i64 (by decide) (by decide))
  have:=uK d.b (hb.i64 (by decide) (by decide))
  have:=uK d.n (hn.i64 (by decide) (by decide))
  simp only[e,reduceEq,if_true,if_false,length_append];simp only[wd,length_map,length_cons,length_nil];omega
 ·have t:=aaN d.vs d.ws d.vs.length (fun v hx=>(hv v hx).i64 (by decide) (by decide)) (fun v hx=>(hw v hx).i64 (by decide) (by decide))
  rw[take_length,take_of_length_le (by omega)]at t
  simp only[e,reduceEq,if_false,length_append];simp only[wd,length_map,length_cons,length_nil];omega
theorem akM (l:i7) (h:∀x∈l,x.ok/\x.sz<=60) (hl:l.length<=6):(SG l).length<=15000:=by
 have h1:=qn j9 (l.map aj.tx)
 have h2:=ac7 l h
 have h2l:(j9).length=2:=by simp[wd]
 rw[h2l,length_map]at h1
 unfold SG
 simp only[length_append];simp only[wd,length_map,length_cons,length_nil]at h1⊢
 omega
theorem asD (s:ax) (h:s.okN) (dp:Nat) (hd:dp<=1000):s.op≠3->s.op≠4->(Dl ⟨dp,Yf s.op s.nm s.pm s.e s.f s.args s.d s.flag⟩).length<=40000:=by
 intro n3 n4
 obtain⟨u,hu,hf,p1,p2,p3,p4,p5,p6,p7⟩:=h
 have hr:=xd hu
 have hn:s.nm.length<=24:=by
  rcases hf.1 with h|h
  ·exact dF (p1 h)
  ·rw[h];simp
 have ho:s.pm.length<=24:=by
  rcases hf.2.1 with h|h
  ·exact dF (p2 h)
  ·rw[h];simp
 have he:u.e=true->s.e.tx.length<=2400:=fun h=>by have:=RV s.e (p3 h).1;have:=(p3 h).2;omega
 have hff:u.f=true->s.f.tx.length<=2400:=fun h=>by have:=RV s.f (p4 h).1;have:=(p4 h).2;omega
 have hd2:u.d=true->s.d.tx.length<=1000:=fun h=>adz s.d (p7 h)
 have ha:=akM s.args p6 p5
 have hl:=KH dp (Yf s.op s.nm s.pm s.e s.f s.args s.d s.flag)
 suffices hw:Ci (Yf s.op s.nm s.pm s.e s.f s.args s.d s.flag)<=30000/\(Yf s.op s.nm s.pm s.e s.f s.args s.d s.flag).length<=6 by omega
 clear hl
 generalize s.op=op at*
 rcases(by omega:op=1\/op=2\/op=5\/op=6\/op=7\/op=8\/op=9\/op=10\/op=11\/op=12\/op=13\/op=14\/op=15\/op=16\/op=17\/op=18)with rfl|rfl|rfl|rfl|rfl|rfl|rfl|rfl|rfl|rfl|rfl|rfl|rfl|rfl|rfl|rfl
 all_goals simp only[Dr,reduceEq,if_true,if_false,Option.some.injEq]at hu
 all_goals subst hu
 all_goals simp only[Yf,reduceEq,if_true,if_false,forall_const,Bool.false_eq_true,false_imp_iff]at*
 all_goals first|(split<;>(unfold Ci;simp only[map_cons,map_nil,sum_cons,sum_nil,length_cons,length_nil];simp only[wd,length_map,length_cons,length_nil];omega))|(unfold Ci;simp only[map_cons,map_nil,sum_cons,sum_nil,length_append,length_cons,length_nil];simp only[wd,length_map,length_cons,length_nil];omega)
theorem ar1:∀(l:kb) (dp:Nat),dp+ax.im l<=1000->ax.R1 l->UL 40000 (ax.vY dp l)/\(ax.vY dp l).length<=3*ax.im l:=by
 refine ax.X8 fun l ih dp hd dI=> ?_
 have key:∀x∈l,UL 40000 (x.ln dp)/\(x.ln dp).length<=3*x.sz:=by
  intro x hx
  obtain⟨o1,o2,o3⟩:=(ax.vZ x).1 ((ax.vJ l).1 dI x hx)
  obtain⟨b1,b2⟩:=ax.vw hx
  obtain⟨m1,m2⟩:=ih x.body b1 (dp+1) (by omega) o2
  obtain⟨m3,m4⟩:=ih x.fG b2 (dp+1) (by omega) o3
  have hs:=ax.dR x
  rw[ax.aoL]
  unfold stN
  have w1:∀w:Bs,w.length<=10->(Dl ⟨dp,[w]⟩).length<=40000:=fun w hw=>by
   have:=KH dp [w]
   simp[Ci]at this
   omega
  have blk:∀word:Bs,word.length<=10->x.e.ok/\x.e.sz<=60->UL 40000 (UU dp word x.e (ax.vY (dp+1) x.body) x.fG.isEmpty (ax.vY (dp+1) x.fG))/\(UU dp word x.e (ax.vY (dp+1) x.body) x.fG.isEmpty (ax.vY (dp+1) x.fG)).length<=3*x.sz:=by
   intro word hw he
   have w2:(Dl ⟨dp,[word,x.e.tx]⟩).length<=40000:=by
    have:=KH dp [word,x.e.tx]
    have:=RV x.e he.1
    have:=he.2
    simp[Ci]at*
    omega
   unfold UU
   split
   ·refine⟨.cons w2 (m1.app (.cons (w1 _ (by simp[wd])) .nil)),?_⟩
    simp only[length_cons,length_append,length_nil]
    omega
   ·rename_i rP
    have:x.fG≠[]:=by simpa using rP
    have h1:1<=ax.im x.fG:=by
     have:=ax.pk x.fG
     have:=length_pos_iff.2 ‹x.fG≠[]›
     omega
    refine⟨.cons w2 (m1.app (.cons (w1 _ (by simp[wd])) (m3.app (.cons (w1 _ (by simp[wd])) .nil)))),?_⟩
    simp only[length_cons,length_append,length_nil]
    omega
  have hp:(x.op=3\/x.op=4)->x.e.ok/\x.e.sz<=60:=by
   intro h
   obtain⟨u,hu,hf,p1,p2,p3,_⟩:=o1
   refine p3 ?_
   rcases h with h|h<;>(rw[h]at hu;simp only[Dr,reduceEq,if_true,if_false,Option.some.injEq]at hu;subst hu;rfl)
  split
  ·exact blk _ (by simp[wd]) (hp (.inl ‹_›))
  ·split
   ·exact blk _ (by simp[wd]) (hp (.inr ‹_›))
   ·refine⟨.cons (asD x o1 dp (by omega) ‹_› ‹_›) .nil,?_⟩
    simp only[length_cons,length_nil]
    omega
 have fin:∀r:kb,(∀x∈r,UL 40000 (x.ln dp)/\(x.ln dp).length<=3*x.sz)->UL 40000 (ax.vY dp r)/\(ax.vY dp r).length<=3*ax.im r:=by
  intro r
  induction r with
  |nil=>intro _;exact⟨by rw[ax.vY];exact .nil,by simp[ax.vY]⟩
  |cons x r ih=>
   intro h
   obtain⟨h1,h2⟩:=h x (by simp)
   obtain⟨h3,h4⟩:=ih fun y hy=>h y (by simp[hy])
   rw[ax.vY,ax.im]
   refine⟨h1.app h3,?_⟩
   rw[length_append]
   omega
 exact fin l key
theorem qf {M:Nat}{dp:Nat}{ws:xm} (h:dp+Ci ws+ws.length+1<=M):UL M [⟨dp,ws⟩]:= .cons (Nat.le_trans (KH dp ws) h) .nil
theorem awg (t:Int):(kD t).length<=4:=Jj t
theorem awL (t:Int):(rJ t).length<=5:=by unfold rJ;repeat' split
                                         all_goals simp[wd]
theorem ahc (w:Bs) (hw:w.length<=10) (v:fh) (h:v.ok) (dp:Nat) (hd:dp<=10):UL 40000 [⟨dp,My w v⟩]:=by
 refine qf ?_
 have h1:=dF h.1
 have h2:=awg v.ty
 have h3:=RW v.ty v.n h.2.2.i64
 unfold Ci My
 simp only[map_cons,map_nil,sum_cons,sum_nil,length_cons,length_nil];simp only[wd,length_map,length_cons,length_nil]
 omega
theorem apy (d:dL) (r:oP) (h:r.ok d) (hs:∀x∈d.cd,Name x):UL 40000 [⟨2,PA r⟩]:=by
 refine qf ?_
 obtain⟨h1,h2,h3,h4⟩:=h
 have a1:=dF h1
 have a2:=uK r.gU (h2.i64 (by decide) (by decide))
 have key:Ci (QC r)<=2000/\(QC r).length<=100:=by
  unfold oP.sched at h3
  unfold QC
  rcases h3 with⟨s1,s2⟩|⟨s1,s2,s3,s4⟩
  ·rw[if_pos s1]
   unfold Ci
   simp only[map_cons,map_nil,sum_cons,sum_nil,length_cons,length_nil];simp only[wd,length_map,length_cons,length_nil]
   omega
  ·rw[if_neg s1]
   have a3:=uK r.oh (s3.i64 (by decide) (by decide))
   have q:∀l:List QQ,(∀c∈l,(chB c).length<=43)->((l.map chB).map List.length).sum<=43*l.length:=by
    intro l
    induction l with
    |nil=>intro _;simp
    |cons a r ih=>
     intro h
     have h1:=h a (by simp)
     have h2:=ih fun k hk=>h k (by simp[hk])
     simp only[map_cons,sum_cons,length_cons]
     omega
   have q2:=q r.shift fun c hc=>by
    obtain⟨c1,c2⟩:=s4 c hc
    have b1:=uK c.at_ (by unfold vg at c1 s3;unfold I64;omega)
    have b2:=uK c.gU (c2.i64 (by decide) (by decide))
    simp only[chB,length_append];simp only[wd,length_map,length_cons,length_nil]
    omega
   unfold Ci
   simp only[map_append,sum_append,length_append,map_cons,map_nil,sum_cons,sum_nil,length_cons,length_nil];simp only[wd,length_map,length_cons,length_nil]at q2⊢
   omega
 unfold PA
 split
 ·omega
 ·rename_i rP
  unfold oP.fault at h4
  rcases h4 with⟨h,_⟩|⟨_,f1,f2,f3⟩
  ·exact absurd h rP
  ·have b1:=dF (hs _ f1)
   have b2:=adz _ f2
   have b3:=adz _ f3
   unfold Ci at key⊢
   simp only[map_append,sum_append,length_append,map_cons,map_nil,sum_cons,sum_nil,length_cons,length_nil];simp only[wd,length_map,length_cons,length_nil]
   omega
theorem akn (r:jv) (hn:Name r.nm) (h:r.ok):UL 40000 (roL 2 r)/\(roL 2 r).length<=700:=by
 obtain⟨h1,h2,h3,h4,h5⟩:=h
 have a1:=dF hn
 obtain⟨m1,m2⟩:=ar1 r.body (2+1) (by omega) h4
 have hl:r.locals.length<=16:=by omega
 have avv:∀f∈r.params,(Ys f).length<=29:=fun f hf=>by
  have a:=dF (h3 f (mem_append_left _ hf)).1
  have b:=Jj f.ty
  simp only[Ys,length_append];simp only[wd,length_map,length_cons,length_nil];omega
 have avy:∀l:List io,(∀f∈l,(Ys f).length<=29)->((l.map Ys).map List.length).sum<=29*l.length:=by
  intro l
  induction l with
  |nil=>intro _;simp
  |cons a r ih=>
   intro h
   have h1:=h a (by simp)
   have h2:=ih fun k hk=>h k (by simp[hk])
   simp only[map_cons,sum_cons,length_cons]
   omega
 have hj1:=qn j9 (r.params.map Ys)
 have hj2:=avy r.params avv
 have h2l:(j9).length=2:=by simp[wd]
 rw[h2l,length_map]at hj1
 unfold roL
 constructor
 ·refine .cons ?_ (.app (.of fun f hf=>qf ?_) (.app m1 (qf ?_)))
  ·have:=KH 2 [Fe,r.nm,(cI++dE (r.params.map Ys) j9)++cj]
   unfold Ci at this
   simp only[map_cons,map_nil,sum_cons,sum_nil,length_append,length_cons,length_nil]at this⊢;simp only[wd,length_map,length_cons,length_nil]at this hj1⊢
   omega
  ·have a:=dF (h3 f (mem_append_right _ hf)).1
   have b:=Jj f.ty
   unfold Ci
   simp only[map_cons,map_nil,sum_cons,sum_nil,length_cons,length_nil];simp only[wd,length_map,length_cons,length_nil]
   omega
  ·unfold Ci
   simp only[map_cons,map_nil,sum_cons,sum_nil,length_cons,length_nil];simp only[wd,length_map,length_cons,length_nil]
   omega
 ·have:=wR (f:=fun f:io=>[(⟨2+1,[PC,f.nm,kD f.ty]⟩:Ln)]) (N:=1) (xs:=r.locals) (fun x _=>by simp)
  simp only[length_cons,length_append,length_nil]
  omega
theorem ast (d:dL) (hd:d.ok) (s:xB) (h:s.ok d):UL 40000 [⟨2,saW (rI d s.rt) s⟩]:=by
 refine qf ?_
 obtain⟨⟨j,r,e1,e2,e3,e4,e5⟩,h2,h3,h4,h5⟩:=h
 rw[T8 e1 e2]
 have hn:=dF (hd.t r (aM e2)).1
 rw[e3]at hn
 have pK:=(hd.t r (aM e2)).2.1
 have a1:=uK s.at_ (h2.i64 (by decide) (by decide))
 have a2:=uK s.every (h3.i64 (by decide) (by decide))
 have a3:=uK s.til (h4.i64 (by decide) (by decide))
 have key:∀(ps:List io) (ns:uD),(∀(i:Nat) (f:io) (n:Int),ps[i]? =some f->ns[i]? =some n->z8 f.ty n)->((ik ps ns).map List.length).sum<=21*ns.length:=by
  intro ps
  induction ps with
  |nil=>intro ns _;simp[ik]
  |cons f ps ih=>
   intro ns h
   cases ns with
   |nil=>simp[ik]
   |cons n ns=>
    have h1:=ih ns fun i f' n' a b=>h (i+1) f' n' (by simpa using a) (by simpa using b)
    have h2:=RW f.ty n (h 0 f n (by simp) (by simp)).i64
    simp only[ik,zipWith_cons_cons,map_cons,sum_cons,length_cons]at h1⊢
    omega
 have k1:=key r.params s.args e5
 have zl:(ik r.params s.args).length=s.args.length:=by unfold ik;rw[length_zipWith];omega
 have hj1:=qn j9 (ik r.params s.args)
 have h2l:(j9).length=2:=by simp[wd]
 rw[h2l,zl]at hj1
 unfold saW Ci
 split<;>(simp only[map_cons,map_nil,sum_cons,sum_nil,length_append,length_cons,length_nil];simp only[wd,length_map,length_cons,length_nil]at hj1⊢;omega)
theorem arX (d:dL) (hd:d.ok) (l:zC) (h:l.ok d):UL 40000 [⟨2,laW l⟩]:=by
 refine qf ?_
 obtain⟨h1,h2,h3,h4,h5⟩:=h
 have a1:=dF h1
 have a2:=uK l.total h5.i64
 have tl:=aaQ l.dK l.dK.length (Nat.le_refl _)
 rw[take_length]at tl
 have one:∀t∈l.dK,∀b,((teW b t).map List.length).sum<=80:=by
  intro t ht b
  obtain⟨t1,t2,t3,t4⟩:=h4 t ht
  have w1:t.what.length<=10:=by
   unfold aaS at t1
   simp only[mem_cons,not_mem_nil,or_false]at t1
   rcases t1 with h|h|h|h|h|h|h<;>(rw[h];simp[wd])
  have w2:t.nm.length<=24:=by
   rcases t2 with⟨r,hr,e⟩|⟨r,hr,e⟩|hr
   ·rw[<-e];exact dF (hd.t r hr).1
   ·rw[<-e];exact dF (hd.s r hr).1
   ·exact dF (hd.n5 _ hr)
  have w3:=uK t.jM (t3.i64 (by decide) (by decide))
  have w4:=uK (0-t.jM) (by unfold vg at t3;unfold I64;omega)
  unfold teW
  cases b<;>(simp only;repeat' split)
  all_goals(simp only[map_append,sum_append,map_cons,map_nil,sum_cons,sum_nil,length_append];simp only[wd,length_map,length_cons,length_nil];try omega)
  all_goals(repeat' split)
  all_goals(simp only[length_map,length_cons,length_nil];omega)
 have tot:∀i,i<=l.dK.length->((Wj (l.dK.take i)).map List.length).sum<=80*i:=by
  intro i
  induction i with
  |zero=>intro _;simp[Wj]
  |succ i ih=>
   intro hi
   obtain⟨t,ht⟩:=aV (xs:=l.dK) (i:=i) (by omega)
   rw[Wk ht,map_append,sum_append]
   have:=ih (by omega)
   have:=one t (aM ht) (decide (i=0))
   omega
 have t2:=tot l.dK.length (Nat.le_refl _)
 rw[take_length]at t2
 unfold laW Ci
 simp only[map_append,sum_append,length_append,map_cons,map_nil,sum_cons,sum_nil,length_cons,length_nil];simp only[wd,length_map,length_cons,length_nil]
 omega
theorem agu {w:Bs} (hw:w.length<=10){xs:xm} (h:∀x∈xs,Name x):UL 40000 (OV w xs):= .of fun x hx=>qf (by
 have:=dF (h x hx)
 unfold Ci
 simp only[map_cons,map_nil,sum_cons,sum_nil,length_cons,length_nil]
 omega)
theorem ac1 (d:dL) (hn:Name d.nm) (hd:d.ok):UL 40000 (Cd d)/\(Cd d).length<=20000:=by
 have hn:=dF hn
 have T3:∀{α:Type} (f:α->Ln) (xs:List α),(bi (fun x=>[f x]) xs).length<=xs.length:=fun f xs=>by
  have:=wR (f:=fun x=>[f x]) (N:=1) (xs:=xs) fun x _=>by simp
  omega
 unfold Cd
 constructor
 ·refine .cons ?_ (.app (.of fun v hv=>ahc _ (by simp[wd]) v (hd.v v hv) 2 (by omega)) (.app (.of fun r hr=>apy d r (hd.r r hr) hd.n2) (.app (.of fun x hx=>qf ?_) (.app (.of fun x hx=>qf ?_) (.app (agu (by simp[wd]) hd.n1) (.app (agu (by simp[wd]) hd.n2) (.app (agu (by simp[wd]) hd.n3) (.app (agu (by simp[wd]) hd.n4) (.app (agu (by simp[wd]) hd.n5) (.app (.of fun r hr=>(akn r (hd.t r hr).1 (hd.t r hr).2).1) (.app (.of fun s hs=>ast d hd s (hd.a s hs)) (.app (.of fun l hl=>arX d hd l (hd.l l hl)) (qf ?_)))))))))))))
  ·have:=KH 1 [Ox,d.nm]
   unfold Ci at this
   simp only[map_cons,map_nil,sum_cons,sum_nil,length_cons,length_nil]at this;simp only[wd,length_map,length_cons,length_nil]at this⊢
   omega
  ·obtain⟨h1,h2,h3⟩:=hd.s x hx
   have a1:=dF h1
   have a2:=uK x.room (h2.i64 (by decide) (by decide))
   have a3:=awL x.KN
   unfold Ci soW
   simp only[map_cons,map_nil,sum_cons,sum_nil,length_cons,length_nil];simp only[wd,length_map,length_cons,length_nil]
   omega
  ·obtain⟨h1,h2,h3⟩:=hd.b x hx
   have a1:=dF h1
   have a2:=uK x.length (h2.i64 (by decide) (by decide))
   have a3:=uK x.step (h3.i64 (by decide) (by decide))
   unfold Ci beW
   simp only[map_cons,map_nil,sum_cons,sum_nil,length_cons,length_nil];simp only[wd,length_map,length_cons,length_nil]
   omega
  ·unfold Ci
   simp only[map_cons,map_nil,sum_cons,sum_nil,length_cons,length_nil];simp only[wd,length_map,length_cons,length_nil]
   omega
 ·have t:=wR (f:=roL 2) (N:=700) (xs:=d.nh) fun r hr=>(akn r (hd.t r hr).1 (hd.t r hr).2).2
  have c1:=T3 (fun v=>(⟨2,My AZ v⟩:Ln)) d.vars
  have c2:=T3 (fun r=>(⟨2,PA r⟩:Ln)) d.res
  have c3:=T3 (fun x=>(⟨2,soW x⟩:Ln)) d.cU
  have c4:=T3 (fun x=>(⟨2,beW x⟩:Ln)) d.kX
  have c5:=fun w=>T3 (fun v=>(⟨2,[w,v]⟩:Ln)) d.fc
  have c6:=fun w=>T3 (fun v=>(⟨2,[w,v]⟩:Ln)) d.cd
  have c7:=fun w=>T3 (fun v=>(⟨2,[w,v]⟩:Ln)) d.de
  have c8:=fun w=>T3 (fun v=>(⟨2,[w,v]⟩:Ln)) d.levels
  have c9:=fun w=>T3 (fun v=>(⟨2,[w,v]⟩:Ln)) d.counts
  have GF:=T3 (fun s=>(⟨2,saW (rI d s.rt) s⟩:Ln)) d.starts
  have GG:=T3 (fun l=>(⟨2,laW l⟩:Ln)) d.laws
  have c5:=c5 Ww
  have c6:=c6 PD
  have c7:=c7 RY
  have c8:=c8 La
  have c9:=c9 Wu
  have b1:=hd.vl
  have b2:=hd.rl
  have b3:=hd.sl
  have b4:=hd.bl
  have b5:=hd.l1
  have b6:=hd.l2
  have b7:=hd.l3
  have b8:=hd.l4
  have b9:=hd.l5
  have b10:=hd.tl
  have b11:=hd.al
  have b12:=hd.ll
  simp only[length_cons,length_append,length_nil]
  unfold siV siR siS siB OV siT siA siL
  omega
theorem ar7 (m:kL) (hm:m.ok):m.tx.length<=Yl:=by
 have hn:=dF hm.nm
 have T3:∀{α:Type} (f:α->Ln) (xs:List α),(bi (fun x=>[f x]) xs).length<=xs.length:=fun f xs=>by
  have:=wR (f:=fun x=>[f x]) (N:=1) (xs:=xs) fun x _=>by simp
  omega
 have h1:UL 40000 (moL m):=by
  unfold moL
  refine .cons ?_ (.app (.of fun v hv=>ahc _ (by simp[wd]) v (hm.p v hv) 1 (by omega)) (.app (.of fun l hl=>qf ?_) (.app (.of fun d hd=>(ac1 d (hm.s d hd).1 (hm.s d hd).2).1) (qf ?_))))
  ·have:=KH 0 [Yj,m.nm]
   unfold Ci at this
   simp only[map_cons,map_nil,sum_cons,sum_nil,length_cons,length_nil]at this;simp only[wd,length_map,length_cons,length_nil]at this⊢
   omega
  ·obtain⟨⟨s1,q1,e1⟩,⟨s2,q2,e2⟩,q3⟩:=hm.l l hl
   have a1:=dF (hm.s s1 q1).1
   have a2:=dF (hm.s s2 q2).1
   rw[e1]at a1
   rw[e2]at a2
   have a3:=uK l.ue (q3.i64 (by decide) (by decide))
   unfold Ci
   simp only[map_cons,map_nil,sum_cons,sum_nil,length_cons,length_nil];simp only[wd,length_map,length_cons,length_nil]
   omega
  ·unfold Ci
   simp only[map_cons,map_nil,sum_cons,sum_nil,length_cons,length_nil];simp only[wd,length_map,length_cons,length_nil]
   omega
 have h2:(moL m).length<=400000:=by
  have c1:=T3 (fun v=>(⟨1,My Lc v⟩:Ln)) m.params
  have c2:=T3 (fun l:HR=>(⟨1,[MB,l.from_,l.aJL,bQ l.ue]⟩:Ln)) m.iH
  have c3:=wR (f:=Cd) (N:=20000) (xs:=m.sites) fun d hd=>(ac1 d (hm.s d hd).1 (hm.s d hd).2).2
  have b1:=hm.pl
  have b2:=hm.sl
  have b3:=hm.ll
  unfold moL
  simp only[length_cons,length_append,length_nil]
  omega
 have:=agj h1
 unfold kL.tx Yl
 omega
theorem akH:pj.F []=some [.b true]:=by kernel_rfl
theorem alD (m:kL){z:Int} (hc:fQ.F m.cs=some [.i z]) (hz:z≠0):qu.F m.cs=some [.s (bs []),.i z]:=by
 have hw:wd []=([]:Bs):=rfl
 rw[Qm]
 unfold kL.cs at*
 simp only[za,I0,hc,hz,hw,av,Nat.reduceAdd]
theorem atx {Γ:Nat->fF}{a b c d:Sc}{q:Bool} (ga:Γ 5 []=some [.b true]) (g1:Γ 4 [a,b,c,d]=some [.b q])
 (hb:(∃t z,z≠0/\Γ 6 [a,b,c,d]=some [t,.i z])\/(∃t,Γ 6 [a,b,c,d]=some [t,.i 0]/\Γ 7 [t]=some [a,b,c,d,.i 0,.i 0]/\Γ 8 [a,b,c,d,a,b,c,d]=some [.b true]/\∃p1 p2 p3 y,Γ 9 [a,b,c,d]=some [p1,p2,p3,.i y]/\Γ 10 [p1,p2,p3,p1,p2,p3]=some [.b true])):
 eY.bR Γ [a,b,c,d] []=some [.b true]:=by
 cases q with
 |false=>simp only[eY,g1,ga,av,Nat.reduceAdd]
 |true=>
  rcases hb with⟨t,z,hz,g2⟩|⟨t,g2,g3,g4,p1,p2,p3,y,g5,g6⟩
  ·simp only[eY,g1,g2,hz,ga,av,Nat.reduceAdd]
  ·simp only[eY,g1,g2,g3,g4,g5,g6,ga,av,Nat.reduceAdd]
theorem amd (m:kL) (hl:m.lb2):pi.F m.cs=some [.b true]:=by
 obtain⟨b,g1⟩:=aoK m hl.1
 obtain⟨z,g2,f2⟩:=agq m hl.1
 rw[J6,if_pos (show m.cs.length=4 from rfl)]
 refine atx (q:=b) (by rw[G8];exact akH) (by rw[G7];exact g1) ?_
 rw[G9,Ha,Hb,Hc,Fw]
 by_cases hz:z=0
 ·have hm:=f2 hz
  rw[hz]at g2
  have g3:=asi m hm hl.1 g2 (ar7 m hm)
  by_cases hlen:20000<m.tx.length
  ·rw[if_pos hlen]at g3
   exact .inl ⟨_,6,by decide,g3⟩
  ·rw[if_neg hlen]at g3
   have g4:=ape m hm g2 (by omega)
   have g5:=akb m hl
   obtain⟨p,y,g6,hp⟩:=am1 m hl
   have g7:=asu p hp
   exact .inr ⟨_,g3,g4,g5,_,_,_,y,g6,g7⟩
 ·exact .inl ⟨_,z,hz,alD m g2 hz⟩
section
open Go
noncomputable abbrev jP:=Tryz.pinned.checked.prog
noncomputable abbrev jR:=Rows.topTextUptoRow
noncomputable abbrev jF:=Tryz.f3
noncomputable abbrev jS:=(Rows.OpenSpec.upto Rows.topTextSpec).bare
noncomputable abbrev jT:=jF.params.toList++jS.plain.varTypes jP
noncomputable abbrev jU:=jF.params.toList++jS.plain.varTypes jP++jF.resultTypes.toList
end
end Go.Proofs.YtlklkgdaegncaaaGreatDoor
