/-
  A part of the proof of TopText: PJ, PK, PL, PM, PN, CkA, CkB, CkC.
-/
import Derived.Test.YtlklkgdaegncaaaGreatDoorZ15
namespace Go.Proofs.YtlklkgdaegncaaaGreatDoor
set_option linter.unusedVariables false
set_option linter.unusedSimpArgs false
set_option linter.unusedSectionVars false
set_option maxRecDepth 20000
set_option maxHeartbeats 8000000
open List
open Nat
open Int
section
section
variable {L:pO}
theorem cF.len {p q:Nat}{ts:ba} (h:cF L p ts) (e:p=q):cF L q ts:=e▸h
theorem acu:∀(cs:List QQ) (c:QQ) (k p:Nat) (done:List QQ) (rest:aP) (u x:ff) (r:ba),rest.length=16->cs.length<k->done.length+cs.length<100000->cF L p (aK chT (c::cs)++u::x::r)->u.kind≠2->
 cP k 235000233 (ae QQ.cs done::TK L:: .i (p:Int)::rest)=some [ae QQ.cs (done++c::cs),.i ((p+(aK chT (c::cs)).length:Nat):Int)]
 |cs,c,k,p,done,rest,u,x,r,h16,hk,ha,h,hu=>by
  obtain⟨k,rfl⟩:∃j,k=j+1:=⟨k-1,by omega⟩
  obtain⟨a1,a2,a3,a4,a5,a6,a7,a8,a9,a10,a11,a12,a13,a14,a15,a16,rfl⟩:∃a1 a2 a3 a4 a5 a6 a7 a8 a9 a10 a11 a12 a13 a14 a15 a16,rest=[a1,a2,a3,a4,a5,a6,a7,a8,a9,a10,a11,a12,a13,a14,a15,a16]:=by
   rcases rest with _|⟨a1,_|⟨a2,_|⟨a3,_|⟨a4,_|⟨a5,_|⟨a6,_|⟨a7,_|⟨a8,_|⟨a9,_|⟨a10,_|⟨a11,_|⟨a12,_|⟨a13,_|⟨a14,_|⟨a15,_|⟨a16,_|⟨a17,q⟩⟩⟩⟩⟩⟩⟩⟩⟩⟩⟩⟩⟩⟩⟩⟩⟩<;>simp at h16
   exact⟨_,_,_,_,_,_,_,_,_,_,_,_,_,_,_,_,rfl⟩
  have e1:((((done.map fun x=>Sc.l x.cs)++[Sc.l [Sc.i c.at_,Sc.i c.gU]]).length:Nat):Int)<=8796093022208:=by simp;omega
  have f1:Sc.l ((done.map fun x=>Sc.l x.cs)++[Sc.l [Sc.i c.at_,Sc.i c.gU]])=ae QQ.cs (done++[c]):=by simp[ae,QQ.cs]
  have h0:cF L p (nT c.at_::sT nt::nT c.gU::(aK chT cs++u::x::r)):=by simpa[aK,chT]using h
  cases cs with
  |nil=>
   have h0:cF L p (nT c.at_::sT nt::nT c.gU::u::x::r):=by simpa[aK]using h0
   have g1:=dh h0
   have g2:=dk h0.step nt (by decide)
   have g3:=dh h0.step.step
   obtain⟨line,g4⟩:=EP h0.step.step.step
   rw[su]
   simp only[iK,oU,oT,oF,g1,g2,g3,g4,f1,hu,av,Nat.reduceAdd]
   simp[aK,chT]
   omega
  |cons c2 cs=>
   have ht:aK chT (c2::cs)++u::x::r=nT c2.at_::sT nt::nT c2.gU::(aK chT cs++u::x::r):=by simp[aK,chT]
   have h':=h0
   rw[ht]at h'
   have g1:=dh h'
   have g2:=dk h'.step nt (by decide)
   have g3:=dh h'.step.step
   obtain⟨line,g4⟩:=EP h'.step.step.step
   simp only[nT]at g4
   have ih:=acu cs c2 k (p+1+1+1) (done++[c]) [a1,a2,a3,a4,a5,a6,a7,a8,a9,a10,a11,a12,a13,a14,a15,a16] u x r rfl (by simp at hk;omega) (by simp at ha⊢;omega) h0.step.step.step hu
   rw[su]
   simp only[iK,oU,oT,oF,g1,g2,g3,g4,f1,ih,av,Nat.reduceAdd]
   rw[K7 chT c]
   simp[chT]
   omega
theorem ag7 {d:oO} (hd:d.ok):∃t q,d.tk=t::q:=by
 have:=(Zs d hd).2.1
 cases hc:d.tk with
 |nil=>exact absurd hc this
 |cons a b=>exact⟨a,b,rfl⟩
theorem aiK {d:dL}{x:oP} (hx:x.ok d) (X7:∀w∈d.cd,Name w){p:Nat}{v:ff}{r:ba} (h:cF L p (wT x.nm::nT x.gU::(Py x++Cc x)++dS::v::r)):
 kp.F [TK L,.i (p:Int)]=some (x.cs++[.i ((p+2+(Py x++Cc x).length:Nat):Int)]):=by
 obtain⟨hnm,hun,hs,hf⟩:=hx
 have FE:wd []=([]:Bs):=rfl
 obtain⟨y1,y2,y3,y4,y5,y6⟩:=diz
 rw[oP.aA]
 have fail:∀q,cF L q (Cc x++dS::v::r)->∃b:Bool,aw.F [TK L,.i (q:Int),.s (bs UB)]=some [.b b,.i (if b then((q+1:Nat):Int)else(q:Int))]/\
  (b=false->Cc x=[]/\x.fs=[]/\x.up=oO.zero/\x.down=oO.zero)/\
  (b=true->aB.F [TK L,.i ((q+1:Nat):Int)]=some [.s (bs x.fs),.i ((q+2:Nat):Int)]/\
    ao.F [TK L,.i ((q+2:Nat):Int),.s (bs aa6)]=some [.i ((q+3:Nat):Int)]/\
    eO.F [TK L,.i ((q+3:Nat):Int)]=some [.i x.up.op,.i x.up.a,.i x.up.b,.i x.up.n,bY x.up.vs,bY x.up.ws,.i ((q+3+x.up.tk.length:Nat):Int)]/\
    ao.F [TK L,.i ((q+3+x.up.tk.length:Nat):Int),.s (bs Yi)]=some [.i ((q+4+x.up.tk.length:Nat):Int)]/\
    eO.F [TK L,.i ((q+4+x.up.tk.length:Nat):Int)]=some [.i x.down.op,.i x.down.a,.i x.down.b,.i x.down.n,bY x.down.vs,bY x.down.ws,.i ((q+(Cc x).length:Nat):Int)]):=by
  intro q hq
  rcases hf with⟨f1,f2,f3⟩|⟨f1,f2,f3,f4⟩
  ·have e:Cc x=[]:=by unfold Cc;rw[if_pos f1]
   rw[e]at hq
   refine⟨false,dj hq _ (by decide),fun _=>⟨e,f1,f2,f3⟩,fun h=>by cases h⟩
  ·have e:Cc x=wT UB::wT x.fs::wT aa6::(x.up.tk++wT Yi::x.down.tk):=by unfold Cc;rw[if_neg f1]
   rw[e]at hq⊢
   obtain⟨t1,q1,e1⟩:=ag7 f3
   obtain⟨t2,q2,e2⟩:=ag7 f4
   have hq:cF L q (wT UB::wT x.fs::wT aa6::(x.up.tk++wT Yi::(x.down.tk++dS::v::r))):=by simpa using hq
   have hq1:=hq
   rw[e1]at hq1
   have hd0:=hq.step.step.step
   have hd1:=hd0
   rw[e2]at hd1
   have hd2:=hd0.app.step
   refine⟨true,?_,fun h=>(by cases h),fun _=>⟨ei (X7 _ f2) hq1.step,dk hq1.step.step _ (by decide),ahQ f3 hd1 (by decide),?_,?_⟩⟩
   ·have:=cS hq1 UB
    rw[show(wT UB).is UB=true from by decide]at this
    exact this
   ·have:=dk hd1.app Yi (by decide)
    rw[show q+1+1+1+x.up.tk.length+1=q+4+x.up.tk.length by omega]at this
    exact this
   ·have:=ahQ f4 hd2 (by decide)
    rw[show q+1+1+1+x.up.tk.length+1=q+4+x.up.tk.length by omega]at this
    rw[this]
    simp only[Option.some.injEq,List.cons.injEq,Sc.i.injEq,true_and,and_true,length_cons,length_append]
    omega
 obtain⟨u1,r1,hu1⟩:∃u1 r1,(Py x++Cc x)++dS::v::r=u1::r1:=by
  cases Py x++Cc x with
  |nil=>exact⟨_,_,rfl⟩
  |cons a b=>exact⟨_,_,rfl⟩
 have h0:cF L p (wT x.nm::nT x.gU::((Py x++Cc x)++dS::v::r)):=by simpa using h
 have h1:=h0
 rw[hu1]at h1
 have g1:=ei hnm h1
 have g2:=dh h1.step
 have h2:=h0.step.step
 rw[Id]
 rcases hs with⟨s1,s2⟩|⟨s1,s2,s3,s4⟩
 ·have e:Py x=[]:=by unfold Py;rw[if_pos s1]
  rw[e,nil_append]at h2⊢
  have g3:aw.F [TK L,.i ((p+1+1:Nat):Int),.s (bs Ow)]=some [.b false,.i ((p+1+1:Nat):Int)]:=by
   rcases hf with⟨f1,f2,f3⟩|⟨f1,f2,f3,f4⟩
   ·have e:Cc x=[]:=by unfold Cc;rw[if_pos f1]
    rw[e]at h2
    exact dj h2 _ (by decide)
   ·have e:Cc x=wT UB::wT x.fs::wT aa6::(x.up.tk++wT Yi::x.down.tk):=by unfold Cc;rw[if_neg f1]
    rw[e]at h2
    exact dj h2 _ (by decide)
  obtain⟨b,c0,c1,c2⟩:=fail _ h2
  have es:ae QQ.cs x.shift= .l []:=by rw[s1];rfl
  cases b with
  |false=>
   obtain⟨d1,d2,d3,d4⟩:=c1 rfl
   simp only[eN,iC,iE,iD,g1,g2,g3,c0,FE,es,s2,d1,d2,d3,d4,y1,y2,y3,y4,y5,y6,av,Nat.reduceAdd]
  |true=>
   obtain⟨d1,d2,d3,d4,d5⟩:=c2 rfl
   simp only[eN,iC,iE,iD,lX,rC,g1,g2,g3,c0,FE,es,s2,d1,d2,d3,d4,d5,av,Nat.reduceAdd]
 ·have e:Py x=wT Ow::(aK chT x.shift++[wT Wv,nT x.oh]):=by unfold Py;rw[if_neg s1]
  rw[e]at h2⊢
  obtain⟨c,cs,hc⟩:∃c cs,x.shift=c::cs:=by
   cases hc:x.shift with
   |nil=>exact absurd hc s1
   |cons c cs=>exact⟨c,cs,rfl⟩
  have h3:cF L (p+1+1) (wT Ow::(aK chT x.shift++wT Wv::nT x.oh::(Cc x++dS::v::r))):=by simpa using h2
  have h4:=h3
  rw[hc]at h4
  have g3:=cS (u:=nT c.at_) (r:=sT nt::nT c.gU::(aK chT cs++wT Wv::nT x.oh::(Cc x++dS::v::r))) (by simpa[aK,chT]using h4) Ow
  rw[show(wT Ow).is Ow=true from by decide]at g3
  have hl:x.shift.length<=20:=s2
  rw[hc]at hl
  have hp:=fun rest h16=>acu cs c (aF+1) (p+1+1+1) [] rest (wT Wv) (nT x.oh) _ h16 (by simp at hl;unfold aF;omega) (by simp at hl⊢;omega) h4.step (by decide)
  rw[<-DR,nil_append,<-hc]at hp
  have LN:=fun a1 a2 a3 a4 a5 a6 a7 a8 a9 a10 a11 a12 a13 a14 a15 a16=>hp [a1,a2,a3,a4,a5,a6,a7,a8,a9,a10,a11,a12,a13,a14,a15,a16] rfl
  have e0:ae QQ.cs []= .l []:=rfl
  rw[e0]at LN
  have h5:=h3.step.app
  obtain⟨u2,r2,hu2⟩:∃u1 r1,Cc x++dS::v::r=u1::r1:=by
   cases Cc x with
   |nil=>exact⟨_,_,rfl⟩
   |cons a b=>exact⟨_,_,rfl⟩
  have h6:=h5
  rw[hu2]at h6
  have g4:=dk h6 Wv (by decide)
  have g5:=dh h6.step
  obtain⟨b,c0,c1,c2⟩:=fail _ h5.step.step
  cases b with
  |false=>
   obtain⟨d1,d2,d3,d4⟩:=c1 rfl
   simp only[eN,iC,iE,iD,lX,mB,g1,g2,g3,g4,g5,LN,c0,FE,d1,d2,d3,d4,y1,y2,y3,y4,y5,y6,av,Nat.reduceAdd]
   simp only[append_nil,Option.some.injEq,List.cons.injEq,Sc.i.injEq,true_and,and_true,length_cons,length_append,length_nil]
   omega
  |true=>
   obtain⟨d1,d2,d3,d4,d5⟩:=c2 rfl
   simp only[eN,iC,iE,iD,lX,rC,mB,g1,g2,g3,g4,g5,LN,c0,FE,d1,d2,d3,d4,d5,av,Nat.reduceAdd]
   simp only[Option.some.injEq,List.cons.injEq,Sc.i.injEq,true_and,and_true,length_cons,length_append,length_nil]
   omega
end
end
section
section
variable {L:pO}
theorem adb {α:Type} (t:α->ba) (a b:List α):aK t (a++b)=aK t a++aK t b:=by simp[aK]
theorem RQ {α:Type}{t:α->ba}{l:List α}{i:Nat}{x:α} (h:l[i]? =some x):aK t l=aK t (l.take i)++(t x++aK t (l.drop (i+1)))/\aK t (l.take (i+1))=aK t (l.take i)++t x:=by
 have e2:aK t (l.take (i+1))=aK t (l.take i)++t x:=by
  rw[<-fN h,adb];simp[aK]
 refine⟨?_,e2⟩
 have:aK t l=aK t (l.take (i+1))++aK t (l.drop (i+1)):=by rw[<-adb,take_append_drop]
 rw[this,e2,append_assoc]
theorem Zn {α:Type} (T:α->ba) (E:List α->Sc){tail:ba}{R:Option aP}{g:fF->fF} (a:α) (l:List α) (p:Nat)
 (hl:l.length<1000)
 (hs:∀(d:List α) (b:α) (m:List α) (pp:Nat) (rec:fF),a::l=d++b::m->d.length<=l.length->cF L pp (sT rf::(bV ((b::m).map T)++tail))->g rec [.i (pp:Int),E d]=rec [.i ((pp+1+(T b).length:Nat):Int),E (d++[b])])
 (hf:∀rec,cF L (p+(bV ((a::l).map T)).length) tail->g rec [.i ((p+(bV ((a::l).map T)).length:Nat):Int),E (a::l)]=R)
 (h:cF L p (bV ((a::l).map T)++tail)):dz g aF [.i ((p+(T a).length:Nat):Int),E [a]]=R:=by
 have key:∀(m:List α) (done:List α) (b:α) (k p':Nat),a::l=done++b::m->m.length<=k->p'+(bV ((b::m).map T)).length=p+(bV ((a::l).map T)).length->
  cF L p' (bV ((b::m).map T)++tail)->dz g (k+1) [.i ((p'+(T b).length:Nat):Int),E (done++[b])]=R:=by
  intro m
  induction m with
  |nil=>
   intro done b k p' hd hk he hx
   have hx':cF L p' (T b++tail):=by simpa[bV]using hx
   have e:p'+(T b).length=p+(bV ((a::l).map T)).length:=by simpa[bV]using he
   rw[bO,e,<-hd]
   refine hf _ ?_
   rw[<-e]
   exact hx'.app
  |cons b2 m ih=>
   intro done b k p' hd hk he hx
   obtain⟨k,rfl⟩:∃j,k=j+1:=⟨k-1,by simp at hk;omega⟩
   have hx':cF L p' (T b++sT rf::(bV ((b2::m).map T)++tail)):=by
    simpa only[map_cons,vT,append_assoc,cons_append]using hx
   have hd':a::l=(done++[b])++b2::m:=by rw[hd];simp
   have hdl:(done++[b]).length<=l.length:=by
    have:=congrArg List.length hd'
    simp only[length_append,length_cons]at this⊢
    omega
   rw[bO,hs (done++[b]) b2 m _ _ hd' hdl hx'.app]
   refine ih (done++[b]) b2 k (p'+(T b).length+1) hd' (by simpa using hk) ?_ hx'.app.step
   rw[<-he]
   simp only[map_cons,vT,length_append,length_cons]
   omega
 obtain⟨k,hk⟩:∃k,aF=(k+l.length)+1:=⟨aF-l.length-1,by unfold aF;omega⟩
 rw[hk]
 exact key l [] a (k+l.length) p rfl (by omega) rfl h
theorem DE {α:Type} (T:α->ba) (b:α) (m:List α) (c:ff) (tail:ba):∃v q,bV ((b::m).map T)++c::tail=T b++v::q:=by
 cases m with
 |nil=>exact⟨c,tail,by simp[bV]⟩
 |cons b2 m=>exact⟨sT rf,bV ((b2::m).map T)++c::tail,by simp only[map_cons,vT,append_assoc,cons_append]⟩
theorem io.bC (d:List io) (f:io):Sc.l ((d.map fun x=>Sc.l x.cs)++[Sc.l [Sc.s (bs f.nm),Sc.i f.ty]])=ae io.cs (d++[f]):=by simp[ae,io.cs]
theorem agm {g:fF->fF}{l:List io}{tail:ba}{R:Option aP}{p:Nat} (hl:l.length<1000)
 (hs:∀(d:List io) (f:io) (q:Nat) (rec:fF) (v:ff) (r:ba),f∈l->d.length<1000->cF L q (Qt f++v::r)->g rec [.i (q:Int),ae io.cs d]=rec [.i ((q+4:Nat):Int),ae io.cs (d++[f])])
 (hf:∀rec,cF L (p+(aK Qt l).length) tail->g rec [.i ((p+(aK Qt l).length:Nat):Int),ae io.cs l]=R) (ht:tail≠[])
 (h:cF L p (aK Qt l++tail)):dz g aF [.i (p:Int),.l []]=R:=by
 refine cu (fun i=>[.i ((p+(aK Qt (l.take i)).length:Nat):Int),ae io.cs (l.take i)]) l.length (by simp[ae,aK]) (by omega) (fun i hi rec=> ?_) (fun rec=> ?_)
 ·obtain⟨x,hx⟩:=aV hi
  obtain⟨e1,e2⟩:=RQ (t:=Qt) hx
  have h1:cF L (p+(aK Qt (l.take i)).length) (Qt x++(aK Qt (l.drop (i+1))++tail)):=by
   have:cF L p (aK Qt (l.take i)++(Qt x++(aK Qt (l.drop (i+1))++tail))):=by
    rw[e1]at h;simpa only[append_assoc]using h
   exact this.app
  obtain⟨v,r,hv⟩:∃v r,aK Qt (l.drop (i+1))++tail=v::r:=by
   cases hc:aK Qt (l.drop (i+1))++tail with
   |nil=>exact absurd (append_eq_nil_iff.1 hc).2 ht
   |cons a b=>exact⟨a,b,rfl⟩
  rw[hv]at h1
  show g rec [.i ((p+(aK Qt (l.take i)).length:Nat):Int),ae io.cs (l.take i)]=rec [.i ((p+(aK Qt (l.take (i+1))).length:Nat):Int),ae io.cs (l.take (i+1))]
  rw[hs (l.take i) x _ rec v r (aM hx) (by simp;omega) h1,fN hx,e2]
  simp[Qt,Nat.add_assoc]
 ·show g rec [.i ((p+(aK Qt (l.take l.length)).length:Nat):Int),ae io.cs (l.take l.length)]=R
  rw[take_length]
  exact hf rec h.app
theorem amc (s:ax) (hs:s.okN):∃t q,s.tk=t::q/\t.is PC=false:=by
 obtain⟨u,hu,_⟩:=hs
 have hr:=xd hu
 rw[ax.QI]
 unfold aeU
 by_cases h3:s.op=3
 ·rw[if_pos h3];exact⟨_,_,rfl,by decide⟩
 by_cases h4:s.op=4
 ·rw[if_neg h3,if_pos h4];exact⟨_,_,rfl,by decide⟩
 rw[if_neg h3,if_neg h4]
 generalize s.op=op at*
 rcases(by omega:op=1\/op=2\/op=5\/op=6\/op=7\/op=8\/op=9\/op=10\/op=11\/op=12\/op=13\/op=14\/op=15\/op=16\/op=17\/op=18)with rfl|rfl|rfl|rfl|rfl|rfl|rfl|rfl|rfl|rfl|rfl|rfl|rfl|rfl|rfl|rfl
 all_goals simp only[stT,reduceEq,if_true,if_false]
 all_goals exact⟨_,_,rfl,by decide⟩
theorem alM (hC:xi L){x:jv} (hn:Name x.nm) (hx:x.ok){p:Nat}{v:ff}{r:ba} (h:cF L p (wT x.nm::sT cI::(bV (x.params.map fiT)++sT cj::dS::(aK Qt x.locals++(ax.nJ x.body++wT ep::dS::v::r))))):
 lx.F [TK L,.i (p:Int)]=some (x.cs++[.i ((p+(roT x).length-2:Nat):Int)]):=by
 obtain⟨q1,q2,q3,q4,q5⟩:=hx
 have UZ:(roT x).length-2=3+(bV (x.params.map fiT)).length+1+(aK Qt x.locals).length+(ax.nJ x.body).length+1:=by
  unfold roT;simp;omega
 have dI:∀f∈x.params,f.ok:=fun f hf=>q3 f (mem_append_left _ hf)
 have aDM:∀f∈x.locals,f.ok:=fun f hf=>q3 f (mem_append_right _ hf)
 have aqd:ax.nJ x.body++wT ep::dS::v::r≠[]:=by simp
 have fin:∀q,cF L q (ax.nJ x.body++wT ep::dS::v::r)->∃(b:Bool),b=false/\aw.F [TK L,.i (q:Int),.s (bs PC)]=some [.b b,.i (q:Int)]/\
  jZ.F [TK L,.i (q:Int)]=some [ae ax.cs x.body,.i ((q+(ax.nJ x.body).length:Nat):Int)]/\
  ao.F [TK L,.i ((q+(ax.nJ x.body).length:Nat):Int),.s (bs ep)]=some [.i ((q+(ax.nJ x.body).length+1:Nat):Int)]:=by
  intro q hq
  refine⟨false,rfl,?_,apY hC (by omega) q4 (.inl rfl) hq,dk hq.app _ (by decide)⟩
  cases hb:x.body with
  |nil=>
   rw[hb]at hq
   exact dj (by simpa[ax.nJ]using hq) _ (by decide)
  |cons s l=>
   rw[hb]at hq q4
   have so:=(ax.vZ s).1 q4.1
   obtain⟨t,q2,e,i1⟩:=amc s so.1
   rw[ax.nJ,e]at hq
   simp only[cons_append]at hq
   exact dj hq _ i1
 have hz:∀q,cF L q (dS::(aK Qt x.locals++(ax.nJ x.body++wT ep::dS::v::r)))->bW.F [TK L,.i (q:Int)]=some [.i ((q+1:Nat):Int)]:=by
  intro q hq
  obtain⟨w,y,hw⟩:∃w y,aK Qt x.locals++(ax.nJ x.body++wT ep::dS::v::r)=w::y:=by
   cases hc:aK Qt x.locals++(ax.nJ x.body++wT ep::dS::v::r)with
   |nil=>simp at hc
   |cons a b=>exact⟨a,b,rfl⟩
  rw[hw]at hq
  exact fJ hq
 have auu:∀(f:io) (q:Nat) (v:ff) (r:ba),f∈x.locals->cF L q (Qt f++v::r)->aw.F [TK L,.i (q:Int),.s (bs PC)]=some [.b true,.i ((q+1:Nat):Int)]/\jY.F [TK L,.i ((q+1:Nat):Int)]=some [.s (bs f.nm),.i f.ty,.i ((q+1+2:Nat):Int)]/\bW.F [TK L,.i ((q+1+2:Nat):Int)]=some [.i ((q+4:Nat):Int)]:=by
  intro f q v r hf hq
  have hq:cF L q (wT PC::wT f.nm::wT (kD f.ty)::dS::v::r):=hq
  have a:=cS hq PC
  rw[show(wT PC).is PC=true from by decide]at a
  have b:=ad7 (aDM f hf) (u:=dS) (r:=v::r) hq.step
  exact⟨a,b,fJ hq.step.step.step⟩
 rw[J4,show p+(roT x).length-2=p+((roT x).length-2)from by unfold roT;simp;omega,UZ]
 generalize hE:p+(3+(bV (x.params.map fiT)).length+1+(aK Qt x.locals).length+(ax.nJ x.body).length+1)=E
 have FE:wd []=([]:Bs):=rfl
 cases hp:x.params with
 |nil=>
  rw[hp]at h hE
  have h:cF L p (wT x.nm::sT cI::sT cj::dS::(aK Qt x.locals++(ax.nJ x.body++wT ep::dS::v::r))):=by simpa[bV]using h
  have g1:=ei hn h
  have g2:=dk h.step cI (by decide)
  have g3:=cS h.step.step cj
  rw[show(sT cj).is cj=true from by decide]at g3
  have g4:=hz _ h.step.step.step
  simp only[kK,ul,uk,uo,um,g1,g2,g3,g4,av,Nat.reduceAdd]
  refine agm (L:=L) (l:=x.locals) (tail:=ax.nJ x.body++wT ep::dS::v::r) (by omega) (fun d f q rec v r hf hd hq=> ?_) (fun rec hq=> ?_) aqd h.step.step.step.step
  ·obtain⟨a,b,c⟩:=auu f q v r hf hq
   have e1:((((d.map fun x=>Sc.l x.cs)++[Sc.l [Sc.s (bs f.nm),Sc.i f.ty]]).length:Nat):Int)<=5864062014805:=by simp;omega
   simp only[sy,a,b,c,e1,io.bC,av,Nat.reduceAdd]
  ·obtain⟨_,rfl,a,b,c⟩:=fin _ hq
   simp only[sA,a,b,c,av,Nat.reduceAdd]
   unfold jv.cs
   rw[hp]
   simp only[bV,map_nil,length_nil]at hE
   simp only[ae,map_nil,cons_append,nil_append,Option.some.injEq,List.cons.injEq,Sc.i.injEq,true_and,and_true]
   omega
 |cons f ps=>
  rw[hp]at h q1 q2 dI hE
  obtain⟨c1,c2,hc⟩:=DE fiT f ps (sT cj) (dS::(aK Qt x.locals++(ax.nJ x.body++wT ep::dS::v::r)))
  have h1:=h
  rw[hc]at h1
  have W6:cF L p (wT x.nm::sT cI::wT f.nm::wT (kD f.ty)::c1::c2):=h1
  have g1:=ei hn W6
  have g2:=dk W6.step cI (by decide)
  have hnf:=(dI f (by simp)).1
  have g3:=dj W6.step.step cj (by
   rw[pX];exact decide_eq_false fun e=>by have:=hnf.2.2.1;rw[e]at this;revert this;decide)
  have g4:=ad7 (dI f (by simp)) h1.step.step
  have e0:((1:Nat):Int)<=5864062014805:=by decide
  simp only[kK,ul,uk,uo,sy,g1,g2,g3,g4,e0,av,Nat.reduceAdd]
  have st:[Sc.i ((p+1+1+2:Nat):Int),Sc.l [Sc.l [Sc.s (bs f.nm),Sc.i f.ty]]]=[Sc.i ((p+1+1+(fiT f).length:Nat):Int),ae io.cs [f]]:=rfl
  rw[st]
  refine Zn fiT (ae io.cs) f ps (p+1+1) (by simp at q1;omega) (fun d b m pp rec hd hdl hx=> ?_) (fun rec hx=> ?_) h.step.step
  ·have hb:=dI b (by rw[hd];simp)
   obtain⟨v1,v2,hv⟩:=DE fiT b m (sT cj) (dS::(aK Qt x.locals++(ax.nJ x.body++wT ep::dS::v::r)))
   rw[hv]at hx
   have a:=cS (u:=wT b.nm) (r:=wT (kD b.ty)::v1::v2) hx rf
   rw[show(sT rf).is rf=true from by decide]at a
   have b':=ad7 hb hx.step
   have e1:((((d.map fun x=>Sc.l x.cs)++[Sc.l [Sc.s (bs b.nm),Sc.i b.ty]]).length:Nat):Int)<=5864062014805:=by simp at q1⊢;omega
   simp only[a,b',e1,io.bC,av,Nat.reduceAdd]
   rfl
  ·generalize hQ:p+1+1+(bV ((f::ps).map fiT)).length=Q at*
   have a:=dj hx rf (by decide)
   have b:=dk hx cj (by decide)
   have c:=hz _ hx.step
   simp only[um,a,b,c,av,Nat.reduceAdd]
   refine agm (L:=L) (l:=x.locals) (tail:=ax.nJ x.body++wT ep::dS::v::r) (by omega) (fun d f q rec v r hf hd hq=> ?_) (fun rec hq=> ?_) aqd hx.step.step
   ·obtain⟨a,b,c⟩:=auu f q v r hf hq
    have e1:((((d.map fun x=>Sc.l x.cs)++[Sc.l [Sc.s (bs f.nm),Sc.i f.ty]]).length:Nat):Int)<=5864062014805:=by simp;omega
    simp only[a,b,c,e1,io.bC,av,Nat.reduceAdd]
   ·obtain⟨_,rfl,a,b,c⟩:=fin _ hq
    simp only[sA,a,b,c,av,Nat.reduceAdd]
    unfold jv.cs
    rw[hp]
    simp only[ae,map_cons,cons_append,nil_append,Option.some.injEq,List.cons.injEq,Sc.i.injEq,true_and,and_true]
    omega
end
end
section
section
variable {L:pO}
theorem Uw (t n:Int):∃a q,kV t n=a::q/\a.is cj=false:=by
 unfold kV RU ng
 split
 ·refine⟨_,_,rfl,?_⟩
  unfold pI
  rw[pX]
  split<;>decide
 ·split
  ·exact⟨_,_,rfl,by decide⟩
  ·exact⟨_,_,rfl,aiq _ _⟩
def evT (s:xB):ba:=if s.every=0 then[]else[wT aci,nT s.every,wT aji,nT s.til]
def avT (a:io×Int):ba:=kV a.1.ty a.2
theorem aaz (ps:List io) (ns:uD):Ht ps ns=(ps.zip ns).map avT:=by
 unfold Ht
 induction ps generalizing ns with
 |nil=>rfl
 |cons a ps ih=>
  cases ns with
  |nil=>rfl
  |cons n ns=>simp[ih,avT]
theorem asH {d:dL} (hd:d.ok){s:xB} (h:s.ok d){p:Nat}{v:ff}{r:ba} (hx:cF L p (wT s.rt::sT cI::(bV (Ht (rI d s.rt) s.args)++sT cj::wT Uz::nT s.at_::(evT s++dS::v::r)))):
 m6.F [TK L,.i (p:Int)]=some (s.cs++[.i ((p+(saT (rI d s.rt) s).length-1:Nat):Int)]):=by
 obtain⟨⟨j,ro,e1,e2,e3,e4,e5⟩,h2,h3,h4,h5⟩:=h
 rw[T8 e1 e2]at hx⊢
 have hnr:=hd.t ro (aM e2)
 have hn:=hnr.1
 rw[e3]at hn
 have h6:ro.params.length<=6:=hnr.2.1
 rw[aaz]at hx
 have UZ:p+(saT ro.params s).length-1=p+1+1+(bV ((ro.params.zip s.args).map avT)).length+3+(evT s).length:=by
  unfold saT evT
  rw[aaz]
  simp;omega
 rw[UZ]
 generalize hE:p+1+1+(bV ((ro.params.zip s.args).map avT)).length+3+(evT s).length=E
 have vX:∀a∈ro.params.zip s.args,z8 a.1.ty a.2:=by
  intro a ha
  obtain⟨i,hi⟩:=mem_iff_getElem?.1 ha
  obtain⟨f,n⟩:=a
  obtain⟨q1,q2⟩:=getElem?_zip_eq_some.1 hi
  exact e5 i f n q1 q2
 have arQ:(ro.params.zip s.args).map Prod.snd=s.args:=map_snd_zip (by omega)
 have hzl:(ro.params.zip s.args).length<=6:=by rw[length_zip];omega
 generalize ro.params.zip s.args=zs at*
 have fin:∀q,cF L q (wT Uz::nT s.at_::(evT s++dS::v::r))->ao.F [TK L,.i (q:Int),.s (bs Uz)]=some [.i ((q+1:Nat):Int)]/\aD.F [TK L,.i ((q+1:Nat):Int)]=some [.i s.at_,.i ((q+2:Nat):Int)]/\∃b:Bool,aw.F [TK L,.i ((q+2:Nat):Int),.s (bs aci)]=some [.b b,.i ((if b then q+3 else q+2:Nat):Int)]/\(b=false->s.every=0/\s.til=0/\evT s=[])/\(b=true->(evT s).length=4/\aD.F [TK L,.i ((q+3:Nat):Int)]=some [.i s.every,.i ((q+4:Nat):Int)]/\ao.F [TK L,.i ((q+4:Nat):Int),.s (bs aji)]=some [.i ((q+5:Nat):Int)]/\aD.F [TK L,.i ((q+5:Nat):Int)]=some [.i s.til,.i ((q+6:Nat):Int)]):=by
  intro q hq
  unfold evT at*
  by_cases c:s.every=0
  ·rw[if_pos c]at hq⊢
   have hq:cF L q (wT Uz::nT s.at_::dS::v::r):=hq
   exact⟨dk hq _ (by decide),dh hq.step,false,dj hq.step.step _ (by decide),fun _=>⟨c,h5 c,rfl⟩,fun h=>by cases h⟩
  ·rw[if_neg c]at hq⊢
   have hq:cF L q (wT Uz::nT s.at_::wT aci::nT s.every::wT aji::nT s.til::dS::v::r):=hq
   have g:=cS hq.step.step aci
   rw[show(wT aci).is aci=true from by decide]at g
   exact⟨dk hq _ (by decide),dh hq.step,true,g,fun h=>(by cases h),fun _=>⟨rfl,dh hq.step.step.step,dk hq.step.step.step.step _ (by decide),dh hq.step.step.step.step.step⟩⟩
 have ajy:∀(a:uD) (i1 i2 i3:Int) (n m:Nat),bY a=bY s.args->i1=s.at_->i2=s.every->i3=s.til->n=m->some [Sc.s (bs s.rt),bY a,.i i1,.i i2,.i i3,.i (n:Int)]=some (s.cs++[.i (m:Int)]):=by
  intro a i1 i2 i3 n m x1 x2 x3 x4 x5
  rw[x1,x2,x3,x4,x5];rfl
 rw[Nk]
 cases hz:zs with
 |nil=>
  rw[hz]at hx arQ
  have hx:cF L p (wT s.rt::sT cI::sT cj::wT Uz::nT s.at_::(evT s++dS::v::r)):=by simpa[bV]using hx
  have ea:s.args=[]:=by simpa using arQ.symm
  have g1:=ei hn hx
  have g2:=dk hx.step cI (by decide)
  have g3:=cS hx.step.step cj
  rw[show(sT cj).is cj=true from by decide]at g3
  obtain⟨a1,a2,b,a3,a4,a5⟩:=fin _ hx.step.step.step
  rw[hz]at hE
  simp only[bV,map_nil,length_nil]at hE
  cases b with
  |false=>
   obtain⟨c1,c2,c3⟩:=a4 rfl
   simp only[jg,ou,oq,ov,kl,g1,g2,g3,a1,a2,a3,av,Nat.reduceAdd]
   exact ajy [] _ _ _ _ _ (by rw[ea]) rfl c1.symm c2.symm (by rw[c3]at hE;simp at hE;omega)
  |true=>
   obtain⟨c0,c1,c2,c3⟩:=a5 rfl
   simp only[jg,ou,oq,ov,kl,g1,g2,g3,a1,a2,a3,c1,c2,c3,av,Nat.reduceAdd]
   exact ajy [] _ _ _ _ _ (by rw[ea]) rfl rfl rfl (by rw[c0]at hE;omega)
 |cons a zs'=>
  rw[hz]at hx arQ vX hzl hE
  obtain⟨c1,c2,hc⟩:=DE avT a zs' (sT cj) (wT Uz::nT s.at_::(evT s++dS::v::r))
  obtain⟨t1,q1,HT,hf1⟩:=Uw a.1.ty a.2
  have Rv:=hx
  rw[hc]at Rv
  have hx2:cF L p (wT s.rt::sT cI::t1::(q1++c1::c2)):=by
   unfold avT at Rv;rw[HT]at Rv;exact Rv
  have g1:=ei hn hx2
  have g2:=dk hx2.step cI (by decide)
  have g3:=dj hx2.step.step cj hf1
  have g4:=Zb (vX a (by simp)) Rv.step.step
  have e0:((1:Nat):Int)<=17592186044416:=by decide
  simp only[jg,ou,oq,ov,G2,g1,g2,g3,g4,e0,av,Nat.reduceAdd]
  have st:[Sc.i ((p+1+1+(kV a.1.ty a.2).length:Nat):Int),Sc.l [Sc.i a.2]]=[Sc.i ((p+1+1+(avT a).length:Nat):Int),(fun d:List (io×Int)=>bY (d.map Prod.snd)) [a]]:=rfl
  rw[st]
  refine Zn avT (fun d:List (io×Int)=>bY (d.map Prod.snd)) a zs' (p+1+1) (by simp at hzl;omega) (fun d b m pp rec hdd hdl hx=> ?_) (fun rec hx=> ?_) hx.step.step
  ·have hb:=vX b (by rw[hdd];simp)
   obtain⟨v1,v2,hv⟩:=DE avT b m (sT cj) (wT Uz::nT s.at_::(evT s++dS::v::r))
   obtain⟨t2,q2,ht2,hf2⟩:=Uw b.1.ty b.2
   rw[hv]at hx
   have hx2:cF L pp (sT rf::t2::(q2++v1::v2)):=by
    unfold avT at hx;rw[ht2]at hx;exact hx
   have a1:=cS hx2 rf
   rw[show(sT rf).is rf=true from by decide]at a1
   have a2:=Zb hb hx.step
   have e1:((((d.map Prod.snd).map Sc.i++[Sc.i b.2]).length:Nat):Int)<=17592186044416:=by simp at hzl⊢;omega
   have e2:Sc.l ((d.map Prod.snd).map Sc.i++[Sc.i b.2])=bY ((d++[b]).map Prod.snd):=by simp[bY]
   simp only[a1,a2,e1,e2,av,Nat.reduceAdd]
   rfl
  ·generalize hQ:p+1+1+(bV ((a::zs').map avT)).length=Q at*
   simp only[arQ]
   have f1:=dj hx rf (by decide)
   have f2:=dk hx cj (by decide)
   obtain⟨a1,a2,b,a3,a4,a5⟩:=fin _ hx.step
   cases b with
   |false=>
    obtain⟨c1,c2,c3⟩:=a4 rfl
    simp only[kl,f1,f2,a1,a2,a3,av,Nat.reduceAdd]
    exact ajy _ _ _ _ _ _ rfl rfl c1.symm c2.symm (by rw[c3]at hE;simp at hE;omega)
   |true=>
    obtain⟨c0,c1,c2,c3⟩:=a5 rfl
    simp only[kl,f1,f2,a1,a2,a3,c1,c2,c3,av,Nat.reduceAdd]
    exact ajy _ _ _ _ _ _ rfl rfl rfl rfl (by rw[c0]at hE;omega)
def sgC (t:rR):Int:=if t.jM<0 then-1 else 1
theorem aqg {d:dL} (hd:d.ok){t:rR} (h:t.ok d){p:Nat}{v:ff}{r:ba} (hx:cF L p (oJ t++v::r)):iQ.F [TK L,.i (p:Int),.i (sgC t)]=some (t.cs++[.i ((p+(oJ t).length:Nat):Int)]):=by
 have hn:=akx hd h
 have hw:=KY _ h.1
 obtain⟨_,_,hc,h0⟩:=h
 unfold vg at hc
 unfold oJ at hx⊢
 rw[Pa]
 by_cases c:teC t=1
 ·rw[if_pos c]at hx⊢
  have hx:cF L p (wT t.what::wT t.nm::v::r):=hx
  obtain⟨line,g⟩:=EP hx
  simp only[wT]at g
  have g1:=ei hw hx
  have g2:=ei hn hx.step
  have e:sgC t=t.jM:=by unfold teC at c;unfold sgC;split<;>split at c<;>omega
  rw[e]
  simp only[np,wK,xW,g,g1,g2,av,Nat.reduceAdd,reduceEq]
  rfl
 ·rw[if_neg c]at hx⊢
  have hx:cF L p (nT (teC t)::sT JG::wT t.what::wT t.nm::v::r):=hx
  obtain⟨line,g⟩:=EP hx
  simp only[nT]at g
  have g0:=dh hx
  have g3:=dk hx.step JG (by decide)
  have g1:=ei hw hx.step.step
  have g2:=ei hn hx.step.step.step
  have e:IntKind.i64.wrap (sgC t*teC t)=t.jM:=by
   have:sgC t*teC t=t.jM:=by unfold teC sgC;split<;>omega
   rw[this];exact cE (by omega) (by omega)
  simp only[np,wK,xW,Kq,Kr,g,g0,g1,g2,g3,aAR,e,av,Nat.reduceAdd]
  rfl
theorem RP {g:fF->fF}{E:Nat->Option aP}{tail:ba} (all:List rR)
 (hs:∀(done:List rR) (b b2:rR) (m:List rR) (q:Nat) (rec:fF),all=done++b::b2::m->done.length<all.length->cF L q (oJ b++(aK (teT false) (b2::m)++tail))->g rec [.i (sgC b),.i (q:Int),ae rR.cs done]=rec [.i (sgC b2),.i ((q+(oJ b).length+1:Nat):Int),ae rR.cs (done++[b])])
 (hf:∀(done:List rR) (b:rR) (q:Nat) (rec:fF),all=done++[b]->cF L q (oJ b++tail)->g rec [.i (sgC b),.i (q:Int),ae rR.cs done]=E (q+(oJ b).length)):
 ∀(m done:List rR) (b:rR) (q k:Nat),all=done++b::m->m.length<=k->cF L q (oJ b++(aK (teT false) m++tail))->dz g (k+1) [.i (sgC b),.i (q:Int),ae rR.cs done]=E (q+(oJ b).length+(aK (teT false) m).length)
 |[],done,b,q,k,ha,hk,hx=>by
  rw[bO,hf done b q _ ha (by simpa[aK]using hx)]
  rfl
 |b2::m,done,b,q,k,ha,hk,hx=>by
  obtain⟨k,rfl⟩:∃j,k=j+1:=⟨k-1,by simp at hk;omega⟩
  have hdl:done.length<all.length:=by rw[ha];simp
  rw[bO,hs done b b2 m q _ ha hdl hx]
  have e:teT false b2=(if b2.jM<0 then sT rS else sT YI)::oJ b2:=by unfold teT;simp
  have hx2:cF L (q+(oJ b).length+1) (oJ b2++(aK (teT false) m++tail)):=by
   have:=hx.app
   rw[K7,e]at this
   simp only[cons_append,append_assoc]at this
   exact this.step
  rw[RP all hs hf m (done++[b]) b2 _ k (by rw[ha];simp) (by simpa using hk) hx2]
  rw[K7,e]
  congr 1
  simp;omega
theorem aaP (t:rR) (hw:Name t.what):∃a q,oJ t=a::q/\a.is rS=false:=by
 unfold oJ
 split
 ·exact⟨_,_,rfl,by rw[pX];exact decide_eq_false fun e=>by have:=hw.2.2.1;rw[e]at this;revert this;decide⟩
 ·exact⟨_,_,rfl,aiq _ _⟩
theorem aAr {d:dL} (hd:d.ok){l:zC} (h:l.ok d){p:Nat}{v:ff}{r:ba} (hx:cF L p (wT l.nm::sT nt::(ai9 l.dK++sT UA::(ng l.total++dS::v::r)))):
 ph.F [TK L,.i (p:Int)]=some (l.cs++[.i ((p+(laT l).length-1:Nat):Int)]):=by
 obtain⟨h1,h2,h3,h4,h5⟩:=h
 have UZ:p+(laT l).length-1=p+1+1+(ai9 l.dK).length+1+(ng l.total).length:=by unfold laT;simp;omega
 rw[UZ]
 obtain⟨t,ts,ht⟩:∃t ts,l.dK=t::ts:=by
  cases hc:l.dK with
  |nil=>exact absurd hc h2
  |cons a b=>exact⟨a,b,rfl⟩
 have h4t:=h4 t (by rw[ht];simp)
 obtain⟨a1,q1,ha1,hf1⟩:=aaP t (KY _ h4t.1)
 obtain⟨n1,m1,hn1⟩:∃n1 m1,ng l.total++dS::v::r=n1::m1:=by
  unfold ng
  split<;>exact⟨_,_,rfl⟩
 have eTs:ai9 l.dK=(if t.jM<0 then[sT rS]else[])++(oJ t++aK (teT false) ts):=by
  rw[ht];show teT true t++_=_;unfold teT;simp
 rw[eTs]at hx⊢
 generalize hE:p+1+1+((if t.jM<0 then[sT rS]else[])++(oJ t++aK (teT false) ts)).length+1+(ng l.total).length=E
 obtain⟨k,hk⟩:∃k,aF=(k+ts.length)+1:=⟨aF-ts.length-1,by rw[ht]at h3;simp at h3;unfold aF;omega⟩
 have e1:∀(done:List rR) (b:rR),done.length<=10->((((done.map fun x=>Sc.l x.cs)++[Sc.l [Sc.i b.jM,Sc.s (bs b.what),Sc.s (bs b.nm)]]).length:Nat):Int)<=3518437208883:=by
  intro done b hd;simp;omega
 have e2:∀(done:List rR) (b:rR),Sc.l ((done.map fun x=>Sc.l x.cs)++[Sc.l [Sc.i b.jM,Sc.s (bs b.what),Sc.s (bs b.nm)]])=ae rR.cs (done++[b]):=by
  intro done b;simp[ae,rR.cs]
 have ajV:∀(b b2:rR) (m:List rR) (q:Nat),b∈l.dK->b2∈l.dK->cF L q (oJ b++(aK (teT false) (b2::m)++sT UA::(ng l.total++dS::v::r)))->
  iQ.F [TK L,.i (q:Int),.i (sgC b)]=some [.i b.jM,.s (bs b.what),.s (bs b.nm),.i ((q+(oJ b).length:Nat):Int)]/\
  ∃c:Bool,aw.F [TK L,.i ((q+(oJ b).length:Nat):Int),.s (bs YI)]=some [.b c,.i ((if c then q+(oJ b).length+1 else q+(oJ b).length:Nat):Int)]/\(c=true->sgC b2=1)/\
  (c=false->sgC b2= -1/\aw.F [TK L,.i ((q+(oJ b).length:Nat):Int),.s (bs rS)]=some [.b true,.i ((q+(oJ b).length+1:Nat):Int)]):=by
  intro b b2 m q hb Rr hq
  obtain⟨a2,q2,ha2,_⟩:=aaP b2 (KY _ (h4 b2 Rr).1)
  have e:teT false b2=(if b2.jM<0 then sT rS else sT YI)::oJ b2:=by unfold teT;simp
  rw[K7,e,ha2]at hq
  simp only[cons_append]at hq
  refine⟨aqg hd (h4 b hb) hq,?_⟩
  have hq:=hq.app
  unfold sgC
  by_cases c:b2.jM<0
  ·rw[if_pos c]at hq⊢
   have f1:=dj hq YI (by decide)
   have f2:=cS hq rS
   rw[show(sT rS).is rS=true from by decide]at f2
   exact⟨false,f1,fun h=>(by cases h),fun _=>⟨rfl,f2⟩⟩
  ·rw[if_neg c]at hq⊢
   have f1:=cS hq YI
   rw[show(sT YI).is YI=true from by decide]at f1
   exact⟨true,f1,fun _=>rfl,fun h=>(by cases h)⟩
 have afZ:∀(b:rR) (q:Nat),b∈l.dK->cF L q (oJ b++sT UA::(ng l.total++dS::v::r))->
  iQ.F [TK L,.i (q:Int),.i (sgC b)]=some [.i b.jM,.s (bs b.what),.s (bs b.nm),.i ((q+(oJ b).length:Nat):Int)]/\
  aw.F [TK L,.i ((q+(oJ b).length:Nat):Int),.s (bs YI)]=some [.b false,.i ((q+(oJ b).length:Nat):Int)]/\
  aw.F [TK L,.i ((q+(oJ b).length:Nat):Int),.s (bs rS)]=some [.b false,.i ((q+(oJ b).length:Nat):Int)]/\
  ao.F [TK L,.i ((q+(oJ b).length:Nat):Int),.s (bs UA)]=some [.i ((q+(oJ b).length+1:Nat):Int)]/\
  cG.F [TK L,.i ((q+(oJ b).length+1:Nat):Int)]=some [.i l.total,.i ((q+(oJ b).length+1+(ng l.total).length:Nat):Int)]:=by
  intro b q hb hq
  have hq1:=hq
  rw[hn1]at hq1
  exact⟨aqg hd (h4 b hb) hq,dj hq.app _ (by decide),dj hq.app _ (by decide),dk hq1.app _ (by decide),VU h5 hq.app.step⟩
 rw[Q5]
 by_cases c:t.jM<0
 ·rw[if_pos c]at hx hE
  have h0:cF L p (wT l.nm::sT nt::sT rS::(oJ t++(aK (teT false) ts++sT UA::(ng l.total++dS::v::r)))):=by simpa using hx
  have Rv:=h0
  rw[ha1]at Rv
  simp only[cons_append]at Rv
  have g1:=ei h1 Rv
  have g2:=dk Rv.step nt (by decide)
  have g3:=cS Rv.step.step rS
  rw[show(sT rS).is rS=true from by decide]at g3
  simp only[nX,Ac,Ab,Ad,g1,g2,g3,av,Nat.reduceAdd]
  have hq0:=h0.step.step.step
  generalize hQ0:p+1+1+1=Q0 at*
  have st:[Sc.i (-1),Sc.i (Q0:Int),Sc.l []]=[Sc.i (sgC t),Sc.i (Q0:Int),ae rR.cs []]:=by unfold sgC;rw[if_pos c];rfl
  rw[st,hk]
  rw[RP (L:=L) (tail:=sT UA::(ng l.total++dS::v::r)) (E:=fun n=>some (l.cs++[.i ((n+1+(ng l.total).length:Nat):Int)])) l.dK ?_ ?_ ts [] t Q0 (k+ts.length) ht (by omega) hq0]
  ·refine congrArg (fun z:Nat=>some (l.cs++[.i (z:Int)])) ?_
   simp at hE
   omega
  ·intro done b b2 m q rec ha hdl hq
   obtain⟨f1,cc,f2,f3,f4⟩:=ajV b b2 m q (by rw[ha];simp) (by rw[ha];simp) hq
   cases cc with
   |true=>
    rw[f3 rfl]
    simp only[fj,f1,f2,e1 done b (by omega),e2,av,Nat.reduceAdd]
   |false=>
    obtain⟨f5,f6⟩:=f4 rfl
    rw[f5]
    simp only[fj,f1,f2,f6,e1 done b (by omega),e2,av,Nat.reduceAdd]
  ·intro done b q rec ha hq
   obtain⟨f1,f2,f3,f4,f5⟩:=afZ b q (by rw[ha];simp) hq
   have hdl:done.length<=10:=by have:=congrArg List.length ha;simp at this;omega
   simp only[fj,xU,f1,f2,f3,f4,f5,e1 done b hdl,e2,av,Nat.reduceAdd]
   rw[<-ha]
   rfl
 ·rw[if_neg c]at hx hE
  have h0:cF L p (wT l.nm::sT nt::(oJ t++(aK (teT false) ts++sT UA::(ng l.total++dS::v::r)))):=by simpa using hx
  have Rv:=h0
  rw[ha1]at Rv
  simp only[cons_append]at Rv
  have g1:=ei h1 Rv
  have g2:=dk Rv.step nt (by decide)
  have g3:=dj Rv.step.step rS hf1
  simp only[nX,Ac,Ab,Ad,g1,g2,g3,av,Nat.reduceAdd]
  have hq0:=h0.step.step
  generalize hQ0:p+1+1=Q0 at*
  have st:[Sc.i 1,Sc.i (Q0:Int),Sc.l []]=[Sc.i (sgC t),Sc.i (Q0:Int),ae rR.cs []]:=by unfold sgC;rw[if_neg c];rfl
  rw[st,hk]
  rw[RP (L:=L) (tail:=sT UA::(ng l.total++dS::v::r)) (E:=fun n=>some (l.cs++[.i ((n+1+(ng l.total).length:Nat):Int)])) l.dK ?_ ?_ ts [] t Q0 (k+ts.length) ht (by omega) hq0]
  ·refine congrArg (fun z:Nat=>some (l.cs++[.i (z:Int)])) ?_
   simp at hE
   omega
  ·intro done b b2 m q rec ha hdl hq
   obtain⟨f1,cc,f2,f3,f4⟩:=ajV b b2 m q (by rw[ha];simp) (by rw[ha];simp) hq
   cases cc with
   |true=>
    rw[f3 rfl]
    simp only[fj,f1,f2,e1 done b (by omega),e2,av,Nat.reduceAdd]
   |false=>
    obtain⟨f5,f6⟩:=f4 rfl
    rw[f5]
    simp only[fj,f1,f2,f6,e1 done b (by omega),e2,av,Nat.reduceAdd]
  ·intro done b q rec ha hq
   obtain⟨f1,f2,f3,f4,f5⟩:=afZ b q (by rw[ha];simp) hq
   have hdl:done.length<=10:=by have:=congrArg List.length ha;simp at this;omega
   simp only[fj,xU,f1,f2,f3,f4,f5,e1 done b hdl,e2,av,Nat.reduceAdd]
   rw[<-ha]
   rfl
end
end
section
inductive aI where
 |v (x:fh)
 |r (x:oP)
 |s (x:xg)
 |b (x:CO)
 |q (x:Bs)
 |m (x:Bs)
 |t (x:Bs)
 |l (x:Bs)
 |c (x:Bs)
 |o (x:jv)
 |a (x:xB)
 |w (x:zC)
def aI.tk (d:dL):aI->ba
 | .v x=>Wp AZ x++[dS]
 | .r x=>reT x++[dS]
 | .s x=>soT x++[dS]
 | .b x=>beT x++[dS]
 | .q x=>Xf Ww x
 | .m x=>Xf PD x
 | .t x=>Xf RY x
 | .l x=>Xf La x
 | .c x=>Xf Wu x
 | .o x=>roT x
 | .a x=>saT (rI d x.rt) x++[dS]
 | .w x=>laT x++[dS]
def dT (d:dL):List aI:=d.vars.map .v++(d.res.map .r++(d.cU.map .s++(d.kX.map .b++(d.fc.map .q++(d.cd.map .m++(d.de.map .t++(d.levels.map .l++(d.counts.map .c++(d.nh.map .o++(d.starts.map .a++(d.laws.map .w)))))))))))
def aI.gV:aI->Option fh| .v x=>some x|_=>none
def aI.gR:aI->Option oP| .r x=>some x|_=>none
def aI.gS:aI->Option xg| .s x=>some x|_=>none
def aI.gB:aI->Option CO| .b x=>some x|_=>none
def aI.gQ:aI->Option Bs| .q x=>some x|_=>none
def aI.gM:aI->Option Bs| .m x=>some x|_=>none
def aI.gT:aI->Option Bs| .t x=>some x|_=>none
def aI.gL:aI->Option Bs| .l x=>some x|_=>none
def aI.gC:aI->Option Bs| .c x=>some x|_=>none
def aI.gO:aI->Option jv| .o x=>some x|_=>none
def aI.gA:aI->Option xB| .a x=>some x|_=>none
def aI.gW:aI->Option zC| .w x=>some x|_=>none
theorem pb {α β:Type} (l:List α):l.filterMap (fun _=>(none:Option β))=[]:=by simp
def gk (D:List aI) (p:Nat):aP:=[.i (p:Int),am (D.filterMap aI.gQ),am (D.filterMap aI.gM),am (D.filterMap aI.gT),am (D.filterMap aI.gL),am (D.filterMap aI.gC),ae fh.cs (D.filterMap aI.gV),ae oP.cs (D.filterMap aI.gR),ae xg.cs (D.filterMap aI.gS),ae CO.cs (D.filterMap aI.gB),ae jv.cs (D.filterMap aI.gO),ae xB.cs (D.filterMap aI.gA),ae zC.cs (D.filterMap aI.gW)]
theorem ari (d:dL):aK (aI.tk d) (dT d)=aK (fun x=>Wp AZ x++[dS]) d.vars++(aK (fun x=>reT x++[dS]) d.res++(aK (fun x=>soT x++[dS]) d.cU++(aK (fun x=>beT x++[dS]) d.kX++(aK (fun x=>Xf Ww x) d.fc++(aK (fun x=>Xf PD x) d.cd++(aK (fun x=>Xf RY x) d.de++(aK (fun x=>Xf La x) d.levels++(aK (fun x=>Xf Wu x) d.counts++(aK (fun x=>roT x) d.nh++(aK (fun x=>saT (rI d x.rt) x++[dS]) d.starts++(aK (fun x=>laT x++[dS]) d.laws))))))))))):=by
 simp[dT,aK,map_append,flatten_append,Function.comp_def,aI.tk]
theorem ayz (d:dL):(dT d).filterMap aI.gV=d.vars:=by
 simp[dT,filterMap_append,filterMap_map,Function.comp_def,aI.gV,pb]
theorem ayw (d:dL):(dT d).filterMap aI.gR=d.res:=by
 simp[dT,filterMap_append,filterMap_map,Function.comp_def,aI.gR,pb]
theorem ayx (d:dL):(dT d).filterMap aI.gS=d.cU:=by
 simp[dT,filterMap_append,filterMap_map,Function.comp_def,aI.gS,pb]
theorem ayq (d:dL):(dT d).filterMap aI.gB=d.kX:=by
 simp[dT,filterMap_append,filterMap_map,Function.comp_def,aI.gB,pb]
theorem ayv (d:dL):(dT d).filterMap aI.gQ=d.fc:=by
 simp[dT,filterMap_append,filterMap_map,Function.comp_def,aI.gQ,pb]
theorem ayt (d:dL):(dT d).filterMap aI.gM=d.cd:=by
 simp[dT,filterMap_append,filterMap_map,Function.comp_def,aI.gM,pb]
theorem ayy (d:dL):(dT d).filterMap aI.gT=d.de:=by
 simp[dT,filterMap_append,filterMap_map,Function.comp_def,aI.gT,pb]
theorem ays (d:dL):(dT d).filterMap aI.gL=d.levels:=by
 simp[dT,filterMap_append,filterMap_map,Function.comp_def,aI.gL,pb]
theorem ayr (d:dL):(dT d).filterMap aI.gC=d.counts:=by
 simp[dT,filterMap_append,filterMap_map,Function.comp_def,aI.gC,pb]
theorem ayu (d:dL):(dT d).filterMap aI.gO=d.nh:=by
 simp[dT,filterMap_append,filterMap_map,Function.comp_def,aI.gO,pb]
theorem ayp (d:dL):(dT d).filterMap aI.gA=d.starts:=by
 simp[dT,filterMap_append,filterMap_map,Function.comp_def,aI.gA,pb]
theorem ayA (d:dL):(dT d).filterMap aI.gW=d.laws:=by
 simp[dT,filterMap_append,filterMap_map,Function.comp_def,aI.gW,pb]
theorem avj (D:List aI) (p:Nat) (x:fh):gk (D++[.v x]) p=[.i (p:Int),am (D.filterMap aI.gQ),am (D.filterMap aI.gM),am (D.filterMap aI.gT),am (D.filterMap aI.gL),am (D.filterMap aI.gC),.l (((D.filterMap aI.gV).map fun x=> .l x.cs)++[.l [.s (bs x.nm),.i x.ty,.i x.n]]),ae oP.cs (D.filterMap aI.gR),ae xg.cs (D.filterMap aI.gS),ae CO.cs (D.filterMap aI.gB),ae jv.cs (D.filterMap aI.gO),ae xB.cs (D.filterMap aI.gA),ae zC.cs (D.filterMap aI.gW)]:=by
 simp[gk,filterMap_append,aI.gV,aI.gR,aI.gS,aI.gB,aI.gQ,aI.gM,aI.gT,aI.gL,aI.gC,aI.gO,aI.gA,aI.gW,ae,am,fh.cs]
theorem avg (D:List aI) (p:Nat) (x:oP):gk (D++[.r x]) p=[.i (p:Int),am (D.filterMap aI.gQ),am (D.filterMap aI.gM),am (D.filterMap aI.gT),am (D.filterMap aI.gL),am (D.filterMap aI.gC),ae fh.cs (D.filterMap aI.gV),.l (((D.filterMap aI.gR).map fun x=> .l x.cs)++[.l [.s (bs x.nm),.i x.gU,ae QQ.cs x.shift,.i x.oh,.s (bs x.fs),.i x.up.op,.i x.up.a,.i x.up.b,.i x.up.n,bY x.up.vs,bY x.up.ws,.i x.down.op,.i x.down.a,.i x.down.b,.i x.down.n,bY x.down.vs,bY x.down.ws]]),ae xg.cs (D.filterMap aI.gS),ae CO.cs (D.filterMap aI.gB),ae jv.cs (D.filterMap aI.gO),ae xB.cs (D.filterMap aI.gA),ae zC.cs (D.filterMap aI.gW)]:=by
 simp[gk,filterMap_append,aI.gV,aI.gR,aI.gS,aI.gB,aI.gQ,aI.gM,aI.gT,aI.gL,aI.gC,aI.gO,aI.gA,aI.gW,ae,am,oP.aA]
theorem avh (D:List aI) (p:Nat) (x:xg):gk (D++[.s x]) p=[.i (p:Int),am (D.filterMap aI.gQ),am (D.filterMap aI.gM),am (D.filterMap aI.gT),am (D.filterMap aI.gL),am (D.filterMap aI.gC),ae fh.cs (D.filterMap aI.gV),ae oP.cs (D.filterMap aI.gR),.l (((D.filterMap aI.gS).map fun x=> .l x.cs)++[.l [.s (bs x.nm),.i x.room,.i x.KN]]),ae CO.cs (D.filterMap aI.gB),ae jv.cs (D.filterMap aI.gO),ae xB.cs (D.filterMap aI.gA),ae zC.cs (D.filterMap aI.gW)]:=by
 simp[gk,filterMap_append,aI.gV,aI.gR,aI.gS,aI.gB,aI.gQ,aI.gM,aI.gT,aI.gL,aI.gC,aI.gO,aI.gA,aI.gW,ae,am,xg.cs]
theorem ava (D:List aI) (p:Nat) (x:CO):gk (D++[.b x]) p=[.i (p:Int),am (D.filterMap aI.gQ),am (D.filterMap aI.gM),am (D.filterMap aI.gT),am (D.filterMap aI.gL),am (D.filterMap aI.gC),ae fh.cs (D.filterMap aI.gV),ae oP.cs (D.filterMap aI.gR),ae xg.cs (D.filterMap aI.gS),.l (((D.filterMap aI.gB).map fun x=> .l x.cs)++[.l [.s (bs x.nm),.i x.length,.i x.step]]),ae jv.cs (D.filterMap aI.gO),ae xB.cs (D.filterMap aI.gA),ae zC.cs (D.filterMap aI.gW)]:=by
 simp[gk,filterMap_append,aI.gV,aI.gR,aI.gS,aI.gB,aI.gQ,aI.gM,aI.gT,aI.gL,aI.gC,aI.gO,aI.gA,aI.gW,ae,am,CO.cs]
theorem avf (D:List aI) (p:Nat) (x:Bs):gk (D++[.q x]) p=[.i (p:Int),.l (((D.filterMap aI.gQ).map fun x=> .s (bs x))++[.s (bs x)]),am (D.filterMap aI.gM),am (D.filterMap aI.gT),am (D.filterMap aI.gL),am (D.filterMap aI.gC),ae fh.cs (D.filterMap aI.gV),ae oP.cs (D.filterMap aI.gR),ae xg.cs (D.filterMap aI.gS),ae CO.cs (D.filterMap aI.gB),ae jv.cs (D.filterMap aI.gO),ae xB.cs (D.filterMap aI.gA),ae zC.cs (D.filterMap aI.gW)]:=by
 simp[gk,filterMap_append,aI.gV,aI.gR,aI.gS,aI.gB,aI.gQ,aI.gM,aI.gT,aI.gL,aI.gC,aI.gO,aI.gA,aI.gW,ae,am]
theorem avd (D:List aI) (p:Nat) (x:Bs):gk (D++[.m x]) p=[.i (p:Int),am (D.filterMap aI.gQ),.l (((D.filterMap aI.gM).map fun x=> .s (bs x))++[.s (bs x)]),am (D.filterMap aI.gT),am (D.filterMap aI.gL),am (D.filterMap aI.gC),ae fh.cs (D.filterMap aI.gV),ae oP.cs (D.filterMap aI.gR),ae xg.cs (D.filterMap aI.gS),ae CO.cs (D.filterMap aI.gB),ae jv.cs (D.filterMap aI.gO),ae xB.cs (D.filterMap aI.gA),ae zC.cs (D.filterMap aI.gW)]:=by
 simp[gk,filterMap_append,aI.gV,aI.gR,aI.gS,aI.gB,aI.gQ,aI.gM,aI.gT,aI.gL,aI.gC,aI.gO,aI.gA,aI.gW,ae,am]
theorem avi (D:List aI) (p:Nat) (x:Bs):gk (D++[.t x]) p=[.i (p:Int),am (D.filterMap aI.gQ),am (D.filterMap aI.gM),.l (((D.filterMap aI.gT).map fun x=> .s (bs x))++[.s (bs x)]),am (D.filterMap aI.gL),am (D.filterMap aI.gC),ae fh.cs (D.filterMap aI.gV),ae oP.cs (D.filterMap aI.gR),ae xg.cs (D.filterMap aI.gS),ae CO.cs (D.filterMap aI.gB),ae jv.cs (D.filterMap aI.gO),ae xB.cs (D.filterMap aI.gA),ae zC.cs (D.filterMap aI.gW)]:=by
 simp[gk,filterMap_append,aI.gV,aI.gR,aI.gS,aI.gB,aI.gQ,aI.gM,aI.gT,aI.gL,aI.gC,aI.gO,aI.gA,aI.gW,ae,am]
theorem avc (D:List aI) (p:Nat) (x:Bs):gk (D++[.l x]) p=[.i (p:Int),am (D.filterMap aI.gQ),am (D.filterMap aI.gM),am (D.filterMap aI.gT),.l (((D.filterMap aI.gL).map fun x=> .s (bs x))++[.s (bs x)]),am (D.filterMap aI.gC),ae fh.cs (D.filterMap aI.gV),ae oP.cs (D.filterMap aI.gR),ae xg.cs (D.filterMap aI.gS),ae CO.cs (D.filterMap aI.gB),ae jv.cs (D.filterMap aI.gO),ae xB.cs (D.filterMap aI.gA),ae zC.cs (D.filterMap aI.gW)]:=by
 simp[gk,filterMap_append,aI.gV,aI.gR,aI.gS,aI.gB,aI.gQ,aI.gM,aI.gT,aI.gL,aI.gC,aI.gO,aI.gA,aI.gW,ae,am]
theorem avb (D:List aI) (p:Nat) (x:Bs):gk (D++[.c x]) p=[.i (p:Int),am (D.filterMap aI.gQ),am (D.filterMap aI.gM),am (D.filterMap aI.gT),am (D.filterMap aI.gL),.l (((D.filterMap aI.gC).map fun x=> .s (bs x))++[.s (bs x)]),ae fh.cs (D.filterMap aI.gV),ae oP.cs (D.filterMap aI.gR),ae xg.cs (D.filterMap aI.gS),ae CO.cs (D.filterMap aI.gB),ae jv.cs (D.filterMap aI.gO),ae xB.cs (D.filterMap aI.gA),ae zC.cs (D.filterMap aI.gW)]:=by
 simp[gk,filterMap_append,aI.gV,aI.gR,aI.gS,aI.gB,aI.gQ,aI.gM,aI.gT,aI.gL,aI.gC,aI.gO,aI.gA,aI.gW,ae,am]
theorem ave (D:List aI) (p:Nat) (x:jv):gk (D++[.o x]) p=[.i (p:Int),am (D.filterMap aI.gQ),am (D.filterMap aI.gM),am (D.filterMap aI.gT),am (D.filterMap aI.gL),am (D.filterMap aI.gC),ae fh.cs (D.filterMap aI.gV),ae oP.cs (D.filterMap aI.gR),ae xg.cs (D.filterMap aI.gS),ae CO.cs (D.filterMap aI.gB),.l (((D.filterMap aI.gO).map fun x=> .l x.cs)++[.l [.s (bs x.nm),ae io.cs x.params,ae io.cs x.locals,ae ax.cs x.body]]),ae xB.cs (D.filterMap aI.gA),ae zC.cs (D.filterMap aI.gW)]:=by
 simp[gk,filterMap_append,aI.gV,aI.gR,aI.gS,aI.gB,aI.gQ,aI.gM,aI.gT,aI.gL,aI.gC,aI.gO,aI.gA,aI.gW,ae,am,jv.cs]
theorem au9 (D:List aI) (p:Nat) (x:xB):gk (D++[.a x]) p=[.i (p:Int),am (D.filterMap aI.gQ),am (D.filterMap aI.gM),am (D.filterMap aI.gT),am (D.filterMap aI.gL),am (D.filterMap aI.gC),ae fh.cs (D.filterMap aI.gV),ae oP.cs (D.filterMap aI.gR),ae xg.cs (D.filterMap aI.gS),ae CO.cs (D.filterMap aI.gB),ae jv.cs (D.filterMap aI.gO),.l (((D.filterMap aI.gA).map fun x=> .l x.cs)++[.l [.s (bs x.rt),bY x.args,.i x.at_,.i x.every,.i x.til]]),ae zC.cs (D.filterMap aI.gW)]:=by
 simp[gk,filterMap_append,aI.gV,aI.gR,aI.gS,aI.gB,aI.gQ,aI.gM,aI.gT,aI.gL,aI.gC,aI.gO,aI.gA,aI.gW,ae,am,xB.cs]
theorem avk (D:List aI) (p:Nat) (x:zC):gk (D++[.w x]) p=[.i (p:Int),am (D.filterMap aI.gQ),am (D.filterMap aI.gM),am (D.filterMap aI.gT),am (D.filterMap aI.gL),am (D.filterMap aI.gC),ae fh.cs (D.filterMap aI.gV),ae oP.cs (D.filterMap aI.gR),ae xg.cs (D.filterMap aI.gS),ae CO.cs (D.filterMap aI.gB),ae jv.cs (D.filterMap aI.gO),ae xB.cs (D.filterMap aI.gA),.l (((D.filterMap aI.gW).map fun x=> .l x.cs)++[.l [.s (bs x.nm),ae rR.cs x.dK,.i x.total]])]:=by
 simp[gk,filterMap_append,aI.gV,aI.gR,aI.gS,aI.gB,aI.gQ,aI.gM,aI.gT,aI.gL,aI.gC,aI.gO,aI.gA,aI.gW,ae,am,zC.cs]
def aI.ok (d:dL):aI->Prop
 | .v x=>x.ok
 | .r x=>x.ok d
 | .s x=>x.ok
 | .b x=>x.ok
 | .o x=>Name x.nm/\x.ok
 | .a x=>x.ok d
 | .w x=>x.ok d
 | .q x=>Name x
 | .m x=>Name x
 | .t x=>Name x
 | .l x=>Name x
 | .c x=>Name x
theorem avl {d:dL} (hd:d.ok):∀x∈dT d,x.ok d:=by
 intro x hx
 simp only[dT,mem_append,mem_map]at hx
 rcases hx with⟨y,hy,rfl⟩|⟨y,hy,rfl⟩|⟨y,hy,rfl⟩|⟨y,hy,rfl⟩|⟨y,hy,rfl⟩|⟨y,hy,rfl⟩|⟨y,hy,rfl⟩|⟨y,hy,rfl⟩|⟨y,hy,rfl⟩|⟨y,hy,rfl⟩|⟨y,hy,rfl⟩|⟨y,hy,rfl⟩
 ·exact hd.v y hy
 ·exact hd.r y hy
 ·exact hd.s y hy
 ·exact hd.b y hy
 ·exact hd.n1 y hy
 ·exact hd.n2 y hy
 ·exact hd.n3 y hy
 ·exact hd.n4 y hy
 ·exact hd.n5 y hy
 ·exact hd.t y hy
 ·exact hd.a y hy
 ·exact hd.l y hy
section
variable {L:pO}
theorem axm (hC:xi L){d:dL} (hn:Name d.nm) (hd:d.ok){p:Nat}{v:ff}{r:ba} (h:cF L p (wT d.nm::dS::(aK (aI.tk d) (dT d)++wT ep::dS::v::r))):
 nP.F [TK L,.i (p:Int)]=some (d.cs++[.i ((p+2+(aK (aI.tk d) (dT d)).length+1:Nat):Int)]):=by
 have hl:(dT d).length<=400:=by
  have:=hd.vl;have:=hd.rl;have:=hd.sl;have:=hd.bl;have:=hd.l1;have:=hd.l2;have:=hd.l3;have:=hd.l4;have:=hd.l5;have:=hd.tl;have:=hd.al;have:=hd.ll
  simp only[dT,length_append,length_map]
  omega
 have dI:=avl hd
 have g1:=ei hn h
 obtain⟨w0,y0,FE⟩:∃w y,aK (aI.tk d) (dT d)++wT ep::dS::v::r=w::y:=by
  cases hc:aK (aI.tk d) (dT d)++wT ep::dS::v::r with
  |nil=>simp at hc
  |cons a b=>exact⟨a,b,rfl⟩
 have hx0:=h
 rw[FE]at hx0
 have g2:=fJ hx0.step
 have eE:∀q:Nat,gk [] q=[.i (q:Int),.l [],.l [],.l [],.l [],.l [],.l [],.l [],.l [],.l [],.l [],.l [],.l []]:=fun q=>rfl
 rw[O8]
 simp only[tg,Kn,Ko,g1,g2,av,Nat.reduceAdd]
 generalize hDs:dT d=Ds at*
 refine cu (fun i=>gk (Ds.take i) (p+1+1+(aK (aI.tk d) (Ds.take i)).length)) Ds.length (by simp[eE,aK];omega) (by omega) (fun i hi rec=> ?_) (fun rec=> ?_)
 ·obtain⟨x,hx⟩:=aV hi
  obtain⟨e1,e2⟩:=RQ (t:=aI.tk d) hx
  have vf:=dI x (aM hx)
  have h1:cF L (p+1+1+(aK (aI.tk d) (Ds.take i)).length) (x.tk d++(aK (aI.tk d) (Ds.drop (i+1))++wT ep::dS::v::r)):=by
   have:cF L (p+1+1) (aK (aI.tk d) (Ds.take i)++(x.tk d++(aK (aI.tk d) (Ds.drop (i+1))++wT ep::dS::v::r))):=by
    have h2:=h.step.step
    rw[e1]at h2;simpa only[append_assoc]using h2
   exact this.app
  obtain⟨u,y,hu⟩:∃w y,aK (aI.tk d) (Ds.drop (i+1))++wT ep::dS::v::r=w::y:=by
   cases hc:aK (aI.tk d) (Ds.drop (i+1))++wT ep::dS::v::r with
   |nil=>simp at hc
   |cons a b=>exact⟨a,b,rfl⟩
  rw[hu]at h1
  rw[<-fN hx,show p+1+1+(aK (aI.tk d) (Ds.take i++[x])).length=(p+1+1+(aK (aI.tk d) (Ds.take i)).length)+(x.tk d).length by rw[fN hx,e2,length_append];omega]
  have hDl:(Ds.take i).length<=400:=by simp;omega
  generalize p+1+1+(aK (aI.tk d) (Ds.take i)).length=P at*
  generalize Ds.take i=D at*
  clear hu e1 e2 hx hi
  have EI:∀(β:Type) (f:aI->Option β),(D.filterMap f).length<=400:=fun β f=>Nat.le_trans (length_filterMap_le f D) hDl
  cases x with
  |v x=>
   have vf:aI.ok d (.v x):=vf
   simp only[aI.ok]at vf
   have h0:cF L P (wT AZ::(wT x.nm::wT (kD x.ty)::sT UA::(kV x.ty x.n++dS::u::y))):=by simpa[aI.tk,Wp]using h1
   have g:=fun v=>cS h0 v
   have gw:=me h0 [AZ,zm,MC,Mz,Fe,JH,FO] (by simp) (by decide)
   rw[show cN (fun w:Bs=>(wT AZ).is w) [AZ,zm,MC,Mz,Fe,JH,FO]=0 from by decide]at gw
   simp only[am,map_cons,map_nil]at gw
   have f1:=akE vf h0.step
   have f2:=fJ h0.step.step.step.step.app
   rw[show P+1+1+1+1+(kV x.ty x.n).length=P+1+3+(kV x.ty x.n).length by omega]at f2
   have rP:((((D.filterMap aI.gV).map (fun x=>Sc.l x.cs)++[Sc.l [.s (bs x.nm),.i x.ty,.i x.n]]).length:Nat):Int)<=4398046511104:=by have:=EI _ aI.gV;simp only[length_append,length_map,length_cons,length_nil];omega
   have lY:∀Q:Nat,Q=P+(aI.tk d (.v x)).length->gk (D++[.v x]) (P+(aI.tk d (.v x)).length)=gk (D++[.v x]) Q:=fun Q hQ=>by rw[hQ]
   rw[lY (P+1+3+(kV x.ty x.n).length+1) (by simp only[aI.tk,Wp];simp;try omega),avj]
   simp only[gk,bD,g,ed,gw,Kp,f1,f2,fZ,map_cons,map_nil,Nat.reduceMod,List.cons.injEq,reduceEqDiff,reduceCtorEq,and_true,and_false,and_self,pX,rP,av,Nat.reduceAdd,reduceEqDiff,reduceCtorEq,reduceEq]
  |r x=>
   have vf:aI.ok d (.r x):=vf
   simp only[aI.ok]at vf
   have h0:cF L P (wT zm::(wT x.nm::nT x.gU::((Py x++Cc x)++dS::u::y))):=by simpa[aI.tk,reT]using h1
   have g:=fun v=>cS h0 v
   have gw:=me h0 [AZ,zm,MC,Mz,Fe,JH,FO] (by simp) (by decide)
   rw[show cN (fun w:Bs=>(wT zm).is w) [AZ,zm,MC,Mz,Fe,JH,FO]=1 from by decide]at gw
   simp only[am,map_cons,map_nil]at gw
   have f1:=aiK vf hd.n2 h0.step
   have f2:=fJ h0.step.step.step.app
   rw[show P+1+1+1+(Py x++Cc x).length=P+1+2+(Py x++Cc x).length by omega]at f2
   rw[oP.aA]at f1
   simp only[cons_append,nil_append]at f1
   generalize hZ:P+1+2+(Py x++Cc x).length=Z at*
   have rP:((((D.filterMap aI.gR).map (fun x=>Sc.l x.cs)++[Sc.l [.s (bs x.nm),.i x.gU,ae QQ.cs x.shift,.i x.oh,.s (bs x.fs),.i x.up.op,.i x.up.a,.i x.up.b,.i x.up.n,bY x.up.vs,bY x.up.ws,.i x.down.op,.i x.down.a,.i x.down.b,.i x.down.n,bY x.down.vs,bY x.down.ws]]).length:Nat):Int)<=606627104979:=by have:=EI _ aI.gR;simp only[length_append,length_map,length_cons,length_nil];omega
   have lY:∀Q:Nat,Q=P+(aI.tk d (.r x)).length->gk (D++[.r x]) (P+(aI.tk d (.r x)).length)=gk (D++[.r x]) Q:=fun Q hQ=>by rw[hQ]
   rw[lY (Z+1) (by simp only[aI.tk,reT,length_append,length_cons,length_nil]at hZ⊢;omega),avg]
   simp only[gk,bD,g,ed,gw,IU,f1,f2,fZ,map_cons,map_nil,Nat.reduceMod,List.cons.injEq,reduceEqDiff,reduceCtorEq,and_false,and_self,pX,rP,av,Nat.reduceAdd,reduceEqDiff,reduceCtorEq,reduceEq]
  |s x=>
   have vf:aI.ok d (.s x):=vf
   simp only[aI.ok]at vf
   have h0:cF L P (wT MC::(wT x.nm::nT x.room::wT (rJ x.KN)::dS::u::y)):=by simpa[aI.tk,soT]using h1
   have g:=fun v=>cS h0 v
   have gw:=me h0 [AZ,zm,MC,Mz,Fe,JH,FO] (by simp) (by decide)
   rw[show cN (fun w:Bs=>(wT MC).is w) [AZ,zm,MC,Mz,Fe,JH,FO]=2 from by decide]at gw
   simp only[am,map_cons,map_nil]at gw
   have f1:=ei vf.1 h0.step
   have f2:=dh h0.step.step
   have f3:=alN vf.2.2 h0.step.step.step
   have f4:=fJ h0.step.step.step.step
   have rP:((((D.filterMap aI.gS).map (fun x=>Sc.l x.cs)++[Sc.l [.s (bs x.nm),.i x.room,.i x.KN]]).length:Nat):Int)<=4398046511104:=by have:=EI _ aI.gS;simp only[length_append,length_map,length_cons,length_nil];omega
   have lY:∀Q:Nat,Q=P+(aI.tk d (.s x)).length->gk (D++[.s x]) (P+(aI.tk d (.s x)).length)=gk (D++[.s x]) Q:=fun Q hQ=>by rw[hQ]
   rw[lY (P+1+1+1+1+1) (by simp only[aI.tk,soT];simp;try omega),avh]
   simp only[gk,bD,g,ed,gw,xV,IV,f1,f2,f3,f4,fZ,map_cons,map_nil,Nat.reduceMod,List.cons.injEq,reduceEqDiff,reduceCtorEq,and_true,and_false,and_self,pX,rP,av,Nat.reduceAdd,reduceEqDiff,reduceCtorEq,reduceEq]
  |b x=>
   have vf:aI.ok d (.b x):=vf
   simp only[aI.ok]at vf
   have h0:cF L P (wT Mz::(wT x.nm::nT x.length::nT x.step::dS::u::y)):=by simpa[aI.tk,beT]using h1
   have g:=fun v=>cS h0 v
   have gw:=me h0 [AZ,zm,MC,Mz,Fe,JH,FO] (by simp) (by decide)
   rw[show cN (fun w:Bs=>(wT Mz).is w) [AZ,zm,MC,Mz,Fe,JH,FO]=3 from by decide]at gw
   simp only[am,map_cons,map_nil]at gw
   have f1:=ei vf.1 h0.step
   have f2:=dh h0.step.step
   have f3:=dh h0.step.step.step
   have f4:=fJ h0.step.step.step.step
   have rP:((((D.filterMap aI.gB).map (fun x=>Sc.l x.cs)++[Sc.l [.s (bs x.nm),.i x.length,.i x.step]]).length:Nat):Int)<=4398046511104:=by have:=EI _ aI.gB;simp only[length_append,length_map,length_cons,length_nil];omega
   have lY:∀Q:Nat,Q=P+(aI.tk d (.b x)).length->gk (D++[.b x]) (P+(aI.tk d (.b x)).length)=gk (D++[.b x]) Q:=fun Q hQ=>by rw[hQ]
   rw[lY (P+1+1+1+1+1) (by simp only[aI.tk,beT];simp;try omega),ava]
   simp only[gk,bD,g,ed,gw,xV,f1,f2,f3,f4,fZ,map_cons,map_nil,Nat.reduceMod,List.cons.injEq,reduceEqDiff,reduceCtorEq,and_false,and_self,pX,rP,av,Nat.reduceAdd,reduceEqDiff,reduceCtorEq,reduceEq]
  |q x=>
   have vf:aI.ok d (.q x):=vf
   simp only[aI.ok]at vf
   have h0:cF L P (wT Ww::(wT x::dS::u::y)):=by simpa[aI.tk,Xf]using h1
   have f1:=ei vf h0.step
   have f2:=fJ h0.step.step
   have g:=fun v=>cS h0 v
   have rP:((((D.filterMap aI.gQ).map (fun x=>Sc.s (bs x))++[Sc.s (bs x)]).length:Nat):Int)<=8796093022208:=by have:=EI _ aI.gQ;simp only[length_append,length_map,length_cons,length_nil];omega
   have lY:∀Q:Nat,Q=P+(aI.tk d (.q x)).length->gk (D++[.q x]) (P+(aI.tk d (.q x)).length)=gk (D++[.q x]) Q:=fun Q hQ=>by rw[hQ]
   rw[lY (P+1+1+1) (by simp only[aI.tk,Xf];simp;try omega),avf]
   simp only[gk,bD,g,f1,f2,fZ,map_cons,map_nil,Nat.reduceMod,List.cons.injEq,reduceEqDiff,reduceCtorEq,and_self,pX,rP,av,Nat.reduceAdd,reduceEqDiff,reduceCtorEq]
  |m x=>
   have vf:aI.ok d (.m x):=vf
   simp only[aI.ok]at vf
   have h0:cF L P (wT PD::(wT x::dS::u::y)):=by simpa[aI.tk,Xf]using h1
   have f1:=ei vf h0.step
   have f2:=fJ h0.step.step
   have g:=fun v=>cS h0 v
   have rP:((((D.filterMap aI.gM).map (fun x=>Sc.s (bs x))++[Sc.s (bs x)]).length:Nat):Int)<=8796093022208:=by have:=EI _ aI.gM;simp only[length_append,length_map,length_cons,length_nil];omega
   have lY:∀Q:Nat,Q=P+(aI.tk d (.m x)).length->gk (D++[.m x]) (P+(aI.tk d (.m x)).length)=gk (D++[.m x]) Q:=fun Q hQ=>by rw[hQ]
   rw[lY (P+1+1+1) (by simp only[aI.tk,Xf];simp;try omega),avd]
   simp only[gk,bD,g,f1,f2,fZ,map_cons,map_nil,Nat.reduceMod,List.cons.injEq,reduceEqDiff,reduceCtorEq,and_self,pX,rP,av,Nat.reduceAdd,reduceEqDiff,reduceCtorEq]
  |t x=>
   have vf:aI.ok d (.t x):=vf
   simp only[aI.ok]at vf
   have h0:cF L P (wT RY::(wT x::dS::u::y)):=by simpa[aI.tk,Xf]using h1
   have f1:=ei vf h0.step
   have f2:=fJ h0.step.step
   have g:=fun v=>cS h0 v
   have rP:((((D.filterMap aI.gT).map (fun x=>Sc.s (bs x))++[Sc.s (bs x)]).length:Nat):Int)<=8796093022208:=by have:=EI _ aI.gT;simp only[length_append,length_map,length_cons,length_nil];omega
   have lY:∀Q:Nat,Q=P+(aI.tk d (.t x)).length->gk (D++[.t x]) (P+(aI.tk d (.t x)).length)=gk (D++[.t x]) Q:=fun Q hQ=>by rw[hQ]
   rw[lY (P+1+1+1) (by simp only[aI.tk,Xf];simp;try omega),avi]
   simp only[gk,bD,g,f1,f2,fZ,map_cons,map_nil,Nat.reduceMod,List.cons.injEq,reduceEqDiff,reduceCtorEq,and_true,and_self,pX,rP,av,Nat.reduceAdd,reduceEqDiff,reduceCtorEq]
  |l x=>
   have vf:aI.ok d (.l x):=vf
   simp only[aI.ok]at vf
   have h0:cF L P (wT La::(wT x::dS::u::y)):=by simpa[aI.tk,Xf]using h1
   have f1:=ei vf h0.step
   have f2:=fJ h0.step.step
   have g:=fun v=>cS h0 v
   have rP:((((D.filterMap aI.gL).map (fun x=>Sc.s (bs x))++[Sc.s (bs x)]).length:Nat):Int)<=8796093022208:=by have:=EI _ aI.gL;simp only[length_append,length_map,length_cons,length_nil];omega
   have lY:∀Q:Nat,Q=P+(aI.tk d (.l x)).length->gk (D++[.l x]) (P+(aI.tk d (.l x)).length)=gk (D++[.l x]) Q:=fun Q hQ=>by rw[hQ]
   rw[lY (P+1+1+1) (by simp only[aI.tk,Xf];simp;try omega),avc]
   simp only[gk,bD,g,f1,f2,fZ,map_cons,map_nil,Nat.reduceMod,List.cons.injEq,reduceEqDiff,reduceCtorEq,and_true,and_false,and_self,pX,rP,av,Nat.reduceAdd,reduceEqDiff,reduceCtorEq]
  |c x=>
   have vf:aI.ok d (.c x):=vf
   simp only[aI.ok]at vf
   have h0:cF L P (wT Wu::(wT x::dS::u::y)):=by simpa[aI.tk,Xf]using h1
   have f1:=ei vf h0.step
   have f2:=fJ h0.step.step
   have g:=fun v=>cS h0 v
   have rP:((((D.filterMap aI.gC).map (fun x=>Sc.s (bs x))++[Sc.s (bs x)]).length:Nat):Int)<=8796093022208:=by have:=EI _ aI.gC;simp only[length_append,length_map,length_cons,length_nil];omega
   have lY:∀Q:Nat,Q=P+(aI.tk d (.c x)).length->gk (D++[.c x]) (P+(aI.tk d (.c x)).length)=gk (D++[.c x]) Q:=fun Q hQ=>by rw[hQ]
   rw[lY (P+1+1+1) (by simp only[aI.tk,Xf];simp;try omega),avb]
   simp only[gk,bD,g,f1,f2,fZ,map_cons,map_nil,Nat.reduceMod,List.cons.injEq,reduceEqDiff,reduceCtorEq,and_true,and_self,pX,rP,av,Nat.reduceAdd,reduceEqDiff,reduceCtorEq]
  |o x=>
   have vf:aI.ok d (.o x):=vf
   simp only[aI.ok]at vf
   have h0:cF L P (wT Fe::(wT x.nm::sT cI::(bV (x.params.map fiT)++sT cj::dS::(aK Qt x.locals++(ax.nJ x.body++wT ep::dS::u::y))))):=by simpa[aI.tk,roT]using h1
   have g:=fun v=>cS h0 v
   have gw:=me h0 [AZ,zm,MC,Mz,Fe,JH,FO] (by simp) (by decide)
   rw[show cN (fun w:Bs=>(wT Fe).is w) [AZ,zm,MC,Mz,Fe,JH,FO]=4 from by decide]at gw
   simp only[am,map_cons,map_nil]at gw
   have f1:=alM hC vf.1 vf.2 h0.step
   unfold jv.cs at f1
   simp only[cons_append,nil_append]at f1
   have jW:=h0.step.step.step.app.step.step.app.app.step
   have UZ:P+1+(roT x).length-2=P+1+1+1+(bV (x.params.map fiT)).length+1+1+(aK Qt x.locals).length+(ax.nJ x.body).length+1:=by unfold roT;simp;omega
   have atM:(roT x).length=P+1+(roT x).length-2+1-P:=by unfold roT;simp;omega
   rw[<-UZ]at jW
   generalize hZ:P+1+(roT x).length-2=Z at*
   have f2:=fJ jW
   have rP:((((D.filterMap aI.gO).map (fun x=>Sc.l x.cs)++[Sc.l [.s (bs x.nm),ae io.cs x.params,ae io.cs x.locals,ae ax.cs x.body]]).length:Nat):Int)<=1599289640401:=by have:=EI _ aI.gO;simp only[length_append,length_map,length_cons,length_nil];omega
   have lY:∀Q:Nat,Q=P+(aI.tk d (.o x)).length->gk (D++[.o x]) (P+(aI.tk d (.o x)).length)=gk (D++[.o x]) Q:=fun Q hQ=>by rw[hQ]
   rw[lY (Z+1) (by show Z+1=P+(roT x).length;omega),ave]
   simp only[gk,bD,g,ed,gw,IW,f1,f2,fZ,map_cons,map_nil,Nat.reduceMod,List.cons.injEq,reduceEqDiff,reduceCtorEq,and_false,and_self,pX,rP,av,Nat.reduceAdd,reduceEqDiff,reduceCtorEq,reduceEq]
  |a x=>
   have vf:aI.ok d (.a x):=vf
   simp only[aI.ok]at vf
   have h0:cF L P (wT JH::(wT x.rt::sT cI::(bV (Ht (rI d x.rt) x.args)++sT cj::wT Uz::nT x.at_::(evT x++dS::u::y)))):=by simpa[aI.tk,saT,evT]using h1
   have g:=fun v=>cS h0 v
   have gw:=me h0 [AZ,zm,MC,Mz,Fe,JH,FO] (by simp) (by decide)
   rw[show cN (fun w:Bs=>(wT JH).is w) [AZ,zm,MC,Mz,Fe,JH,FO]=5 from by decide]at gw
   simp only[am,map_cons,map_nil]at gw
   have f1:=asH hd vf h0.step
   unfold xB.cs at f1
   simp only[cons_append,nil_append]at f1
   have jW:=h0.step.step.step.app.step.step.step.app
   have UZ:P+1+(saT (rI d x.rt) x).length-1=P+1+1+1+(bV (Ht (rI d x.rt) x.args)).length+1+1+1+(evT x).length:=by unfold saT evT;simp;omega
   have atM:1<=(saT (rI d x.rt) x).length:=by unfold saT;simp
   rw[<-UZ]at jW
   generalize hZ:P+1+(saT (rI d x.rt) x).length-1=Z at*
   have f2:=fJ jW
   have rP:((((D.filterMap aI.gA).map (fun x=>Sc.l x.cs)++[Sc.l [.s (bs x.rt),bY x.args,.i x.at_,.i x.every,.i x.til]]).length:Nat):Int)<=2199023255552:=by have:=EI _ aI.gA;simp only[length_append,length_map,length_cons,length_nil];omega
   have lY:∀Q:Nat,Q=P+(aI.tk d (.a x)).length->gk (D++[.a x]) (P+(aI.tk d (.a x)).length)=gk (D++[.a x]) Q:=fun Q hQ=>by rw[hQ]
   rw[lY (Z+1) (by simp only[aI.tk,length_append,length_cons,length_nil];omega),au9]
   simp only[gk,bD,g,ed,gw,IX,f1,f2,fZ,map_cons,map_nil,Nat.reduceMod,List.cons.injEq,reduceEqDiff,reduceCtorEq,and_true,and_false,and_self,pX,rP,av,Nat.reduceAdd,reduceEqDiff,reduceCtorEq,reduceEq]
  |w x=>
   have vf:aI.ok d (.w x):=vf
   simp only[aI.ok]at vf
   have h0:cF L P (wT FO::(wT x.nm::sT nt::(ai9 x.dK++sT UA::(ng x.total++dS::u::y)))):=by simpa[aI.tk,laT]using h1
   have g:=fun v=>cS h0 v
   have gw:=me h0 [AZ,zm,MC,Mz,Fe,JH,FO] (by simp) (by decide)
   rw[show cN (fun w:Bs=>(wT FO).is w) [AZ,zm,MC,Mz,Fe,JH,FO]=6 from by decide]at gw
   simp only[am,map_cons,map_nil]at gw
   have f1:=aAr hd vf h0.step
   unfold zC.cs at f1
   simp only[cons_append,nil_append]at f1
   have jW:=h0.step.step.step.app.step.app
   have UZ:P+1+(laT x).length-1=P+1+1+1+(ai9 x.dK).length+1+(ng x.total).length:=by unfold laT;simp;omega
   have atM:1<=(laT x).length:=by unfold laT;simp
   rw[<-UZ]at jW
   generalize hZ:P+1+(laT x).length-1=Z at*
   have f2:=fJ jW
   have rP:((((D.filterMap aI.gW).map (fun x=>Sc.l x.cs)++[Sc.l [.s (bs x.nm),ae rR.cs x.dK,.i x.total]]).length:Nat):Int)<=2932031007402:=by have:=EI _ aI.gW;simp only[length_append,length_map,length_cons,length_nil];omega
   have lY:∀Q:Nat,Q=P+(aI.tk d (.w x)).length->gk (D++[.w x]) (P+(aI.tk d (.w x)).length)=gk (D++[.w x]) Q:=fun Q hQ=>by rw[hQ]
   rw[lY (Z+1) (by simp only[aI.tk,length_append,length_cons,length_nil];omega),avk]
   simp only[gk,bD,g,ed,gw,IY,f1,f2,fZ,map_cons,map_nil,Nat.reduceMod,List.cons.injEq,reduceEqDiff,reduceCtorEq,and_false,and_self,pX,rP,av,Nat.reduceAdd,reduceEqDiff,reduceCtorEq,reduceEq]
 ·show _=_
  have X3:=h.step.step.app
  have g:=cS X3 ep
  rw[show(wT ep).is ep=true from by decide]at g
  simp only[take_length]
  rw[show p+2+(aK (aI.tk d) Ds).length+1=p+1+1+(aK (aI.tk d) Ds).length+1 by omega]
  generalize p+1+1+(aK (aI.tk d) Ds).length=P at*
  subst hDs
  simp only[gk,bD,g,ayz,ayw,ayx,ayq,ayv,ayt,ayy,ays,ayr,ayu,ayp,ayA,av,Nat.reduceAdd]
  rfl
end
end
section
inductive nL where
 |p (x:fh)
 |k (x:HR)
 |t (x:dL)
def nL.tk:nL->ba
 | .p x=>Wp Lc x++[dS]
 | .k x=>liT x
 | .t x=>Xk x
def sJ (m:kL):List nL:=m.params.map .p++(m.iH.map .k++(m.sites.map .t))
def nL.gP:nL->Option fh| .p x=>some x|_=>none
def nL.gK:nL->Option HR| .k x=>some x|_=>none
def nL.gT:nL->Option dL| .t x=>some x|_=>none
def Mq (D:List nL) (p:Nat):aP:=[.i (p:Int),ae fh.cs (D.filterMap nL.gP),ae HR.cs (D.filterMap nL.gK),ae dL.cs (D.filterMap nL.gT)]
theorem ar4 (m:kL):aK nL.tk (sJ m)=aK (fun x=>Wp Lc x++[dS]) m.params++(aK (fun x=>liT x) m.iH++(aK (fun x=>Xk x) m.sites)):=by
 simp[sJ,aK,map_append,flatten_append,Function.comp_def,nL.tk]
theorem aAD (m:kL):(sJ m).filterMap nL.gP=m.params:=by
 simp[sJ,filterMap_append,filterMap_map,Function.comp_def,nL.gP,pb]
theorem aAC (m:kL):(sJ m).filterMap nL.gK=m.iH:=by
 simp[sJ,filterMap_append,filterMap_map,Function.comp_def,nL.gK,pb]
theorem aAE (m:kL):(sJ m).filterMap nL.gT=m.sites:=by
 simp[sJ,filterMap_append,filterMap_map,Function.comp_def,nL.gT,pb]
theorem awu (D:List nL) (p:Nat) (x:fh):Mq (D++[.p x]) p=[.i (p:Int),.l (((D.filterMap nL.gP).map fun x=> .l x.cs)++[.l [.s (bs x.nm),.i x.ty,.i x.n]]),ae HR.cs (D.filterMap nL.gK),ae dL.cs (D.filterMap nL.gT)]:=by
 simp[Mq,filterMap_append,nL.gP,nL.gK,nL.gT,ae,fh.cs]
theorem awt (D:List nL) (p:Nat) (x:HR):Mq (D++[.k x]) p=[.i (p:Int),ae fh.cs (D.filterMap nL.gP),.l (((D.filterMap nL.gK).map fun x=> .l x.cs)++[.l [.s (bs x.from_),.s (bs x.aJL),.i x.ue]]),ae dL.cs (D.filterMap nL.gT)]:=by
 simp[Mq,filterMap_append,nL.gP,nL.gK,nL.gT,ae,HR.cs]
theorem awv (D:List nL) (p:Nat) (x:dL):Mq (D++[.t x]) p=[.i (p:Int),ae fh.cs (D.filterMap nL.gP),ae HR.cs (D.filterMap nL.gK),.l (((D.filterMap nL.gT).map fun x=> .l x.cs)++[.l [.s (bs x.nm),ae fh.cs x.vars,ae oP.cs x.res,ae xg.cs x.cU,ae CO.cs x.kX,am x.fc,am x.cd,am x.de,am x.levels,am x.counts,ae jv.cs x.nh,ae xB.cs x.starts,ae zC.cs x.laws]])]:=by
 simp[Mq,filterMap_append,nL.gP,nL.gK,nL.gT,ae,dL.cs,am]
def nL.ok (m:kL):nL->Prop
 | .p x=>x.ok
 | .k x=>Name x.from_/\Name x.aJL
 | .t x=>Name x.nm/\x.ok
theorem aww {m:kL} (hm:m.ok):∀x∈sJ m,x.ok m:=by
 intro x hx
 simp only[sJ,mem_append,mem_map]at hx
 rcases hx with⟨y,hy,rfl⟩|⟨y,hy,rfl⟩|⟨y,hy,rfl⟩
 ·exact hm.p y hy
 ·obtain⟨⟨s1,q1,e1⟩,⟨s2,q2,e2⟩,q3⟩:=hm.l y hy
  exact⟨e1▸(hm.s s1 q1).1,e2▸(hm.s s2 q2).1⟩
 ·exact hm.s y hy
theorem ac2 (d:dL):Xk d=wT Ox::wT d.nm::dS::(aK (aI.tk d) (dT d)++[wT ep,dS]):=by
 rw[ari]
 unfold Xk
 simp only[append_assoc]
 try rfl
theorem aka (m:kL):moT m=wT Yj::wT m.nm::dS::(aK nL.tk (sJ m)++[wT ep,dS]):=by
 rw[ar4]
 unfold moT
 simp only[append_assoc]
 try rfl
section
variable {L:pO}
theorem ar6 (hC:xi L){m:kL} (hm:m.ok) (h:cF L 0 (moT m++[enT])):
 m0.F [TK L,.i 0]=some (m.cs++[.i (((moT m).length:Nat):Int)]):=by
 have hl:(sJ m).length<=400:=by
  have:=hm.pl;have:=hm.sl;have:=hm.ll
  simp only[sJ,length_append,length_map]
  omega
 have dI:=aww hm
 have UZ:(moT m).length=0+1+1+1+(aK nL.tk (sJ m)).length+1+1:=by rw[aka];simp;omega
 rw[UZ]
 rw[aka]at h
 simp only[cons_append,append_assoc,nil_append]at h
 obtain⟨w0,y0,FE⟩:∃w y,aK nL.tk (sJ m)++wT ep::dS::[enT]=w::y:=by
  cases hc:aK nL.tk (sJ m)++wT ep::dS::[enT]with
  |nil=>simp at hc
  |cons a b=>exact⟨a,b,rfl⟩
 have hx0:=h
 rw[FE]at hx0
 have g0:=dk hx0 Yj (by decide)
 have g1:=ei hm.nm hx0.step
 have g2:=fJ hx0.step.step
 have eE:∀q:Nat,Mq [] q=[.i (q:Int),.l [],.l [],.l []]:=fun q=>rfl
 have e0:((0:Nat):Int)=0:=rfl
 rw[e0]at g0
 rw[Ni]
 simp only[qV,IE,IG,IH,g0,g1,g2,av,Nat.reduceAdd]
 generalize hDs:sJ m=Ds at*
 refine cu (fun i=>Mq (Ds.take i) (0+1+1+1+(aK nL.tk (Ds.take i)).length)) Ds.length (by simp[eE,aK]) (by omega) (fun i hi rec=> ?_) (fun rec=> ?_)
 ·obtain⟨x,hx⟩:=aV hi
  obtain⟨e1,e2⟩:=RQ (t:=nL.tk) hx
  have vf:=dI x (aM hx)
  have h1:cF L (0+1+1+1+(aK nL.tk (Ds.take i)).length) (x.tk++(aK nL.tk (Ds.drop (i+1))++wT ep::dS::[enT])):=by
   have:cF L (0+1+1+1) (aK nL.tk (Ds.take i)++(x.tk++(aK nL.tk (Ds.drop (i+1))++wT ep::dS::[enT]))):=by
    have h2:=h.step.step.step
    rw[e1]at h2;simpa only[append_assoc]using h2
   exact this.app
  obtain⟨u,y,hu⟩:∃w y,aK nL.tk (Ds.drop (i+1))++wT ep::dS::[enT]=w::y:=by
   cases hc:aK nL.tk (Ds.drop (i+1))++wT ep::dS::[enT]with
   |nil=>simp at hc
   |cons a b=>exact⟨a,b,rfl⟩
  rw[hu]at h1
  rw[<-fN hx,show 0+1+1+1+(aK nL.tk (Ds.take i++[x])).length=(0+1+1+1+(aK nL.tk (Ds.take i)).length)+x.tk.length by rw[fN hx,e2,length_append];omega]
  have hDl:(Ds.take i).length<=400:=by simp;omega
  generalize 0+1+1+1+(aK nL.tk (Ds.take i)).length=P at*
  generalize Ds.take i=D at*
  clear hu e1 e2 hx hi
  have EI:∀(β:Type) (f:nL->Option β),(D.filterMap f).length<=400:=fun β f=>Nat.le_trans (length_filterMap_le f D) hDl
  cases x with
  |p x=>
   have vf:nL.ok m (.p x):=vf
   simp only[nL.ok]at vf
   have h0:cF L P (wT Lc::(wT x.nm::wT (kD x.ty)::sT UA::(kV x.ty x.n++dS::u::y))):=by simpa[nL.tk,Wp]using h1
   have g:=fun v=>cS h0 v
   have gw:=me h0 [Lc,MB,Ox] (by simp) (by decide)
   rw[show cN (fun w:Bs=>(wT Lc).is w) [Lc,MB,Ox]=0 from by decide]at gw
   simp only[am,map_cons,map_nil]at gw
   have f1:=akE vf h0.step
   have f2:=fJ h0.step.step.step.step.app
   rw[show P+1+1+1+1+(kV x.ty x.n).length=P+1+3+(kV x.ty x.n).length by omega]at f2
   have rP:((((D.filterMap nL.gP).map (fun x=>Sc.l x.cs)++[Sc.l [.s (bs x.nm),.i x.ty,.i x.n]]).length:Nat):Int)<=4398046511104:=by have:=EI _ nL.gP;simp only[length_append,length_map,length_cons,length_nil];omega
   have lY:∀Q:Nat,Q=P+(nL.tk (.p x)).length->Mq (D++[.p x]) (P+(nL.tk (.p x)).length)=Mq (D++[.p x]) Q:=fun Q hQ=>by rw[hQ]
   rw[lY (P+1+3+(kV x.ty x.n).length+1) (by simp only[nL.tk,Wp];simp;try omega),awu]
   simp only[Mq,kj,oo,g,gw,II,f1,f2,fZ,map_cons,map_nil,Nat.reduceMod,List.cons.injEq,reduceEqDiff,reduceCtorEq,and_self,pX,rP,av,Nat.reduceAdd,reduceEqDiff,reduceCtorEq,reduceEq]
  |k x=>
   have vf:nL.ok m (.k x):=vf
   simp only[nL.ok]at vf
   have h0:cF L P (wT MB::(wT x.from_::wT x.aJL::nT x.ue::dS::u::y)):=by simpa[nL.tk,liT]using h1
   have g:=fun v=>cS h0 v
   have gw:=me h0 [Lc,MB,Ox] (by simp) (by decide)
   rw[show cN (fun w:Bs=>(wT MB).is w) [Lc,MB,Ox]=1 from by decide]at gw
   simp only[am,map_cons,map_nil]at gw
   have f1:=ei vf.1 h0.step
   have f2:=ei vf.2 h0.step.step
   have f3:=dh h0.step.step.step
   have f4:=fJ h0.step.step.step.step
   have rP:((((D.filterMap nL.gK).map (fun x=>Sc.l x.cs)++[Sc.l [.s (bs x.from_),.s (bs x.aJL),.i x.ue]]).length:Nat):Int)<=3518437208883:=by have:=EI _ nL.gK;simp only[length_append,length_map,length_cons,length_nil];omega
   have lY:∀Q:Nat,Q=P+(nL.tk (.k x)).length->Mq (D++[.k x]) (P+(nL.tk (.k x)).length)=Mq (D++[.k x]) Q:=fun Q hQ=>by rw[hQ]
   rw[lY (P+1+1+1+1+1) (by simp only[nL.tk,liT];simp;try omega),awt]
   simp only[Mq,kj,oo,g,gw,IJ,f1,f2,f3,f4,fZ,map_cons,map_nil,Nat.reduceMod,List.cons.injEq,reduceEqDiff,reduceCtorEq,and_self,pX,rP,av,Nat.reduceAdd,reduceEqDiff,reduceCtorEq,reduceEq]
  |t x=>
   have vf:nL.ok m (.t x):=vf
   simp only[nL.ok]at vf
   have h0:cF L P (wT Ox::(wT x.nm::dS::(aK (aI.tk x) (dT x)++wT ep::dS::u::y))):=by simpa[nL.tk,ac2]using h1
   have g:=fun v=>cS h0 v
   have gw:=me h0 [Lc,MB,Ox] (by simp) (by decide)
   rw[show cN (fun w:Bs=>(wT Ox).is w) [Lc,MB,Ox]=2 from by decide]at gw
   simp only[am,map_cons,map_nil]at gw
   have f1:=axm hC vf.1 vf.2 h0.step
   unfold dL.cs at f1
   simp only[cons_append,nil_append]at f1
   have jW:=h0.step.step.step.app.step
   rw[show P+1+1+1+(aK (aI.tk x) (dT x)).length+1=P+1+2+(aK (aI.tk x) (dT x)).length+1 by omega]at jW
   have f2:=fJ jW
   have rP:((((D.filterMap nL.gT).map (fun x=>Sc.l x.cs)++[Sc.l [.s (bs x.nm),ae fh.cs x.vars,ae oP.cs x.res,ae xg.cs x.cU,ae CO.cs x.kX,am x.fc,am x.cd,am x.de,am x.levels,am x.counts,ae jv.cs x.nh,ae xB.cs x.starts,ae zC.cs x.laws]]).length:Nat):Int)<=462952264326:=by have:=EI _ nL.gT;simp only[length_append,length_map,length_cons,length_nil];omega
   have lY:∀Q:Nat,Q=P+(nL.tk (.t x)).length->Mq (D++[.t x]) (P+(nL.tk (.t x)).length)=Mq (D++[.t x]) Q:=fun Q hQ=>by rw[hQ]
   rw[lY (P+1+2+(aK (aI.tk x) (dT x)).length+1+1) (by simp only[nL.tk,ac2];simp;try omega),awv]
   simp only[Mq,kj,oo,g,gw,IK,f1,f2,fZ,map_cons,map_nil,Nat.reduceMod,List.cons.injEq,reduceEqDiff,reduceCtorEq,and_self,pX,rP,av,Nat.reduceAdd,reduceEqDiff,reduceCtorEq,reduceEq]
 ·show _=_
  have X3:=h.step.step.step.app
  have g:=cS X3 ep
  rw[show(wT ep).is ep=true from by decide]at g
  have f1:=fJ X3.step
  have f2:=aw8 X3.step.step
  simp only[take_length]
  generalize 0+1+1+1+(aK nL.tk Ds).length=P at*
  subst hDs
  simp only[Mq,kj,IL,g,f1,f2,aAD,aAC,aAE,av,Nat.reduceAdd]
  rfl
end
theorem auS:Can enT:=⟨fun _=>rfl,fun h=>(by cases h),fun h=>(by cases h)⟩
theorem ape (m:kL) (hm:m.ok) (hc:fQ.F m.cs=some [.i 0]) (hl:m.tx.length<=20000):Be.F [.s (bs m.tx)]=some (m.cs++[.i 0,.i 0]):=by
 obtain⟨L,h1,h2,h3⟩:=alr m hm hl
 have hC:xi L:=by
  intro t ht
  rw[h1]at ht
  rcases mem_append.1 ht with ht|ht
  ·exact(ags m hm).can t ht
  ·rcases mem_singleton.1 ht with rfl
   exact auS
 have hr:=ar6 hC hm ⟨by rw[drop_zero];exact h1,h2⟩
 unfold TK at hr
 unfold kL.cs at hr hc
 simp only[cons_append,nil_append]at hr hc
 rw[abF]
 simp only[E7,VC,VB,VA,h3,hr,hc,av,Nat.reduceAdd]
 rfl
end
section
inductive Ty where|int|nat|str|bool|UF (k:Nat)
 deriving DecidableEq
inductive Tk where|no|row (cs:List Ty)|vec (t:Ty)
structure Tb where
 tk:Nat->Tk
 lit:Nat->Option Nat
 sup:Nat->Option Ty
def LB:Nat:=1000000
def has (I:Nat->Sc->Prop):Ty->Sc->Prop
 | .int,x=>∃z,x= .i z
 | .nat,x=>∃n:Nat,x= .i n/\n<=LB
 | .str,x=>∃b,x= .s (bs b)
 | .bool,x=>∃b,x= .b b
 | .UF k,x=>I k x
def rO (I:Nat->Sc->Prop):List Ty->aP->Prop
 |[],[]=>True
 |t::ts,x::xs=>has I t x/\rO I ts xs
 |_,_=>False
structure jw (tb:Tb) (I:Nat->Sc->Prop):Prop where
 row:∀k cs x,tb.tk k= .row cs->I k x->∃xs,x= .l xs/\xs.length<=LB/\∀y∈xs,∃c,y= .l c/\rO I cs c
 vec:∀k t x,tb.tk k= .vec t->I k x->∃xs,x= .l xs/\xs.length<=LB/\∀y∈xs,has I t y
 aAy:∀k cs n xs,tb.tk k= .row cs->tb.lit k=some n->xs.length<=n->(∀y∈xs,∃c,y= .l c/\rO I cs c)->I k (.l xs)
 sup:∀k t x,tb.sup k=some t->I k x->has I t x
 aAz:∀k t n xs,tb.tk k= .vec t->tb.lit k=some n->xs.length<=n->(∀y∈xs,has I t y)->I k (.l xs)
inductive E2 where|t (x:Ty)|el (cs:List Ty)
abbrev Fs:=List (Ex×Bool)
def fact (F:Fs) (c:Ex) (b:Bool):Bool:=F.any fun p=>p.1.same c&&p.2==b
def isNat:Option E2->Bool|some (.t .nat)=>true|_=>false
def inb (F:Fs) (n:Bool) (x i:Ex):Bool:=fact F (.o .lt i (.u .len x)) true&&(n||fact F (.o .le (.i 0) i) true)
def aab (tb:Tb):Option E2->Bool
 |some (.t (.UF k))=>match tb.tk k with| .no=>false|_=>true
 |_=>false
def zZ (tb:Tb) (G:List Ty) (F:Fs):Ex->Option E2
 | .v n=>(G[n]?).map .t
 | .i z=>some (.t (if 0<=z/\z<=LB then .nat else .int))
 | .b _=>some (.t .bool)
 | .s _=>some (.t .str)
 | .nil=>none
 | .u f x=>match f with
   | .cell j=>match zZ tb G F x with
     |some (.el cs)=>(cs[j]?).map .t
     |_=>none
   | .len=>some (.t (if aab tb (zZ tb G F x)then .nat else .int))
   | .not=>some (.t .bool)| .isb=>some (.t .bool)
   | .conv _=>some (.t .int)| .fD=>some (.t .int)
   |_=>none
 | .o f x y=>match f with
   | .idx=>match zZ tb G F x with
     |some (.t (.UF k))=>if inb F (isNat (zZ tb G F y)) x y then(match tb.tk k with| .row cs=>some (.el cs)| .vec t=>some (.t t)| .no=>none)else none
     |_=>none
   | .add _=>some (.t .int)| .sub _=>some (.t .int)| .mul _=>some (.t .int)| .quo _=>some (.t .int)| .rem _=>some (.t .int)
   | .ahE _=>some (.t .int)| .bor _=>some (.t .int)| .amT _=>some (.t .int)| .ajs _=>some (.t .int)| .shl _=>some (.t .int)| .shr _=>some (.t .int)
   | .max=>some (.t .int)| .min=>some (.t .int)| .Mt=>some (.t .int)
   | .eq=>some (.t .bool)| .ne=>some (.t .bool)| .lt=>some (.t .bool)| .le=>some (.t .bool)| .beq=>some (.t .bool)| .bne=>some (.t .bool)
   | .and=>some (.t .bool)| .or=>some (.t .bool)| .seq=>some (.t .bool)
   | .cat=>some (.t .str)
   |_=>none
 | .t _ _ _ _=>none
def alp:Ex->Option mA
 | .nil=>some []
 | .o .cons a r=>(alp r).map (a::·)
 |_=>none
def axo (tb:Tb):Ty->Ty->Bool| .nat,.int=>true| .UF k,t=>decide (tb.sup k=some t)||decide (Ty.UF k=t)|a,b=>decide (a=b)
def ars (tb:Tb) (G:List Ty) (F:Fs) (e:Ex) (ty:Ty):Bool:=match zZ tb G F e with|some (.t u)=>axo tb u ty|_=>false
def ahz (f:Ex->Ty->Bool):mA->List Ty->Bool
 |[],[]=>true
 |e::es,t::ts=>f e t&&ahz f es ts
 |_,_=>false
def atO (tb:Tb) (G:List Ty) (F:Fs) (f:Ex->Ty->Bool) (cs:List Ty) (e:Ex):Bool:=match alp e with
 |some l=>ahz f l cs
 |none=>match zZ tb G F e with|some (.el ds)=>decide (ds=cs)|_=>false
def avt (tb:Tb) (G:List Ty) (F:Fs) (f:Ex->Ty->Bool) (e:Ex) (ty:Ty):Bool:=
 ars tb G F e ty||(match ty with
  | .UF k=>match tb.lit k,alp e with
    |some m,some es=>ble es.length m&&(match tb.tk k with
     | .row cs=>es.all (atO tb G F f cs)
     | .vec t=>es.all fun e=>f e t
     | .no=>false)
    |_,_=>false
  |_=>false)
def avu (tb:Tb) (G:List Ty) (F:Fs):Nat->Ex->Ty->Bool
 |0=>ars tb G F
 |n+1=>avt tb G F (avu tb G F n)
def fits (tb:Tb) (G:List Ty) (F:Fs) (es:mA) (ts:List Ty):Bool:=ahz (avu tb G F 3) es ts
def okN (tb:Tb) (G:List Ty) (F:Fs) (c:Ex):Bool:=fact F c true||(match c with
 | .o .le (.i z) e=>decide (z=0)&&(fact F (.o .lt e (.i 0)) false||isNat (zZ tb G F e))
 | .o .lt i (.u .len y)=>(match i with| .i z=>decide (z<0)|_=>false)||F.any (fun p=>match p with
     |(.o .ne (.u .len x) (.u .len y'),false)=>y'.same y&&fact F (.o .lt i (.u .len x)) true
     |_=>false)
 | .o .le (.u .len x) (.i N)=>aab tb (zZ tb G F x)&&decide ((LB:Int)<=N)
 | .o .ne a b=>fact F (.o .eq a b) false
 |_=>false)
def okF (tb:Tb) (G:List Ty) (F:Fs) (c:Ex) (b:Bool):Bool:=if b then okN tb G F c else fact F c false
def Ex.sub (g:Nat->Ex):Ex->Ex
 | .v n=>g n
 | .u f x=> .u f (x.sub g)
 | .o f x y=> .o f (x.sub g) (y.sub g)
 | .t f x y z=> .t f (x.sub g) (y.sub g) (z.sub g)
 |e=>e
structure Sp where
 key:Nat
 args:List Ty
 pre:Fs
 res:List Ty
 post:Fs
def aur (w:Nat) (es:mA) (n:Nat):Ex:=if n<w then .v n else es.getD (n-w) .nil
def WT (xs0:mA) (nv:Nat) (n:Nat):Ex:=if n<xs0.length then xs0.getD n .nil else .v (nv+(n-xs0.length))
def ck (tb:Tb) (S:List Sp) (sp:Sp):T mA->List Ty->Fs->List (Option Nat)->Bool
 | .aa es,G,F,_=>fits tb G F es sp.res&&sp.post.all (fun p=>p.1.under (sp.args.length+sp.res.length)&&okF tb G F (p.1.sub (aur sp.args.length es)) p.2)
 | .fail _,_,_,_=>false
 | .ite c a b,G,F,K=>c.under G.length&&(fact F c false||ck tb S sp a G ((c,true)::F) K)&&(fact F c true||ck tb S sp b G ((c,false)::F) K)
 | .ag c k,G,F,K=>c.under G.length&&okN tb G F c&&ck tb S sp k G ((c,true)::F) K
 | .call f xs0 n k,G,F,K=>match S.find? (fun s=>s.key==f)with
   |some s=>decide (s.res.length=n)&&xs0.all (·.under G.length)&&fits tb G F xs0 s.args&&s.pre.all (fun p=>p.1.under s.args.length&&okF tb G F (p.1.sub (WT xs0 0)) p.2)
     &&s.post.all (fun p=>p.1.under (s.args.length+s.res.length))
     &&ck tb S sp k (G++s.res) (s.post.map (fun p=>(p.1.sub (WT xs0 G.length),p.2))++F) K
   |none=>false
 | .loop NL body,G,F,K=>match NL,body with
   |[.i z],.ite (.o .lt (.v b) (.u .len x)) t e=>decide (z=0)&&decide (b=G.length)&&x.under G.length&&aab tb (zZ tb G F x)
      &&ck tb S sp t (G++[.nat]) ((.o .lt (.v b) (.u .len x),true)::F) (K++[some b])
      &&ck tb S sp e (G++[.nat]) ((.o .lt (.v b) (.u .len x),false)::F) (K++[none])
   |_,_=>false
 | .next l vs,G,F,K=>match K[l]?,vs with
   |some (some b),[.o (.add k) (.v b') (.i z)]=>decide (k= .i64)&&decide (b=b')&&decide (z=1)
   |_,_=>false
theorem awn {x y:Sc}:(U2.ev .le x y).bool=true↔x.int<=y.int:=⟨fun h=>of_decide_eq_true h,fun h=>decide_eq_true h⟩
theorem ar3 {x y:Sc}:(U2.ev .lt x y).bool=true↔x.int<y.int:=⟨fun h=>of_decide_eq_true h,fun h=>decide_eq_true h⟩
theorem aAB {x y:Sc}:(U2.ev .lt x y).bool=false↔¬x.int<y.int:=⟨fun h=>of_decide_eq_false h,fun h=>decide_eq_false h⟩
theorem aEH {x y:Sc}:(U2.ev .ne x y).bool=false↔x.int=y.int:=by
 show(x.int !=y.int)=false↔_
 exact bne_eq_false_iff_eq
theorem Xa {ρ:aP} (x:Ex):((Ex.u .len x).ev ρ).int=(x.ev ρ).list.length:=rfl
theorem Na {ρ:aP} (f:U2) (x y:Ex):(Ex.o f x y).ev ρ=f.ev (x.ev ρ) (y.ev ρ):=rfl
theorem afH {ρ:aP} (z:Int):((Ex.i z).ev ρ).int=z:=rfl
section
variable {tb:Tb}{I:Nat->Sc->Prop} (hI:jw tb I)
theorem EG:∀{ts:List Ty}{xs:aP},rO I ts xs->ts.length=xs.length
 |[],[],_=>rfl
 |_::_,_::_,h=>by simp[EG h.2]
 |[],_::_,h=>h.elim
 |_::_,[],h=>h.elim
theorem ZX:∀{ts:List Ty}{xs:aP}{i:Nat}{t:Ty},rO I ts xs->ts[i]? =some t->has I t (xs.getD i (.i 0))
 |[],_,_,_,_,h2=>by simp at h2
 |t::ts,x::xs,0,_,h,h2=>by simp at h2;subst h2;exact h.1
 |t::ts,x::xs,i+1,_,h,h2=>by simpa using ZX h.2 (by simpa using h2)
 |_::_,[],_,_,h,_=>h.elim
theorem gF:∀{ts us:List Ty}{xs ys:aP},rO I ts xs->rO I us ys->rO I (ts++us) (xs++ys)
 |[],_,[],_,_,h2=>h2
 |_::_,_,_::_,_,h1,h2=>⟨h1.1,gF h1.2 h2⟩
 |[],_,_::_,_,h,_=>h.elim
 |_::_,_,[],_,h,_=>h.elim
def adf (F:Fs) (ρ:aP):Prop:=∀p∈F,(p.1.ev ρ).bool=p.2
theorem DI {F:Fs}{ρ:aP} (hF:adf F ρ){c:Ex}{b:Bool} (h:fact F c b=true):(c.ev ρ).bool=b:=by
 unfold fact at h
 rw[any_eq_true]at h
 obtain⟨p,hp,h2⟩:=h
 rw[Bool.and_eq_true,beq_iff_eq]at h2
 rw[<-Ex.fX h2.1,<-h2.2]
 exact hF p hp
def ay8 (I:Nat->Sc->Prop):E2->Sc->Prop
 | .t x,v=>has I x v
 | .el cs,v=>∃c,v= .l c/\rO I cs c
include hI in
theorem awb {F:Fs}{ρ:aP} (hF:adf F ρ){n:Bool}{x i:Ex} (hn:n=true->∃m:Nat,i.ev ρ= .i m) (h:inb F n x i=true):∃m:Nat,(i.ev ρ).int=m/\m<(x.ev ρ).list.length:=by
 unfold inb at h
 rw[Bool.and_eq_true]at h
 have h1:=DI hF h.1
 rw[Na,ar3,Xa]at h1
 have h0:0<=(i.ev ρ).int:=by
  cases n with
  |true=>obtain⟨m,hm⟩:=hn rfl;rw[hm];simp
  |false=>
   have h2:=DI hF (by simpa using h.2)
   rw[Na,awn,afH]at h2
   exact h2
 exact⟨(i.ev ρ).int.toNat,by omega,by omega⟩
include hI in
theorem VV {o:Option E2}{v:Sc} (h:aab tb o=true) (hv:∀e,o=some e->ay8 I e v):∃xs,v= .l xs/\xs.length<=LB:=by
 unfold aab at h
 split at h
 ·rename_i k
  have hk:I k v:=hv _ rfl
  split at h
  ·cases h
  ·rename_i rP
   cases ht:tb.tk k with
   |no=>exact absurd ht rP
   |row cs=>obtain⟨xs,h1,h2,_⟩:=hI.row k cs v ht hk;exact⟨xs,h1,h2⟩
   |vec t=>obtain⟨xs,h1,h2,_⟩:=hI.vec k t v ht hk;exact⟨xs,h1,h2⟩
 ·cases h
include hI in
theorem Zz {G:List Ty}{F:Fs}{ρ:aP} (hG:rO I G ρ) (hF:adf F ρ):∀(e:Ex) (t:E2),zZ tb G F e=some t->ay8 I t (e.ev ρ):=by
 intro e
 induction e with
 |v n=>
  intro t h
  simp only[zZ,Option.map_eq_some_iff]at h
  obtain⟨u,hu,rfl⟩:=h
  exact ZX hG hu
 |i z=>
  intro t h
  simp only[zZ,Option.some.injEq]at h
  subst h
  show has I (if 0<=z/\z<=LB then .nat else .int) (Sc.i z)
  split
  ·rename_i hz
   exact⟨z.toNat,by congr 1;omega,by omega⟩
  ·exact⟨z,rfl⟩
 |b x=>intro t h;simp only[zZ,Option.some.injEq]at h;subst h;exact⟨x,rfl⟩
 |s x=>intro t h;simp only[zZ,Option.some.injEq]at h;subst h;exact⟨x.map UInt8.ofNat,rfl⟩
 |nil=>intro t h;simp[zZ]at h
 |t f x y z _ _ _=>intro t h;simp[zZ]at h
 |u f x ih=>
  intro t h
  cases f with
  |cell j=>
   simp only[zZ]at h
   split at h
   ·rename_i cs hc
    simp only[Option.map_eq_some_iff]at h
    obtain⟨u,hu,rfl⟩:=h
    obtain⟨c,h1,h2⟩:=ih _ hc
    show has I u (U1.ev (.cell j) (x.ev ρ))
    rw[h1]
    exact ZX h2 hu
   ·cases h
  |len=>
   simp only[zZ,Option.some.injEq]at h
   subst h
   show has I _ (U1.ev .len (x.ev ρ))
   split
   ·rename_i hl
    obtain⟨xs,h1,h2⟩:=VV hI hl (v:=x.ev ρ) (fun e he=>ih e he)
    rw[h1];exact⟨xs.length,rfl,h2⟩
   ·exact⟨_,rfl⟩
  |not=>simp only[zZ,Option.some.injEq]at h;subst h;exact⟨_,rfl⟩
  |isb=>simp only[zZ,Option.some.injEq]at h;subst h;exact⟨_,rfl⟩
  |conv k=>simp only[zZ,Option.some.injEq]at h;subst h;exact⟨_,rfl⟩
  |fD=>simp only[zZ,Option.some.injEq]at h;subst h;exact⟨_,rfl⟩
  |bytes=>simp[zZ]at h
  |ofb=>simp[zZ]at h
 |o f x y ihx ihy=>
  intro t h
  cases f with
  |idx=>
   simp only[zZ]at h
   split at h
   ·rename_i k hk
    split at h
    ·rename_i hb
     obtain⟨m,hm,fU⟩:=awb hI hF (n:=isNat (zZ tb G F y)) (fun hn=>by
      unfold isNat at hn
      split at hn
      ·rename_i he
       obtain⟨n,hn,_⟩:=ihy _ he
       exact⟨n,hn⟩
      ·cases hn) hb
     have hx:I k (x.ev ρ):=ihx _ hk
     have ee:(Ex.o .idx x y).ev ρ=(x.ev ρ).list.getD m (.i 0):=by
      show(x.ev ρ).list.getD (y.ev ρ).int.toNat (.i 0)=_
      rw[hm];rfl
     rw[ee]
     cases ht:tb.tk k with
     |no=>rw[ht]at h;cases h
     |row cs=>
      rw[ht]at h
      simp only[Option.some.injEq]at h
      subst h
      obtain⟨xs,h1,_,h3⟩:=hI.row k cs _ ht hx
      rw[h1]at fU⊢
      have:=h3 (xs.getD m (.i 0)) (by
       have fU:m<xs.length:=fU
       rw[getD_eq_getElem?_getD,getElem?_eq_getElem fU]
       exact getElem_mem fU)
      exact this
     |vec u=>
      rw[ht]at h
      simp only[Option.some.injEq]at h
      subst h
      obtain⟨xs,h1,_,h3⟩:=hI.vec k u _ ht hx
      rw[h1]at fU⊢
      exact h3 (xs.getD m (.i 0)) (by
       have fU:m<xs.length:=fU
       rw[getD_eq_getElem?_getD,getElem?_eq_getElem fU]
       exact getElem_mem fU)
    ·cases h
   ·cases h
  |cat=>
   simp only[zZ,Option.some.injEq]at h;subst h
   refine⟨((x.ev ρ).str++(y.ev ρ).str).data.toList,?_⟩
   show Sc.s _=_
   rw[<-ayb]
  |bC=>simp[zZ]at h
  |app=>simp[zZ]at h
  |cons=>simp[zZ]at h
  |rep=>simp[zZ]at h
  |mem n=>simp[zZ]at h
  |Fh n=>simp[zZ]at h
  |add k=>simp only[zZ,Option.some.injEq]at h;subst h;exact⟨_,rfl⟩
  |sub k=>simp only[zZ,Option.some.injEq]at h;subst h;exact⟨_,rfl⟩
  |mul k=>simp only[zZ,Option.some.injEq]at h;subst h;exact⟨_,rfl⟩
  |quo k=>simp only[zZ,Option.some.injEq]at h;subst h;exact⟨_,rfl⟩
  |rem k=>simp only[zZ,Option.some.injEq]at h;subst h;exact⟨_,rfl⟩
  |ahE k=>simp only[zZ,Option.some.injEq]at h;subst h;exact⟨_,rfl⟩
  |bor k=>simp only[zZ,Option.some.injEq]at h;subst h;exact⟨_,rfl⟩
  |amT k=>simp only[zZ,Option.some.injEq]at h;subst h;exact⟨_,rfl⟩
  |ajs k=>simp only[zZ,Option.some.injEq]at h;subst h;exact⟨_,rfl⟩
  |shl k=>simp only[zZ,Option.some.injEq]at h;subst h;exact⟨_,rfl⟩
  |shr k=>simp only[zZ,Option.some.injEq]at h;subst h;exact⟨_,rfl⟩
  |max=>simp only[zZ,Option.some.injEq]at h;subst h;exact⟨_,rfl⟩
  |min=>simp only[zZ,Option.some.injEq]at h;subst h;exact⟨_,rfl⟩
  |Mt=>simp only[zZ,Option.some.injEq]at h;subst h;exact⟨_,rfl⟩
  |eq=>simp only[zZ,Option.some.injEq]at h;subst h;exact⟨_,rfl⟩
  |ne=>simp only[zZ,Option.some.injEq]at h;subst h;exact⟨_,rfl⟩
  |lt=>simp only[zZ,Option.some.injEq]at h;subst h;exact⟨_,rfl⟩
  |le=>simp only[zZ,Option.some.injEq]at h;subst h;exact⟨_,rfl⟩
  |beq=>simp only[zZ,Option.some.injEq]at h;subst h;exact⟨_,rfl⟩
  |bne=>simp only[zZ,Option.some.injEq]at h;subst h;exact⟨_,rfl⟩
  |and=>simp only[zZ,Option.some.injEq]at h;subst h;exact⟨_,rfl⟩
  |or=>simp only[zZ,Option.some.injEq]at h;subst h;exact⟨_,rfl⟩
  |seq=>simp only[zZ,Option.some.injEq]at h;subst h;exact⟨_,rfl⟩
include hI in
theorem asN {u t:Ty} (h:axo tb u t=true){v:Sc} (hv:has I u v):has I t v:=by
 unfold axo at h
 split at h
 ·obtain⟨n,hn,_⟩:=hv;exact⟨n,hn⟩
 ·rw[Bool.or_eq_true]at h
  rcases h with h|h
  ·exact hI.sup _ _ _ (of_decide_eq_true h) hv
  ·rw[of_decide_eq_true h]at hv;exact hv
 ·rw[of_decide_eq_true h]at hv;exact hv
theorem aez {ρ:aP}:∀{e:Ex}{es:mA},alp e=some es->e.ev ρ= .l (es.map (Ex.ev ρ))
 | .nil,es,h=>by simp only[alp,Option.some.injEq]at h;subst h;rfl
 | .o .cons a r,es,h=>by
   simp only[alp,Option.map_eq_some_iff]at h
   obtain⟨rs,hr,rfl⟩:=h
   show Sc.l (a.ev ρ::(r.ev ρ).list)=_
   rw[aez hr];rfl
section
variable {G:List Ty}{F:Fs}{ρ:aP} (hG:rO I G ρ) (hF:adf F ρ)
include hI hG hF
theorem ajG {e:Ex}{ty:Ty} (h:ars tb G F e ty=true):has I ty (e.ev ρ):=by
 unfold ars at h
 split at h
 ·rename_i u hu
  exact asN hI h (Zz hI hG hF e _ hu)
 ·cases h
omit hI hG hF in
theorem adq {f:Ex->Ty->Bool} (hf:∀e t,f e t=true->has I t (e.ev ρ)):∀{es:mA}{ts:List Ty},ahz f es ts=true->rO I ts (es.map (Ex.ev ρ))
 |[],[],_=>trivial
 |e::es,t::ts,h=>by
  simp only[ahz,Bool.and_eq_true]at h
  exact⟨hf e t h.1,adq hf h.2⟩
 |[],_::_,h=>by simp[ahz]at h
 |_::_,[],h=>by simp[ahz]at h
theorem arr {f:Ex->Ty->Bool} (hf:∀e t,f e t=true->has I t (e.ev ρ)){e:Ex}{ty:Ty} (h:avt tb G F f e ty=true):has I ty (e.ev ρ):=by
 unfold avt at h
 rw[Bool.or_eq_true]at h
 rcases h with h|h
 ·exact ajG hI hG hF h
 ·split at h
  ·rename_i k
   split at h
   ·rename_i m es hm he
    rw[Bool.and_eq_true]at h
    obtain⟨h1,h2⟩:=h
    have h1:(es.map (Ex.ev ρ)).length<=m:=by rw[length_map];exact le_of_ble_eq_true h1
    show I k (e.ev ρ)
    rw[aez he]
    split at h2
    ·rename_i cs MD
     refine hI.aAy k cs m _ MD hm h1 fun y hy=> ?_
     obtain⟨x,hx,rfl⟩:=mem_map.1 hy
     have:=all_eq_true.1 h2 x hx
     unfold atO at this
     split at this
     ·rename_i l hl
      exact⟨_,aez hl,adq hf this⟩
     ·split at this
      ·rename_i ds hds
       have e:=of_decide_eq_true this
       rw[<-e]
       exact Zz hI hG hF x _ hds
      ·cases this
    ·rename_i t ht
     refine hI.aAz k t m _ ht hm h1 fun y hy=> ?_
     obtain⟨x,hx,rfl⟩:=mem_map.1 hy
     exact hf x t (all_eq_true.1 h2 x hx)
    ·cases h2
   ·cases h
  ·cases h
theorem ajH:∀(n:Nat){e:Ex}{ty:Ty},avu tb G F n e ty=true->has I ty (e.ev ρ)
 |0,e,ty,h=>ajG hI hG hF h
 |n+1,e,ty,h=>arr hI hG hF (fun e t h=>ajH n h) h
theorem ajI {es:mA}{ts:List Ty} (h:fits tb G F es ts=true):rO I ts (es.map (Ex.ev ρ)):=adq (fun e t h=>ajH hI hG hF 3 h) h
theorem ao6 {c:Ex} (h:okN tb G F c=true):(c.ev ρ).bool=true:=by
 unfold okN at h
 rw[Bool.or_eq_true]at h
 rcases h with h|h
 ·exact DI hF h
 ·split at h
  ·rename_i z e
   rw[Bool.and_eq_true,Bool.or_eq_true]at h
   obtain⟨h0,h⟩:=h
   have h0:=of_decide_eq_true h0
   subst h0
   rw[Na,awn,afH]
   rcases h with h|h
   ·have:=DI hF h
    rw[Na,aAB,afH]at this
    omega
   ·unfold isNat at h
    split at h
    ·rename_i he
     obtain⟨n,hn,_⟩:=Zz hI hG hF e _ he
     rw[hn];simp
    ·cases h
  ·rename_i i y
   rw[Bool.or_eq_true]at h
   rw[Na,ar3,Xa]
   rcases h with h|h
   ·split at h
    ·rename_i z
     have:=of_decide_eq_true h
     rw[afH]
     omega
    ·cases h
   ·rw[any_eq_true]at h
    obtain⟨p,hp,h⟩:=h
    split at h
    ·rename_i x y'
     rw[Bool.and_eq_true]at h
     have e:=Ex.fX h.1
     subst e
     have h1:=hF _ hp
     have h2:=DI hF h.2
     simp only[]at h1
     rw[Na,aEH,Xa,Xa]at h1
     rw[Na,ar3,Xa]at h2
     omega
    ·cases h
  ·rename_i x N
   rw[Bool.and_eq_true]at h
   obtain⟨xs,h1,h2⟩:=VV hI h.1 (v:=x.ev ρ) (fun e he=>Zz hI hG hF x e he)
   have h3:=of_decide_eq_true h.2
   rw[Na,awn,Xa,afH,h1,Sc.VY]
   omega
  ·rename_i a b
   have:=DI hF h
   rw[Na]at this⊢
   have h1:((a.ev ρ).int==(b.ev ρ).int)=false:=this
   show((a.ev ρ).int !=(b.ev ρ).int)=true
   rw[bne,h1];rfl
  ·cases h
theorem ao5 {c:Ex}{b:Bool} (h:okF tb G F c b=true):(c.ev ρ).bool=b:=by
 unfold okF at h
 split at h
 ·rename_i hb;rw[hb];exact ao6 hI hG hF h
 ·rename_i hb;rw[DI hF h];exact(Bool.eq_false_iff.2 hb).symm
end
theorem J2 {n:Nat}{g:Nat->Ex}{ρ σ:aP} (hg:∀i,i<n->(g i).ev ρ=σ.getD i (.i 0)):∀{e:Ex},e.under n=true->(e.sub g).ev ρ=e.ev σ
 | .v p,h=>hg p (le_of_ble_eq_true (by simpa[Ex.under,blt]using h))
 | .i _,_| .b _,_| .s _,_| .nil,_=>rfl
 | .u f x,h=>by simp only[Ex.ev,Ex.sub];rw[J2 hg (e:=x) h]
 | .o f x y,h=>by
   simp only[Ex.under,Bool.and_eq_true]at h
   simp only[Ex.ev,Ex.sub];rw[J2 hg h.1,J2 hg h.2]
 | .t f x y z,h=>by
   simp only[Ex.under,Bool.and_eq_true]at h
   simp only[Ex.ev,Ex.sub];rw[J2 hg h.1.1,J2 hg h.1.2,J2 hg h.2]
def kM (I:Nat->Sc->Prop) (f:fF) (s:Sp):Prop:=
 ∀l,rO I s.args l->(∀p∈s.pre,(p.1.ev l).bool=p.2)->fA (f l) fun r=>rO I s.res r/\∀p∈s.post,(p.1.ev (l++r)).bool=p.2
def ax7 (I:Nat->Sc->Prop) (Γ:Nat->fF) (s:Sp):Prop:=kM I (Γ s.key) s
theorem Nw {ρ:aP}{es:mA}{i:Nat} (h:i<es.length):(es.map (Ex.ev ρ)).getD i (.i 0)=(es.getD i .nil).ev ρ:=by
 simp[getD_eq_getElem?_getD,getElem?_eq_getElem h]
theorem adf.app {F:Fs}{ρ:aP}{n:Nat} (h:adf F ρ) (hu:∀p∈F,p.1.under n=true) (hn:n<=ρ.length) (r:aP):adf F (ρ++r):=fun p hp=>by
 rw[Ex.cg (n:=n) (ρ:=ρ) (fun i hi=>bj _ _ _ _ (by omega)) (hu p hp)]
 exact h p hp
include hI in
theorem Zk {S:List Sp}{sp:Sp}{Γ:Nat->fF} (hS:∀s∈S,ax7 I Γ s) (l0:aP) (X5:l0.length=sp.args.length):
 ∀(t:T mA) (G:List Ty) (F:Fs) (K:List (Option Nat)) (ρ:aP) (Ks:List fF) (q:aP),ck tb S sp t G F K=true->rO I G ρ->ρ=l0++q->adf F ρ->(∀p∈F,p.1.under G.length=true)->K.length=Ks.length->
  (∀(l b:Nat),K[l]? =some (some b)->∃n:Nat,b<ρ.length/\ρ.getD b (.i 0)= .i n/\n<LB/\∃k:fF,Ks[l]? =some k/\fA (k [.i ((n+1:Nat):Int)]) fun r=>rO I sp.res r/\∀p∈sp.post,(p.1.ev (l0++r)).bool=p.2)->
  fA (t.bR Γ ρ Ks) fun r=>rO I sp.res r/\∀p∈sp.post,(p.1.ev (l0++r)).bool=p.2
 | .aa es,G,F,K,ρ,Ks,q,h,hG,hq,hF,hu,hK,hN=>by
   simp only[ck,Bool.and_eq_true]at h
   have hr:=ajI hI hG hF h.1
   refine⟨_,rfl,hr,fun p hp=> ?_⟩
   have h2:=all_eq_true.1 h.2 p hp
   rw[Bool.and_eq_true]at h2
   rw[<-ao5 hI hG hF h2.2]
   congr 1
   refine(J2 (fun i hi=> ?_) h2.1).symm
   have hlen:=EG hr
   rw[length_map]at hlen
   unfold aur
   split
   ·rename_i hw
    show ρ.getD i (.i 0)=_
    rw[hq,bj _ _ _ _ (by omega),bj _ _ _ _ (by omega)]
   ·rename_i hw
    rw[<-Nw (by omega)]
    rw[getD_eq_getElem?_getD,getD_eq_getElem?_getD,getElem?_append_right (by omega),X5]
 | .fail _,G,F,K,ρ,Ks,q,h,hG,hq,hF,hu,hK,hN=>by simp[ck]at h
 | .ite c a b,G,F,K,ρ,Ks,q,h,hG,hq,hF,hu,hK,hN=>by
   simp only[ck,Bool.and_eq_true,Bool.or_eq_true]at h
   obtain⟨⟨hc,ha⟩,hb⟩:=h
   simp only[T.bR]
   refine fA.ite (fun h1=> ?_) (fun h1=> ?_)
   ·rcases ha with ha|ha
    ·rw[DI hF ha]at h1;cases h1
    ·exact Zk hS l0 X5 a G _ K ρ Ks q ha hG hq (fun p hp=>by
      rcases mem_cons.1 hp with rfl|hp
      ·exact h1
      ·exact hF p hp) (fun p hp=>by
      rcases mem_cons.1 hp with rfl|hp
      ·exact hc
      ·exact hu p hp) hK hN
   ·have h1:(c.ev ρ).bool=false:=by simpa using h1
    rcases hb with hb|hb
    ·rw[DI hF hb]at h1;cases h1
    ·exact Zk hS l0 X5 b G _ K ρ Ks q hb hG hq (fun p hp=>by
      rcases mem_cons.1 hp with rfl|hp
      ·exact h1
      ·exact hF p hp) (fun p hp=>by
      rcases mem_cons.1 hp with rfl|hp
      ·exact hc
      ·exact hu p hp) hK hN
 | .ag c k,G,F,K,ρ,Ks,q,h,hG,hq,hF,hu,hK,hN=>by
   simp only[ck,Bool.and_eq_true]at h
   have h1:=ao6 hI hG hF h.1.2
   simp only[T.bR]
   rw[if_pos h1]
   exact Zk hS l0 X5 k G _ K ρ Ks q h.2 hG hq (fun p hp=>by
    rcases mem_cons.1 hp with rfl|hp
    ·exact h1
    ·exact hF p hp) (fun p hp=>by
    rcases mem_cons.1 hp with rfl|hp
    ·exact h.1.1
    ·exact hu p hp) hK hN
 | .call f xs0 n k,G,F,K,ρ,Ks,q,h,hG,hq,hF,hu,hK,hN=>by
   simp only[ck]at h
   split at h
   ·rename_i s hs
    simp only[Bool.and_eq_true]at h
    obtain⟨⟨⟨⟨⟨h1,h2⟩,h3⟩,h4⟩,h5⟩,h6⟩:=h
    have hk:s.key=f:=by
     have:=find?_some hs
     simpa using this
    have ha:=ajI hI hG hF h3
    have hlen:=EG ha
    rw[length_map]at hlen
    have hGl:=EG hG
    have hm:=hS s (mem_of_find?_eq_some hs) _ ha (fun p hp=>by
     have h7:=all_eq_true.1 h4 p hp
     rw[Bool.and_eq_true]at h7
     rw[<-ao5 hI hG hF h7.2]
     congr 1
     refine(J2 (fun i hi=> ?_) h7.1).symm
     unfold WT
     rw[if_pos (by omega),Nw (by omega)])
    rw[hk]at hm
    obtain⟨r,r1,r2,r3⟩:=hm
    have hrl:=EG r2
    simp only[T.bR]
    rw[r1]
    show fA (if r.length=n then _ else none) _
    rw[if_pos (by rw[<-hrl];exact of_decide_eq_true h1)]
    refine Zk hS l0 X5 k _ _ K (ρ++r) Ks (q++r) h6 (gF hG r2) (by rw[hq,append_assoc]) ?_ ?_ hK ?_
    ·intro p hp
     rcases mem_append.1 hp with hp|hp
     ·obtain⟨p0,hp0,rfl⟩:=mem_map.1 hp
      have h8:=all_eq_true.1 h5 p0 hp0
      show((p0.1.sub (WT xs0 G.length)).ev (ρ++r)).bool=p0.2
      rw[<-r3 p0 hp0]
      congr 1
      refine J2 (fun i hi=> ?_) h8
      unfold WT
      split
      ·rename_i hw
       rw[bj _ _ _ _ (by rw[length_map];exact hw),Nw hw]
       refine Ex.cg (n:=G.length) (fun j hj=>bj _ _ _ _ (by omega)) ?_
       refine all_eq_true.1 h2 _ ?_
       rw[getD_eq_getElem?_getD,getElem?_eq_getElem hw]
       exact getElem_mem hw
      ·rename_i hw
       show(ρ++r).getD _ (.i 0)=_
       rw[getD_eq_getElem?_getD,getD_eq_getElem?_getD,getElem?_append_right (by omega),getElem?_append_right (by rw[length_map];omega),length_map]
       congr 2
       omega
     ·exact hF.app hu (by omega) r p hp
    ·intro p hp
     rw[length_append]
     rcases mem_append.1 hp with hp|hp
     ·obtain⟨p0,hp0,rfl⟩:=mem_map.1 hp
      have h8:=all_eq_true.1 h5 p0 hp0
      have key:∀e:Ex,e.under (s.args.length+s.res.length)=true->(e.sub (WT xs0 G.length)).under (G.length+s.res.length)=true:=by
       intro e
       induction e with
       |v i=>
        intro hi
        have hi:i<s.args.length+s.res.length:=le_of_ble_eq_true (by simpa[Ex.under,blt]using hi)
        show(WT xs0 G.length i).under _=true
        unfold WT
        split
        ·rename_i hw
         refine Ex.qj (m:=G.length) (by omega) (all_eq_true.1 h2 _ ?_)
         rw[getD_eq_getElem?_getD,getElem?_eq_getElem hw]
         exact getElem_mem hw
        ·simp only[Ex.under,blt];exact ble_eq_true_of_le (by omega)
       |i z=>intro _;rfl
       |b z=>intro _;rfl
       |s z=>intro _;rfl
       |nil=>intro _;rfl
       |u f x ih=>intro h;exact ih h
       |o f x y ih1 ih2=>
        intro h
        simp only[Ex.under,Bool.and_eq_true]at h
        simp only[Ex.sub,Ex.under,Bool.and_eq_true]
        exact⟨ih1 h.1,ih2 h.2⟩
       |t f x y z ih1 ih2 ih3=>
        intro h
        simp only[Ex.under,Bool.and_eq_true]at h
        simp only[Ex.sub,Ex.under,Bool.and_eq_true]
        exact⟨⟨ih1 h.1.1,ih2 h.1.2⟩,ih3 h.2⟩
      exact key _ h8
     ·exact Ex.qj (by omega) (hu p hp)
    ·intro l b hb
     obtain⟨m,hm0,hm1,hm2,hm3⟩:=hN l b hb
     refine⟨m,by rw[length_append];omega,?_,hm2,hm3⟩
     rw[bj _ _ _ _ hm0];exact hm1
   ·cases h
 | .loop NL body,G,F,K,ρ,Ks,q,h,hG,hq,hF,hu,hK,hN=>by
   unfold ck at h
   split at h
   ·rename_i z b x t e
    simp only[Bool.and_eq_true,decide_eq_true_eq]at h
    obtain⟨⟨⟨⟨⟨rfl,rfl⟩,h3⟩,h4⟩,h5⟩,h6⟩:=h
    have hGl:=EG hG
    obtain⟨xs,Rv,hx2⟩:=VV hI h4 (v:=x.ev ρ) (fun e he=>Zz hI hG hF x e he)
    have hxr:∀v:Sc,x.ev (ρ++[v])= .l xs:=fun v=>by
     rw[<-Rv]
     exact Ex.cg (n:=G.length) (fun j hj=>bj _ _ _ _ (by omega)) h3
    have hvr:∀v:Sc,(ρ++[v]).getD G.length (.i 0)=v:=fun v=>by
     rw[getD_eq_getElem?_getD,getElem?_append_right (by omega)]
     simp[hGl]
    have hN':∀(v:Sc) (o:Option Nat) (k:fF),(∀b,o=some b->∃n:Nat,b<(ρ++[v]).length/\(ρ++[v]).getD b (.i 0)= .i n/\n<LB/\fA (k [.i ((n+1:Nat):Int)]) fun r=>rO I sp.res r/\∀p∈sp.post,(p.1.ev (l0++r)).bool=p.2)->
     ∀(l b:Nat),(K++[o])[l]? =some (some b)->∃n:Nat,b<(ρ++[v]).length/\(ρ++[v]).getD b (.i 0)= .i n/\n<LB/\∃k',(Ks++[k])[l]? =some k'/\fA (k' [.i ((n+1:Nat):Int)]) fun r=>rO I sp.res r/\∀p∈sp.post,(p.1.ev (l0++r)).bool=p.2:=by
     intro v o k ho l b hb
     by_cases hl:l<K.length
     ·rw[getElem?_append_left hl]at hb
      obtain⟨m,hm0,hm1,hm2,k',mi,hm3⟩:=hN l b hb
      refine⟨m,by rw[length_append];omega,?_,hm2,k',?_,hm3⟩
      ·rw[bj _ _ _ _ hm0];exact hm1
      ·rw[getElem?_append_left (by omega)];exact mi
     ·have hl2:l=K.length:=by
       have:=bp hb
       simp at this;omega
      subst hl2
      rw[getElem?_append_right (Nat.le_refl _)]at hb
      simp at hb
      obtain⟨n,n0,n1,n2,n3⟩:=ho b hb
      exact⟨n,n0,n1,n2,k,by rw[hK,getElem?_append_right (Nat.le_refl _)];simp,n3⟩
    have hFa:∀(v:Sc),adf F (ρ++[v]):=fun v=>hF.app hu (by omega) [v]
    have huc:(Ex.o .lt (.v G.length) (.u .len x)).under (G++[Ty.nat]).length=true:=by
     simp only[Ex.under,Bool.and_eq_true,length_append,length_cons,length_nil]
     exact⟨by simp only[blt];exact ble_eq_true_of_le (by omega),Ex.qj (by omega) h3⟩
    have hu':∀(b:Bool),∀p∈((Ex.o .lt (.v G.length) (.u .len x),b)::F),p.1.under (G++[Ty.nat]).length=true:=fun b p hp=>by
     rcases mem_cons.1 hp with rfl|hp
     ·exact huc
     ·exact Ex.qj (by simp) (hu p hp)
    have Ae:∀i:Nat,((Ex.o .lt (.v G.length) (.u .len x)).ev (ρ++[.i (i:Int)])).bool=decide (i<xs.length):=by
     intro i
     have e:((Ex.v G.length).ev (ρ++[.i (i:Int)]))= .i i:=hvr _
     by_cases hi:i<xs.length
     ·rw[decide_eq_true hi,Na,ar3,Xa,e,hxr]
      show(i:Int)<xs.length
      omega
     ·rw[decide_eq_false hi,Na,aAB,Xa,e,hxr]
      show ¬(i:Int)<xs.length
      omega
    have run:∀(d i k:Nat),i+d=xs.length->fA (dz (fun rec v=>(T.ite (.o .lt (.v G.length) (.u .len x)) t e).bR Γ (ρ++v) (Ks++[rec])) (k+d+1) [.i (i:Int)]) fun r=>rO I sp.res r/\∀p∈sp.post,(p.1.ev (l0++r)).bool=p.2:=by
     intro d
     induction d with
     |zero=>
      intro i k hi
      rw[bO]
      show fA (if((Ex.o .lt (.v G.length) (.u .len x)).ev (ρ++[.i (i:Int)])).bool=true then _ else _) _
      rw[if_neg (by rw[Ae];simp;omega)]
      refine Zk hS l0 X5 e _ _ _ (ρ++[.i (i:Int)]) _ (q++[.i (i:Int)]) h6 (gF hG ⟨⟨i,rfl,by omega⟩,trivial⟩) (by rw[hq,append_assoc]) (fun p hp=> ?_) (hu' false) (by simp[hK]) (hN' _ none _ (fun b hb=>by cases hb))
      rcases mem_cons.1 hp with rfl|hp
      ·show((Ex.o .lt (.v G.length) (.u .len x)).ev (ρ++[.i (i:Int)])).bool=false
       rw[Ae];simp;omega
      ·exact hFa _ p hp
     |succ d ih=>
      intro i k hi
      rw[bO]
      show fA (if((Ex.o .lt (.v G.length) (.u .len x)).ev (ρ++[.i (i:Int)])).bool=true then _ else _) _
      rw[if_pos (by rw[Ae];simp;omega)]
      refine Zk hS l0 X5 t _ _ _ (ρ++[.i (i:Int)]) _ (q++[.i (i:Int)]) h5 (gF hG ⟨⟨i,rfl,by omega⟩,trivial⟩) (by rw[hq,append_assoc]) (fun p hp=> ?_) (hu' true) (by simp[hK]) (hN' _ (some G.length) _ (fun b hb=> ?_))
      ·rcases mem_cons.1 hp with rfl|hp
       ·show((Ex.o .lt (.v G.length) (.u .len x)).ev (ρ++[.i (i:Int)])).bool=true
        rw[Ae];simp;omega
       ·exact hFa _ p hp
      ·cases hb
       refine⟨i,by simp;omega,hvr _,by omega,?_⟩
       have:=ih (i+1) k (by omega)
       rw[show k+(d+1)=k+d+1 by omega]
       exact this
    obtain⟨k,hk⟩:=DV (n:=xs.length) (by unfold LB at hx2;omega)
    have:=run xs.length 0 k (by omega)
    rw[<-hk]at this
    exact this
   ·cases h
 | .next l vs,G,F,K,ρ,Ks,q,h,hG,hq,hF,hu,hK,hN=>by
   simp only[ck]at h
   split at h
   ·rename_i b k b' z hb
    simp only[Bool.and_eq_true,decide_eq_true_eq]at h
    obtain⟨⟨rfl,rfl⟩,rfl⟩:=h
    obtain⟨m,hm0,hm1,hm2,k,hk,hm3⟩:=hN l _ hb
    simp only[T.bR]
    rw[hk]
    show fA (k [Sc.i (IntKind.i64.wrap ((ρ.getD _ (.i 0)).int+1))]) _
    rw[hm1]
    show fA (k [Sc.i (IntKind.i64.wrap ((m:Int)+1))]) _
    unfold LB at hm2
    rw[aJ (by omega)]
    exact hm3
   ·cases h
include hI in
theorem rN {f:fF}{w:Nat}{t:T mA}{H:Nat->fF} (hf:∀l,f l=if l.length=w then t.bR H l []else none){sp:Sp} (hw:sp.args.length=w){S:List Sp} (hS:∀s∈S,ax7 I H s) (hc:(sp.pre.all (fun p=>p.1.under sp.args.length)&&ck tb S sp t sp.args sp.pre [])=true):kM I f sp:=by
 intro l hl hp
 rw[Bool.and_eq_true]at hc
 have hlen:=EG hl
 rw[hf,if_pos (by omega)]
 exact Zk hI hS l hlen.symm t sp.args sp.pre [] l [] [] hc.2 hl (by simp) hp (fun p h=>all_eq_true.1 hc.1 p h) rfl (fun l b h=>by simp at h)
end
end
section
abbrev yI:Ty:= .int
abbrev yS:Ty:= .str
abbrev yB:Ty:= .bool
abbrev yV:Ty:= .UF 0
abbrev yF:Ty:= .UF 1
abbrev yR:Ty:= .UF 2
abbrev yO:Ty:= .UF 3
abbrev yE:Ty:= .UF 4
abbrev yN:Ty:= .UF 5
abbrev yT:Ty:= .UF 6
abbrev yD:Ty:= .UF 9
abbrev yL:Ty:= .UF 10
abbrev yK:Ty:= .UF 11
abbrev yZ:Ty:= .UF 13
abbrev yX:Ty:= .UF 14
abbrev yC:Ty:= .UF 15
abbrev yA:Ty:= .UF 16
def kG:List Ty:=[yS,yV,yR,yO,yE,yN,yN,yN,yN,yN,yT,yA,yA]
def qO:List Ty:=[yS,yV,yD,yL]
def ol:List Ty:=[yI,yS,yI,yK]
def instrY:List Ty:=[yI,yI,yI,yI,yI,yS,yI,yK,yI,yS,yI,yK,yX,yI,yI,yI,yI,yZ,yZ,yB]
def tkM:Nat->Tk
 |0=> .row [yS,yI,yI]
 |1=> .row [yS,yI]
 |2=> .row [yS,yI,yA,yI,yS,yI,yI,yI,yI,yA,yA,yI,yI,yI,yI,yA,yA]
 |3=> .row [yS,yI,yI]
 |4=> .row [yS,yI,yI]
 |5=> .vec yS
 |6=> .row [yS,yF,yF,yA]
 |9=> .row kG
 |10=> .row [yS,yS,yI]
 |11=> .row ol
 |13=> .vec yI
 |14=> .row ol
 |15=> .row instrY
 |_=> .no
def aEG:Nat->Option Nat
 |11=>some 0
 |13=>some 5
 |14=>some 2
 |15=>some 1
 |_=>none
def axq:Nat->Option Ty
 |22=>some yS
 |23=>some yD
 |24=>some yI
 |_=>none
def Cg:Tb:=⟨tkM,aEG,axq⟩
def dL.tb (d:dL):Prop:=d.vars.length<=LB/\d.res.length<=LB/\d.cU.length<=LB/\d.kX.length<=LB/\d.fc.length<=LB/\d.cd.length<=LB/\d.de.length<=LB/\d.levels.length<=LB/\d.counts.length<=LB/\d.nh.length<=LB/\∀r∈d.nh,r.params.length<=LB/\r.locals.length<=LB
def vO.lb (x:vO):Prop:=x.e.sz<1000000/\x.f.sz<1000000/\x.args.length<=LB/\(∀k∈x.args,k.sz<1000000)/\x.d.vs.length<=LB/\x.d.ws.length<=LB
def IM (N:Nat) (X:Nat->Sc->Prop):Nat->Sc->Prop
 |0=>fun x=>∃l:List fh,x=ae fh.cs l/\l.length<=LB
 |1=>fun x=>∃l:List io,x=ae io.cs l/\l.length<=LB
 |2=>fun x=>∃l:List oP,x=ae oP.cs l/\l.length<=LB
 |3=>fun x=>∃l:List xg,x=ae xg.cs l/\l.length<=LB
 |4=>fun x=>∃l:List CO,x=ae CO.cs l/\l.length<=LB
 |5=>fun x=>∃l:xm,x=am l/\l.length<=LB
 |6=>fun x=>∃l:List jv,x=ae jv.cs l/\l.length<=LB/\∀r∈l,r.params.length<=LB/\r.locals.length<=LB
 |9=>fun x=>∃l:List dL,x=ae dL.cs l/\l.length<=LB/\∀d∈l,d.tb
 |10=>fun x=>∃l:List HR,x=ae HR.cs l/\l.length<=LB
 |11=>fun x=>∃l:i7,x=ae aj.cs l/\(l.map aj.sz).sum<999999
 |13=>fun x=>∃l:uD,x=bY l/\l.length<=LB
 |14=>fun x=>∃l:i7,x=ae aj.cs l/\l.length<=LB/\∀k∈l,k.sz<1000000
 |15=>fun x=>∃l:List vO,x=ae vO.cs l/\l.length<=N/\∀k∈l,k.lb
 |k+20=>X k
 |_=>fun _=>True
section
variable {N:Nat}{X:Nat->Sc->Prop}
abbrev hM (N:Nat) (X:Nat->Sc->Prop):=rO (IM N X)
theorem eF (b:Bs):has (IM N X) yS (.s (bs b)):=⟨b,rfl⟩
theorem aY (z:Int):has (IM N X) yI (.i z):=⟨z,rfl⟩
theorem OH (z:Bool):has (IM N X) yB (.b z):=⟨z,rfl⟩
theorem ah4 {e:aj} (h:e.sz<1000000):hM N X ol e.cs:=by
 rw[aj.aA]
 rw[aj.dR]at h
 exact⟨aY _,eF _,aY _,⟨e.ks,rfl,by omega⟩,trivial⟩
theorem Rj {c:aP} (h:hM N X ol c):∃e:aj,e.sz<1000000/\c=e.cs:=by
 match c,h with
 |[a,b,d,e],⟨⟨z,h1⟩,⟨s,h2⟩,⟨y,h3⟩,⟨l,h4,h5⟩,_⟩=>
  refine⟨.mk z s y l,?_,?_⟩
  ·rw[aj.dR];show 1+(l.map aj.sz).sum<1000000;omega
  ·rw[aj.jN,h1,h2,h3,h4]
theorem VJ {d:dL} (h:d.tb):hM N X kG d.cs:=by
 obtain⟨a1,a2,a3,a4,a5,a6,a7,a8,a9,a10,a11⟩:=h
 exact⟨eF _,⟨_,rfl,a1⟩,⟨_,rfl,a2⟩,⟨_,rfl,a3⟩,⟨_,rfl,a4⟩,⟨_,rfl,a5⟩,⟨_,rfl,a6⟩,⟨_,rfl,a7⟩,⟨_,rfl,a8⟩,⟨_,rfl,a9⟩,⟨_,rfl,a10,a11⟩,trivial,trivial,trivial⟩
theorem aey {α:Type}{f:α->aP}{p:α->Prop}:∀{xs:aP},(∀y∈xs,∃a,p a/\y= .l (f a))->∃l:List α,Sc.l xs=ae f l/\l.length=xs.length/\∀a∈l,p a
 |[],_=>⟨[],rfl,rfl,fun _ h=>by cases h⟩
 |y::xs,h=>by
  obtain⟨a,ha,hy⟩:=h y (by simp)
  obtain⟨l,h1,h2,h3⟩:=aey (xs:=xs) fun z hz=>h z (by simp[hz])
  refine⟨a::l,?_,by simp[h2],fun b hb=> ?_⟩
  ·have:xs=l.map fun x=>Sc.l (f x):=by unfold ae at h1;exact Sc.l.inj h1
   rw[hy,this];rfl
  ·rcases mem_cons.1 hb with rfl|hb
   ·exact ha
   ·exact h3 b hb
theorem ajY:∀{xs:aP},(∀y∈xs,∃z,y= .i z)->∃l:uD,Sc.l xs=bY l/\l.length=xs.length
 |[],_=>⟨[],rfl,rfl⟩
 |y::xs,h=>by
  obtain⟨a,hy⟩:=h y (by simp)
  obtain⟨l,h1,h2⟩:=ajY (xs:=xs) fun z hz=>h z (by simp[hz])
  refine⟨a::l,?_,by simp[h2]⟩
  have:xs=l.map Sc.i:=by unfold bY at h1;exact Sc.l.inj h1
  rw[hy,this];rfl
theorem ary {x:vO} (h:x.lb):hM N X instrY x.cs:=by
 obtain⟨h1,h2,h3,h4,h5,h6⟩:=h
 have he:(x.e.ks.map aj.sz).sum<999999:=by rw[aj.dR]at h1;omega
 have hf:(x.f.ks.map aj.sz).sum<999999:=by rw[aj.dR]at h2;omega
 exact⟨aY _,aY _,aY _,aY _,aY _,eF _,aY _,⟨_,rfl,he⟩,aY _,eF _,aY _,⟨_,rfl,hf⟩,⟨_,rfl,h3,h4⟩,aY _,aY _,aY _,aY _,⟨_,rfl,h5⟩,⟨_,rfl,h6⟩,OH _,trivial⟩
theorem ah {I:Nat->Sc->Prop}{t:Ty}{ts:List Ty}:∀{c:aP},rO I (t::ts) c->∃x xs,c=x::xs/\has I t x/\rO I ts xs
 |[],h=>h.elim
 |x::xs,h=>⟨x,xs,rfl,h.1,h.2⟩
theorem mU {I:Nat->Sc->Prop}:∀{c:aP},rO I [] c->c=[]
 |[],_=>rfl
 |_::_,h=>h.elim
theorem afX {c:aP} (h:hM N X instrY c):∃x:vO,x.lb/\c=x.cs:=by
 unfold hM instrY at h
 obtain⟨_,c,rfl,⟨x0,h0⟩,h⟩:=ah h
 obtain⟨_,c,rfl,⟨x1,h1⟩,h⟩:=ah h
 obtain⟨_,c,rfl,⟨x2,h2⟩,h⟩:=ah h
 obtain⟨_,c,rfl,⟨x3,h3⟩,h⟩:=ah h
 obtain⟨_,c,rfl,⟨x4,h4⟩,h⟩:=ah h
 obtain⟨_,c,rfl,⟨x5,h5⟩,h⟩:=ah h
 obtain⟨_,c,rfl,⟨x6,h6⟩,h⟩:=ah h
 obtain⟨_,c,rfl,⟨x7,h7,g7⟩,h⟩:=ah h
 obtain⟨_,c,rfl,⟨x8,h8⟩,h⟩:=ah h
 obtain⟨_,c,rfl,⟨x9,h9⟩,h⟩:=ah h
 obtain⟨_,c,rfl,⟨x10,h10⟩,h⟩:=ah h
 obtain⟨_,c,rfl,⟨x11,h11,g11⟩,h⟩:=ah h
 obtain⟨_,c,rfl,⟨x12,h12,g12,i12⟩,h⟩:=ah h
 obtain⟨_,c,rfl,⟨x13,h13⟩,h⟩:=ah h
 obtain⟨_,c,rfl,⟨x14,h14⟩,h⟩:=ah h
 obtain⟨_,c,rfl,⟨x15,h15⟩,h⟩:=ah h
 obtain⟨_,c,rfl,⟨x16,h16⟩,h⟩:=ah h
 obtain⟨_,c,rfl,⟨x17,h17,g17⟩,h⟩:=ah h
 obtain⟨_,c,rfl,⟨x18,h18,g18⟩,h⟩:=ah h
 obtain⟨_,c,rfl,⟨x19,h19⟩,h⟩:=ah h
 cases mU h
 refine⟨⟨x0,x1,x2,x3,.mk x4 x5 x6 x7,.mk x8 x9 x10 x11,x12,⟨x13,x14,x15,x16,x17,x18⟩,x19⟩,⟨?_,?_,g12,i12,g17,g18⟩,?_⟩
 ·rw[aj.dR];show 1+(x7.map aj.sz).sum<1000000;omega
 ·rw[aj.dR];show 1+(x11.map aj.sz).sum<1000000;omega
 ·rw[h0,h1,h2,h3,h4,h5,h6,h7,h8,h9,h10,h11,h12,h13,h14,h15,h16,h17,h18,h19];rfl
theorem yj {α:Type}{f:α->aP}{l:List α}{y:Sc} (h:y∈l.map fun x=>Sc.l (f x)):∃a∈l,y= .l (f a):=by
 obtain⟨a,ha,rfl⟩:=mem_map.1 h
 exact⟨a,ha,rfl⟩
theorem aeY (hN:1<=N/\N<=LB) (hX:(∀x,X 2 x->∃b,x= .s (bs b))/\(∀x,X 3 x->IM N X 9 x)/\∀x,X 4 x->∃z,x= .i z):jw Cg (IM N X) where
 row:=by
  intro k cs x hk hx
  match k,hk,hx with
  |0,hk,⟨l,h1,h2⟩=>
   cases hk
   refine⟨_,h1,by simpa using h2,fun y hy=> ?_⟩
   obtain⟨a,ha,rfl⟩:=yj hy
   exact⟨_,rfl,eF _,aY _,aY _,trivial⟩
  |1,hk,⟨l,h1,h2⟩=>
   cases hk
   refine⟨_,h1,by simpa using h2,fun y hy=> ?_⟩
   obtain⟨a,ha,rfl⟩:=yj hy
   exact⟨_,rfl,eF _,aY _,trivial⟩
  |2,hk,⟨l,h1,h2⟩=>
   cases hk
   refine⟨_,h1,by simpa using h2,fun y hy=> ?_⟩
   obtain⟨a,ha,rfl⟩:=yj hy
   exact⟨_,rfl,eF _,aY _,trivial,aY _,eF _,aY _,aY _,aY _,aY _,trivial,trivial,aY _,aY _,aY _,aY _,trivial,trivial,trivial⟩
  |3,hk,⟨l,h1,h2⟩=>
   cases hk
   refine⟨_,h1,by simpa using h2,fun y hy=> ?_⟩
   obtain⟨a,ha,rfl⟩:=yj hy
   exact⟨_,rfl,eF _,aY _,aY _,trivial⟩
  |4,hk,⟨l,h1,h2⟩=>
   cases hk
   refine⟨_,h1,by simpa using h2,fun y hy=> ?_⟩
   obtain⟨a,ha,rfl⟩:=yj hy
   exact⟨_,rfl,eF _,aY _,aY _,trivial⟩
  |6,hk,⟨l,h1,h2,h3⟩=>
   cases hk
   refine⟨_,h1,by simpa using h2,fun y hy=> ?_⟩
   obtain⟨a,ha,rfl⟩:=yj hy
   exact⟨_,rfl,eF _,⟨_,rfl,(h3 a ha).1⟩,⟨_,rfl,(h3 a ha).2⟩,trivial,trivial⟩
  |9,hk,⟨l,h1,h2,h3⟩=>
   cases hk
   refine⟨_,h1,by simpa using h2,fun y hy=> ?_⟩
   obtain⟨a,ha,rfl⟩:=yj hy
   exact⟨_,rfl,VJ (h3 a ha)⟩
  |10,hk,⟨l,h1,h2⟩=>
   cases hk
   refine⟨_,h1,by simpa using h2,fun y hy=> ?_⟩
   obtain⟨a,ha,rfl⟩:=yj hy
   exact⟨_,rfl,eF _,eF _,aY _,trivial⟩
  |11,hk,⟨l,h1,h2⟩=>
   cases hk
   have:=aj.AG l
   refine⟨_,h1,by simp;unfold LB;omega,fun y hy=> ?_⟩
   obtain⟨a,ha,rfl⟩:=yj hy
   have:=yk (f:=aj.sz) ha
   exact⟨_,rfl,ah4 (by omega)⟩
  |14,hk,⟨l,h1,h2,h3⟩=>
   cases hk
   refine⟨_,h1,by simpa using h2,fun y hy=> ?_⟩
   obtain⟨a,ha,rfl⟩:=yj hy
   exact⟨_,rfl,ah4 (h3 a ha)⟩
  |15,hk,⟨l,h1,h2,h3⟩=>
   cases hk
   refine⟨_,h1,by simp;omega,fun y hy=> ?_⟩
   obtain⟨a,ha,rfl⟩:=yj hy
   exact⟨_,rfl,ary (h3 a ha)⟩
  |5,hk,_=>cases hk
  |7,hk,_=>cases hk
  |8,hk,_=>cases hk
  |12,hk,_=>cases hk
  |13,hk,_=>cases hk
  |k+16,hk,_=>cases hk
 vec:=by
  intro k t x hk hx
  match k,hk,hx with
  |5,hk,⟨l,h1,h2⟩=>
   cases hk
   refine⟨_,h1,by simpa using h2,fun y hy=> ?_⟩
   obtain⟨a,ha,rfl⟩:=mem_map.1 hy
   exact eF _
  |13,hk,⟨l,h1,h2⟩=>
   cases hk
   refine⟨_,h1,by simpa using h2,fun y hy=> ?_⟩
   obtain⟨a,ha,rfl⟩:=mem_map.1 hy
   exact aY _
  |0,hk,_=>cases hk
  |1,hk,_=>cases hk
  |2,hk,_=>cases hk
  |3,hk,_=>cases hk
  |4,hk,_=>cases hk
  |6,hk,_=>cases hk
  |7,hk,_=>cases hk
  |8,hk,_=>cases hk
  |9,hk,_=>cases hk
  |10,hk,_=>cases hk
  |11,hk,_=>cases hk
  |12,hk,_=>cases hk
  |14,hk,_=>cases hk
  |15,hk,_=>cases hk
  |k+16,hk,_=>cases hk
 sup:=by
  intro k t x hk hx
  have hk:axq k=some t:=hk
  unfold axq at hk
  split at hk
  ·cases hk;exact hX.1 x hx
  ·cases hk;exact hX.2.1 x hx
  ·cases hk;exact hX.2.2 x hx
  ·cases hk
 aAy:=by
  intro k cs n xs hk hl hn hx
  match k,hk,hl with
  |11,hk,hl=>
   cases hk;cases hl
   have:xs=[]:=length_eq_zero_iff.1 (by omega)
   subst this
   exact⟨[],rfl,by decide⟩
  |14,hk,hl=>
   cases hk;cases hl
   obtain⟨l,h1,h2,h3⟩:=aey (f:=aj.cs) (p:=fun e=>e.sz<1000000) (xs:=xs) fun y hy=>by
    obtain⟨c,rfl,hc⟩:=hx y hy
    obtain⟨e,he,rfl⟩:=Rj hc
    exact⟨e,he,rfl⟩
   exact⟨l,h1,by unfold LB;omega,h3⟩
  |15,hk,hl=>
   cases hk;cases hl
   obtain⟨l,h1,h2,h3⟩:=aey (f:=vO.cs) (p:=vO.lb) (xs:=xs) fun y hy=>by
    obtain⟨c,rfl,hc⟩:=hx y hy
    obtain⟨e,he,rfl⟩:=afX hc
    exact⟨e,he,rfl⟩
   exact⟨l,h1,by omega,h3⟩
  |0,_,hl=>cases hl
  |1,_,hl=>cases hl
  |2,_,hl=>cases hl
  |3,_,hl=>cases hl
  |4,_,hl=>cases hl
  |5,_,hl=>cases hl
  |6,_,hl=>cases hl
  |7,_,hl=>cases hl
  |8,_,hl=>cases hl
  |9,_,hl=>cases hl
  |10,_,hl=>cases hl
  |12,_,hl=>cases hl
  |13,hk,_=>cases hk
  |k+16,_,hl=>cases hl
 aAz:=by
  intro k t n xs hk hl hn hx
  match k,hk,hl with
  |13,hk,hl=>
   cases hk;cases hl
   obtain⟨l,h1,h2⟩:=ajY hx
   exact⟨l,h1,by unfold LB;omega⟩
  |0,_,hl=>cases hl
  |1,_,hl=>cases hl
  |2,_,hl=>cases hl
  |3,_,hl=>cases hl
  |4,_,hl=>cases hl
  |5,_,hl=>cases hl
  |6,_,hl=>cases hl
  |7,_,hl=>cases hl
  |8,_,hl=>cases hl
  |9,_,hl=>cases hl
  |10,_,hl=>cases hl
  |11,hk,_=>cases hk
  |12,_,hl=>cases hl
  |14,hk,_=>cases hk
  |15,hk,_=>cases hk
  |k+16,_,hl=>cases hl
end
end
section
abbrev vQ:Sp:=⟨356,[yI],[],[yB],[]⟩
abbrev Xw:Sp:=⟨345,[yI,yI],[],[yI],[]⟩
abbrev UN:Sp:=⟨346,[yI,yI,yI],[],[yI],[]⟩
abbrev UO:Sp:=⟨344,[yI,yS],[],[yB],[]⟩
abbrev pR:Sp:=⟨309,[yF,yS],[],[yI,yB],[]⟩
abbrev Y2:Sp:=⟨343,[yV,yF]++kG++[yS],[],[yI,yB],[]⟩
abbrev oe:Sp:=⟨139,kG++[yS],[],[yI],[(.o .lt (.v 14) (.u .len (.v 10)),true)]⟩
abbrev pQ:Sp:=⟨215,[yN,yS],[],[yI],[]⟩
abbrev En:Sp:=⟨209,kG++[yS],[],[yS,yI],[]⟩
abbrev P7:Sp:=⟨166,kG++[yS],[],[yS],[]⟩
abbrev MW:Sp:=⟨294,kG++[yS],[],[yI],[]⟩
abbrev P9:Sp:=⟨32,qO++[yS],[],[yI],[(.o .lt (.v 5) (.u .len (.v 2)),true)]⟩
abbrev P8:Sp:=⟨296,qO++[yS,yS],[],[yI,yB],[]⟩
abbrev MX:Sp:=⟨311,[yV,yF]++kG++ol,[],[yI,yI],[]⟩
abbrev gE:Sp:=⟨288,qO++[yI,yV,yF]++kG++ol++[yZ],[],[yI],[]⟩
abbrev sa:Sp:=⟨287,qO++[yI,yV,yF]++kG++[yS,yS],[],[yB],[]⟩
abbrev uZ:Sp:=⟨310,qO++[yI,yV,yF]++kG++[yS,yZ],[],[yI],[]⟩
abbrev xz:Sp:=⟨286,qO++[yI,yV,yF]++kG++[yS,yB,yZ],[],[yI],[]⟩
abbrev wA:Sp:=⟨289,qO++[yI,yV,yF]++kG++[yI,yS,yS]++ol++ol++[yX,yI,yI,yI,yI,yZ,yZ,yB,yA,yA]++[yS,yX],[],[yI],[]⟩
abbrev zR:Sp:=⟨285,qO++[yI,yV,yF]++kG++[yI,yS,yS]++ol++ol++[yX,yI,yI,yI,yI,yZ,yZ,yB,yA,yA],[],[yI],[]⟩
abbrev o5:Sp:=⟨291,qO++[yI,yV,yF]++kG++[yS,yF,yF,yA]++[yI,yS,yS]++ol++ol++[yX,yI,yI,yI,yI,yZ,yZ,yB,yA,yA],[],[yI],[]⟩
abbrev xA:Sp:=⟨290,qO++[yI,yV,yF]++kG++[yI,yS,yS]++ol++ol++[yX,yI,yI,yI,yI,yZ,yZ,yB,yA,yA],[],[yI],[]⟩
abbrev LZ:Sp:=⟨243,qO++[yI,yV,yF]++kG++[yI,yS,yS]++ol++ol++[yX,yI,yI,yI,yI,yZ,yZ,yB,yA,yA],[],[yI],[]⟩
abbrev zQ:Sp:=⟨258,qO++[yV,yF]++kG++[yI]++[yS],[],[yI,yI],[]⟩
abbrev ud:Sp:=⟨259,qO++[yV,yF]++kG++[yI]++[yS],[],[yI,yI],[]⟩
abbrev xy:Sp:=⟨256,qO++[yV,yF]++kG++[yI]++[yS],[],[yI,yI],[]⟩
abbrev wz:Sp:=⟨351,[yI],[],[yI],[]⟩
abbrev WJ:Sp:=⟨352,[yI],[],[yI],[]⟩
abbrev P5:Sp:=⟨185,[yI,yI],[],[yI,yI],[]⟩
abbrev YZ:Sp:=⟨332,[yI,yI],[],[yI],[]⟩
abbrev Y1:Sp:=⟨333,[yI,yI],[],[yI],[]⟩
abbrev QV:Sp:=⟨334,[yI,yI],[],[yI],[]⟩
abbrev Y0:Sp:=⟨335,[yI,yI],[],[yI],[]⟩
abbrev Cn:Sp:=⟨330,[yI],[],[yI],[]⟩
abbrev GD:Sp:=⟨331,[yB],[],[yI],[]⟩
abbrev P6:Sp:=⟨336,[yI,yI,yI],[],[yB],[]⟩
abbrev abm:Sp:=⟨316,[yI,yI],[],[yI],[]⟩
abbrev YY:Sp:=⟨317,[yI,yI,yI],[],[yI],[]⟩
section
variable {N:Nat}{X:Nat->Sc->Prop}
theorem E1 (hI:jw Cg (IM N X)):kM (IM N X) kB.F vQ:=
 rN hI Tf rfl (S:=[]) (by
  intro s hs
  cases hs) (by decide+kernel)
theorem Ye (hI:jw Cg (IM N X)):kM (IM N X) sE.F Xw:=
 rN hI ZI rfl (S:=[vQ]) (by
  intro s hs
  simp only[mem_cons,not_mem_nil,or_false]at hs
  rcases hs with rfl
  ·show kM (IM N X) (Ee 356) _
   rw[Ro];exact E1 hI) (by decide+kernel)
theorem Wd (hI:jw Cg (IM N X)):kM (IM N X) pZ.F UN:=
 rN hI XG rfl (S:=[vQ]) (by
  intro s hs
  simp only[mem_cons,not_mem_nil,or_false]at hs
  rcases hs with rfl
  ·show kM (IM N X) (Cm 356) _
   rw[Pt];exact E1 hI) (by decide+kernel)
theorem We (hI:jw Cg (IM N X)):kM (IM N X) qd.F UO:=
 rN hI XH rfl (S:=[]) (by
  intro s hs
  cases hs) (by decide+kernel)
theorem oI (hI:jw Cg (IM N X)):kM (IM N X) bx.F oe:=
 rN hI LG rfl (S:=[]) (by
  intro s hs
  cases hs) (by decide+kernel)
theorem CI (hI:jw Cg (IM N X)):kM (IM N X) cH.F pQ:=
 rN hI rz rfl (S:=[]) (by
  intro s hs
  cases hs) (by decide+kernel)
theorem Oe (hI:jw Cg (IM N X)):kM (IM N X) qt.F En:=
 rN hI abC rfl (S:=[oe,pQ]) (by
  intro s hs
  simp only[mem_cons,not_mem_nil,or_false]at hs
  rcases hs with rfl|rfl
  ·show kM (IM N X) (uU 139) _
   rw[Tv];exact oI hI
  ·show kM (IM N X) (uU 215) _
   rw[Tw];exact CI hI) (by decide+kernel)
theorem Bh (hI:jw Cg (IM N X)):kM (IM N X) ef.F P7:=
 rN hI adP rfl (S:=[En]) (by
  intro s hs
  simp only[mem_cons,not_mem_nil,or_false]at hs
  rcases hs with rfl
  ·show kM (IM N X) (JP 209) _
   rw[Vo];exact Oe hI) (by decide+kernel)
theorem aaF (hI:jw Cg (IM N X)):kM (IM N X) Bb.F MW:=
 rN hI abz rfl (S:=[En]) (by
  intro s hs
  simp only[mem_cons,not_mem_nil,or_false]at hs
  rcases hs with rfl
  ·show kM (IM N X) (Gu 209) _
   rw[Tt];exact Oe hI) (by decide+kernel)
theorem acf (hI:jw Cg (IM N X)):kM (IM N X) fV.F P9:=
 rN hI Tc rfl (S:=[]) (by
  intro s hs
  cases hs) (by decide+kernel)
theorem QG (hI:jw Cg (IM N X)):kM (IM N X) tN.F P8:=
 rN hI adQ rfl (S:=[]) (by
  intro s hs
  cases hs) (by decide+kernel)
theorem uv (hI:jw Cg (IM N X)):kM (IM N X) cM.F ud:=
 rN hI GJ rfl (S:=[]) (by
  intro s hs
  cases hs) (by decide+kernel)
theorem yH (hI:jw Cg (IM N X)):kM (IM N X) dc.F xy:=
 rN hI L0 rfl (S:=[MW]) (by
  intro s hs
  simp only[mem_cons,not_mem_nil,or_false]at hs
  rcases hs with rfl
  ·show kM (IM N X) (qx 294) _
   rw[Fp];exact aaF hI) (by decide+kernel)
theorem Ce (hI:jw Cg (IM N X)):kM (IM N X) kP.F wz:=
 rN hI ahW rfl (S:=[]) (by
  intro s hs
  cases hs) (by decide+kernel)
theorem agV (hI:jw Cg (IM N X)):kM (IM N X) KB.F WJ:=
 rN hI ahY rfl (S:=[]) (by
  intro s hs
  cases hs) (by decide+kernel)
theorem acb (hI:jw Cg (IM N X)):kM (IM N X) DM.F P5:=
 rN hI adF rfl (S:=[]) (by
  intro s hs
  cases hs) (by decide+kernel)
theorem aiY (hI:jw Cg (IM N X)):kM (IM N X) OI.F YZ:=
 rN hI ak0 rfl (S:=[wz]) (by
  intro s hs
  simp only[mem_cons,not_mem_nil,or_false]at hs
  rcases hs with rfl
  ·show kM (IM N X) (UI 351) _
   rw[abT];exact Ce hI) (by decide+kernel)
theorem ai0 (hI:jw Cg (IM N X)):kM (IM N X) OK.F Y1:=
 rN hI ak3 rfl (S:=[P5,wz,WJ]) (by
  intro s hs
  simp only[mem_cons,not_mem_nil,or_false]at hs
  rcases hs with rfl|rfl|rfl
  ·show kM (IM N X) (Ar 185) _
   rw[abX];exact acb hI
  ·show kM (IM N X) (Ar 351) _
   rw[abY];exact Ce hI
  ·show kM (IM N X) (Ar 352) _
   rw[abZ];exact agV hI) (by decide+kernel)
theorem aaG (hI:jw Cg (IM N X)):kM (IM N X) D5.F QV:=
 rN hI ak1 rfl (S:=[wz]) (by
  intro s hs
  simp only[mem_cons,not_mem_nil,or_false]at hs
  rcases hs with rfl
  ·show kM (IM N X) (UJ 351) _
   rw[abU];exact Ce hI) (by decide+kernel)
theorem aiZ (hI:jw Cg (IM N X)):kM (IM N X) OJ.F Y0:=
 rN hI ak2 rfl (S:=[QV,wz]) (by
  intro s hs
  simp only[mem_cons,not_mem_nil,or_false]at hs
  rcases hs with rfl|rfl
  ·show kM (IM N X) (HW 334) _
   rw[abV];exact aaG hI
  ·show kM (IM N X) (HW 351) _
   rw[abW];exact Ce hI) (by decide+kernel)
theorem LU (hI:jw Cg (IM N X)):kM (IM N X) oz.F Cn:=
 rN hI ZA rfl (S:=[wz]) (by
  intro s hs
  simp only[mem_cons,not_mem_nil,or_false]at hs
  rcases hs with rfl
  ·show kM (IM N X) (D9 351) _
   rw[Ri];exact Ce hI) (by decide+kernel)
theorem QF (hI:jw Cg (IM N X)):kM (IM N X) tK.F GD:=
 rN hI adJ rfl (S:=[]) (by
  intro s hs
  cases hs) (by decide+kernel)
theorem ace (hI:jw Cg (IM N X)):kM (IM N X) DN.F P6:=
 rN hI adI rfl (S:=[]) (by
  intro s hs
  cases hs) (by decide+kernel)
theorem acd (hI:jw Cg (IM N X)):kM (IM N X) xZ.F abm:=
 rN hI adH rfl (S:=[Cn,GD]) (by
  intro s hs
  simp only[mem_cons,not_mem_nil,or_false]at hs
  rcases hs with rfl|rfl
  ·show kM (IM N X) (xk 330) _
   rw[Vi];exact LU hI
  ·show kM (IM N X) (xk 331) _
   rw[Vj];exact QF hI) (by decide+kernel)
theorem aaE (hI:jw Cg (IM N X)):kM (IM N X) vh.F YY:=
 rN hI abw rfl (S:=[Cn,GD,YZ,Y1,QV,Y0,P6]) (by
  intro s hs
  simp only[mem_cons,not_mem_nil,or_false]at hs
  rcases hs with rfl|rfl|rfl|rfl|rfl|rfl|rfl
  ·show kM (IM N X) (dA 330) _
   rw[Tj];exact LU hI
  ·show kM (IM N X) (dA 331) _
   rw[Tl];exact QF hI
  ·show kM (IM N X) (dA 332) _
   rw[Tm];exact aiY hI
  ·show kM (IM N X) (dA 333) _
   rw[Tn];exact ai0 hI
  ·show kM (IM N X) (dA 334) _
   rw[To];exact aaG hI
  ·show kM (IM N X) (dA 335) _
   rw[Tp];exact aiZ hI
  ·show kM (IM N X) (dA 336) _
   rw[Tq];exact ace hI) (by decide+kernel)
end
end
end Go.Proofs.YtlklkgdaegncaaaGreatDoor
