/-
  A part of the proof of TopText: LX6, PA, PB, PC, PD, PE, PF, PG, PH, PI.
-/
import Derived.Test.YtlklkgdaegncaaaGreatDoorZ14
namespace Go.Proofs.YtlklkgdaegncaaaGreatDoor
set_option linter.unusedVariables false
set_option linter.unusedSimpArgs false
set_option maxRecDepth 20000
set_option maxHeartbeats 8000000
open List
open Nat
open Int
theorem TN (t:Int):Lq (kD t) [wT (kD t)]:=by
 unfold kD
 repeat' split
 all_goals exact F3 (by decide) (by decide) (by decide)
theorem aiB (t:Int):Lq (rJ t) [wT (rJ t)]:=by
 unfold rJ
 repeat' split
 all_goals exact F3 (by decide) (by decide) (by decide)
def kV (t n:Int):ba:=if t=2 then RU n else ng n
theorem z8.num {t n:Int} (h:z8 t n):ld n:=by
 unfold z8 ld at*;omega
theorem adc {t n:Int} (h:z8 t n):Lq (HP t n) (kV t n):=by
 unfold HP kV
 split
 ·exact ag9 n
 ·exact aeJ h.num
theorem kw {w:Bs} (h0:w≠[]) (h1:Xe (w.getD 0 0)=true) (h2:∀c∈w,Jf c=true):Lw w [wT w]:=kwL h0 h1 h2
def Wp (w:Bs) (v:fh):ba:=wT w::wT v.nm::wT (kD v.ty)::sT UA::kV v.ty v.n
theorem akC {w:Bs} (hw:Lw w [wT w]) (v:fh) (h:v.ok):Bn (My w v) (Wp w v):=
 .w hw (.w h.1.lq.lw (.w (TN v.ty).lw (.w (sgL (by decide)) (.one _ _ (adc h.2.2).lw))))
def chT (c:QQ):ba:=[nT c.at_,sT nt,nT c.gU]
def Py (r:oP):ba:=if r.shift=[]then[]else wT Ow::(aK chT r.shift++[wT Wv,nT r.oh])
def Cc (r:oP):ba:=if r.fs=[]then[]else wT UB::wT r.fs::wT aa6::(r.up.tk++wT Yi::r.down.tk)
def reT (r:oP):ba:=wT zm::wT r.nm::nT r.gU::(Py r++Cc r)
theorem KO {a b n:Int} (h:vg a b n) (ha:0<=a) (hb:b<=1000000000000):Lw (bQ n) [nT n]:=(AK h ha hb).lw
theorem awZ (d:dL) (r:oP) (h:r.ok d) (hs:∀x∈d.cd,Name x):Bn (PA r) (reT r):=by
 obtain⟨h1,h2,h3,h4⟩:=h
 have base:Bn [zm,r.nm,bQ r.gU] [wT zm,wT r.nm,nT r.gU]:=
  .w (kw (by decide) (by decide) (by decide)) (.w h1.lq.lw (.one _ _ (KO h2 (by decide) (by decide))))
 have k1:Bn (QC r) ([wT zm,wT r.nm,nT r.gU]++Py r):=by
  unfold oP.sched at h3
  unfold QC Py
  rcases h3 with⟨s1,s2⟩|⟨s1,s2,s3,s4⟩
  ·rw[if_pos s1,if_pos s1];simpa using base
  ·rw[if_neg s1,if_neg s1]
   have hc:∀c∈r.shift,Lw (chB c) (chT c):=fun c hc=>by
    obtain⟨q1,q2⟩:=s4 c hc
    refine(afy ?_ ?_).lw
    ·unfold vg at q1 s3;exact OQ (by omega) (by omega)
    ·exact AK q2 (by decide) (by decide)
   have hl:∀l:List QQ,l≠[]->(∀c∈l,Lw (chB c) (chT c))->Bn (l.map chB) (aK chT l):=by
    intro l
    induction l with
    |nil=>intro h;exact absurd rfl h
    |cons a q ih=>
     intro _ hh
     by_cases hq:q=[]
     ·subst hq
      have:=Bn.one _ _ (hh a (by simp))
      simpa[aK]using this
     ·exact .w (hh a (by simp)) (ih hq fun c hc=>hh c (by simp[hc]))
   have e1:Bn [Wv,bQ r.oh] [wT Wv,nT r.oh]:= .w (kw (by decide) (by decide) (by decide)) (.one _ _ (KO s3 (by decide) (by decide)))
   have e2:Bn [Ow] [wT Ow]:= .one _ _ (kw (by decide) (by decide) (by decide))
   have:=base.app (e2.app ((hl r.shift s1 hc).app e1))
   simpa using this
 unfold PA reT Cc
 by_cases hf:r.fs=[]
 ·rw[if_pos hf,if_pos hf];simpa using k1
 ·rw[if_neg hf,if_neg hf]
  unfold oP.fault at h4
  rcases h4 with⟨h,_⟩|⟨_,f1,f2,f3⟩
  ·exact absurd h hf
  ·have e3:Bn [UB,r.fs,aa6,r.up.tx,Yi,r.down.tx] (wT UB::wT r.fs::wT aa6::(r.up.tk++wT Yi::r.down.tk)):=
    .w (kw (by decide) (by decide) (by decide)) (.w (hs _ f1).lq.lw (.w (kw (by decide) (by decide) (by decide)) (.w (Zs _ f2).lw (.w (kw (by decide) (by decide) (by decide)) (.one _ _ (Zs _ f3).lw)))))
   have:=k1.app e3
   simpa using this
def soT (x:xg):ba:=[wT MC,wT x.nm,nT x.room,wT (rJ x.KN)]
def beT (x:CO):ba:=[wT Mz,wT x.nm,nT x.length,nT x.step]
theorem KY:∀w∈aaS,Name w:=by
 have h:∀w∈aaS,w≠[]/\w.length<=24/\Xe (w.getD 0 0)=true/\(∀c∈w,Jf c=true)/\w∉Ya:=by decide
 exact h
def teC (t:rR):Int:=if t.jM<0 then 0-t.jM else t.jM
def oJ (t:rR):ba:=if teC t=1 then[wT t.what,wT t.nm]else[nT (teC t),sT JG,wT t.what,wT t.nm]
def teT (first:Bool) (t:rR):ba:=(if first then(if t.jM<0 then[sT rS]else[])else[if t.jM<0 then sT rS else sT YI])++oJ t
def ai9:List rR->ba
 |[]=>[]
 |t::r=>teT true t++aK (teT false) r
def laT (l:zC):ba:=wT FO::wT l.nm::sT nt::(ai9 l.dK++sT UA::ng l.total)
theorem akx {d:dL} (hd:d.ok){t:rR} (h:t.ok d):Name t.nm:=by
 rcases h.2.1 with⟨r,hr,e⟩|⟨r,hr,e⟩|hr
 ·rw[<-e];exact(hd.t r hr).1
 ·rw[<-e];exact(hd.s r hr).1
 ·exact hd.n5 _ hr
theorem aqf {d:dL} (hd:d.ok){t:rR} (h:t.ok d) (b:Bool):Bn (teW b t) (teT b t):=by
 have hn:=akx hd h
 have hw:=KY _ h.1
 obtain⟨_,_,hc,h0⟩:=h
 have hc':vg 1 1000 (teC t):=by unfold teC vg at*;split<;>omega
 have az5:=AK hc' (by decide) (by decide)
 have FE:wd []=([]:Bs):=rfl
 have m61:(rS).getD 0 0≠61:=by decide
 have hs:∀w,w∈Jz->Bn [w] [sT w]:=fun w hw=> .one _ _ (sgL hw)
 have plain:Bn (if teC t=1 then[t.what,t.nm]else[bQ (teC t),JG,t.what,t.nm]) (oJ t):=by
  unfold oJ
  split
  ·exact .w hw.lq.lw (.one _ _ hn.lq.lw)
  ·exact .w az5.lw (.w (sgL (by decide)) (.w hw.lq.lw (.one _ _ hn.lq.lw)))
 have minus:Bn (if teC t=1 then[rS++t.what,t.nm]else[rS++bQ (teC t),JG,t.what,t.nm]) (sT rS::oJ t):=by
  unfold oJ
  split
  ·exact .w (Lq.sgn (s:=rS) (by decide) m61 hw.lq).lw (.one _ _ hn.lq.lw)
  ·exact .w (Lq.sgn (s:=rS) (by decide) m61 az5).lw (.w (sgL (by decide)) (.w hw.lq.lw (.one _ _ hn.lq.lw)))
 have e:teW b t=(if b then[]else[if t.jM<0 then rS else YI])++(if teC t=1 then[(if b then(if t.jM<0 then rS else wd [])else wd [])++t.what,t.nm]else[(if b then(if t.jM<0 then rS else wd [])else wd [])++bQ (teC t),JG,t.what,t.nm]):=rfl
 rw[e]
 unfold teT
 cases b
 ·simp only[Bool.false_eq_true,if_false,FE,nil_append]
  by_cases c:t.jM<0
  ·rw[if_pos c,if_pos c]
   exact(hs _ (by decide)).app plain
  ·rw[if_neg c,if_neg c]
   exact(hs _ (by decide)).app plain
 ·simp only[if_true,FE,nil_append]
  by_cases c:t.jM<0
  ·simp only[if_pos c]
   exact minus
  ·simp only[if_neg c,nil_append]
   exact plain
theorem atu {d:dL} (hd:d.ok):∀{ts:List rR},ts≠[]->(∀t∈ts,t.ok d)->Bn (Wj ts) (ai9 ts)
 |[],h,_=>absurd rfl h
 |t::r,_,h=>by
  have h1:=aqf hd (h t (by simp)) true
  have key:∀q:List rR,(∀t∈q,t.ok d)->∀(ws:xm) (us:ba),Bn ws us->Bn (ws++(q.map (teW false)).flatten) (us++aK (teT false) q):=by
   intro q
   induction q with
   |nil=>intro _ ws us h;simpa[aK]using h
   |cons a q ih=>
    intro hh ws us hw
    have:=ih (fun t ht=>hh t (by simp[ht])) _ _ (hw.app (aqf hd (hh a (by simp)) false))
    simpa[aK]using this
  exact key r (fun x hx=>h x (by simp[hx])) _ _ h1
theorem awl {d:dL} (hd:d.ok){l:zC} (h:l.ok d):Bn (laW l) (laT l):=by
 obtain⟨h1,h2,h3,h4,h5⟩:=h
 have b1:Bn [FO,l.nm,nt] [wT FO,wT l.nm,sT nt]:= .w (kw (by decide) (by decide) (by decide)) (.w h1.lq.lw (.one _ _ (sgL (by decide))))
 have b2:Bn [UA,bQ l.total] (sT UA::ng l.total):= .w (sgL (by decide)) (.one _ _ (aeJ h5).lw)
 have:=(b1.app (atu hd h2 h4)).app b2
 unfold laW laT
 simpa using this
def Ht (ps:List io) (ns:uD):List ba:=zipWith (fun f n=>kV f.ty n) ps ns
def saT (ps:List io) (s:xB):ba:=wT JH::wT s.rt::sT cI::(bV (Ht ps s.args)++sT cj::wT Uz::nT s.at_::(if s.every=0 then[]else[wT aci,nT s.every,wT aji,nT s.til]))
theorem acX:∀(ps:List io) (ns:uD),(∀(i:Nat) (f:io) (n:Int),ps[i]? =some f->ns[i]? =some n->z8 f.ty n)->Lqs (ik ps ns) (Ht ps ns)
 |[],ns,_=>by simp only[ik,Ht,zipWith_nil_left];exact .nil
 |_::_,[],_=>by simp only[ik,Ht,zipWith_nil_right];exact .nil
 |f::ps,n::ns,h=>by
  simp only[ik,Ht,zipWith_cons_cons]
  exact .cons (adc (h 0 f n (by simp) (by simp))) (acX ps ns fun i f' n' a b=>h (i+1) f' n' (by simpa using a) (by simpa using b))
theorem axe {d:dL} (hd:d.ok){s:xB} (h:s.ok d):Bn (saW (rI d s.rt) s) (saT (rI d s.rt) s):=by
 obtain⟨⟨j,r,e1,e2,e3,e4,e5⟩,h2,h3,h4,h5⟩:=h
 rw[T8 e1 e2]
 have hn:=(hd.t r (aM e2)).1
 rw[e3]at hn
 have ha:=(V7 (acX r.params s.args e5)).lw
 have b1:Bn [Uz,bQ s.at_] [wT Uz,nT s.at_]:= .w (kw (by decide) (by decide) (by decide)) (.one _ _ (KO h2 (by decide) (by decide)))
 have b2:Bn [aci,bQ s.every,aji,bQ s.til] [wT aci,nT s.every,wT aji,nT s.til]:= .w (kw (by decide) (by decide) (by decide)) (.w (KO h3 (by decide) (by decide)) (.w (kw (by decide) (by decide) (by decide)) (.one _ _ (KO h4 (by decide) (by decide)))))
 have b0:=Bn.w (kw (w:=JH) (by decide) (by decide) (by decide)) (.w hn.lq.lw (.w ha b1))
 unfold saW saT
 by_cases c:s.every=0
 ·rw[if_pos c,if_pos c]
  simpa using b0
 ·rw[if_neg c,if_neg c]
  have:=b0.app b2
  simpa using this
def fiT (f:io):ba:=[wT f.nm,wT (kD f.ty)]
def Qt (f:io):ba:=[wT PC,wT f.nm,wT (kD f.ty),dS]
def roT (r:jv):ba:=wT Fe::wT r.nm::sT cI::(bV (r.params.map fiT)++sT cj::dS::(aK Qt r.locals++(ax.nJ r.body++[wT ep,dS])))
theorem anp:∀l:List io,(∀f∈l,f.ok)->Lqs (l.map Ys) (l.map fiT)
 |[],_=> .nil
 |f::r,h=>by
  have h1:=Lq.sp (h f (by simp)).1.lq (TN f.ty).2.2.2 (TN f.ty).1
  exact .cons h1 (anp r fun x hx=>h x (by simp[hx]))
theorem aAX (r:jv) (hn:Name r.nm) (h:r.ok):LT (roL 2 r) (roT r):=by
 obtain⟨h1,h2,h3,h4,h5⟩:=h
 have hp:=(V7 (anp r.params fun f hf=>h3 f (mem_append_left _ hf))).lw
 have b0:=Bn.w (kw (w:=Fe) (by decide) (by decide) (by decide)) (.w hn.lq.lw (.one _ _ hp))
 have b1:LT (bi (fun f=>[⟨2+1,[PC,f.nm,kD f.ty]⟩]) r.locals) (aK Qt r.locals):=LT.of fun f hf=>
  LT.one (ts:=[wT PC,wT f.nm,wT (kD f.ty)]) (.w (kw (by decide) (by decide) (by decide)) (.w (h3 f (mem_append_right _ hf)).1.lq.lw (.one _ _ (TN f.ty).lw)))
 have b2:=aA5 r.body (2+1) h4
 have b3:LT [⟨2,[ep]⟩] [wT ep,dS]:=LT.one (.one _ _ (kw (by decide) (by decide) (by decide)))
 have:=LT.cons (dp:=2) b0 (b1.app (b2.app b3))
 unfold roL roT
 simpa using this
def Xf (w x:Bs):ba:=[wT w,wT x,dS]
def Xk (d:dL):ba:=wT Ox::wT d.nm::dS::(aK (fun v=>Wp AZ v++[dS]) d.vars++(aK (fun r=>reT r++[dS]) d.res++(aK (fun x=>soT x++[dS]) d.cU++(aK (fun x=>beT x++[dS]) d.kX++(aK (Xf Ww) d.fc++(aK (Xf PD) d.cd++(aK (Xf RY) d.de++(aK (Xf La) d.levels++(aK (Xf Wu) d.counts++(aK roT d.nh++(aK (fun s=>saT (rI d s.rt) s++[dS]) d.starts++(aK (fun l=>laT l++[dS]) d.laws++[wT ep,dS]))))))))))))
theorem agt {w:Bs} (hw:Lw w [wT w]){xs:xm} (h:∀x∈xs,Name x):LT (OV w xs) (aK (Xf w) xs):=LT.of fun x hx=>LT.one (ts:=[wT w,wT x]) (.w hw (.one _ _ (h x hx).lq.lw))
theorem asB (d:dL) (hn:Name d.nm) (hd:d.ok):LT (Cd d) (Xk d):=by
 have c0:Bn [Ox,d.nm] [wT Ox,wT d.nm]:= .w (kw (by decide) (by decide) (by decide)) (.one _ _ hn.lq.lw)
 have c1:LT (siV d) (aK (fun v=>Wp AZ v++[dS]) d.vars):=LT.of fun v hv=>LT.one (akC (kw (by decide) (by decide) (by decide)) v (hd.v v hv))
 have c2:LT (siR d) (aK (fun r=>reT r++[dS]) d.res):=LT.of fun r hr=>LT.one (awZ d r (hd.r r hr) hd.n2)
 have c3:LT (siS d) (aK (fun x=>soT x++[dS]) d.cU):=LT.of fun x hx=>LT.one (.w (kw (by decide) (by decide) (by decide)) (.w (hd.s x hx).1.lq.lw (.w (KO (hd.s x hx).2.1 (by decide) (by decide)) (.one _ _ (aiB x.KN).lw))))
 have c4:LT (siB d) (aK (fun x=>beT x++[dS]) d.kX):=LT.of fun x hx=>LT.one (.w (kw (by decide) (by decide) (by decide)) (.w (hd.b x hx).1.lq.lw (.w (KO (hd.b x hx).2.1 (by decide) (by decide)) (.one _ _ (KO (hd.b x hx).2.2 (by decide) (by decide))))))
 have c5:=agt (w:=Ww) (kw (by decide) (by decide) (by decide)) hd.n1
 have c6:=agt (w:=PD) (kw (by decide) (by decide) (by decide)) hd.n2
 have c7:=agt (w:=RY) (kw (by decide) (by decide) (by decide)) hd.n3
 have c8:=agt (w:=La) (kw (by decide) (by decide) (by decide)) hd.n4
 have c9:=agt (w:=Wu) (kw (by decide) (by decide) (by decide)) hd.n5
 have GF:LT (siT d) (aK roT d.nh):=LT.of fun r hr=>aAX r (hd.t r hr).1 (hd.t r hr).2
 have GG:LT (siA d) (aK (fun s=>saT (rI d s.rt) s++[dS]) d.starts):=LT.of fun s hs=>LT.one (axe hd (hd.a s hs))
 have c12:LT (siL d) (aK (fun l=>laT l++[dS]) d.laws):=LT.of fun l hl=>LT.one (awl hd (hd.l l hl))
 have HS:LT [⟨1,[ep]⟩] [wT ep,dS]:=LT.one (.one _ _ (kw (by decide) (by decide) (by decide)))
 have:=LT.cons (dp:=1) c0 (c1.app (c2.app (c3.app (c4.app (c5.app (c6.app (c7.app (c8.app (c9.app (GF.app (GG.app (c12.app HS))))))))))))
 unfold Cd Xk
 simpa using this
def liT (l:HR):ba:=[wT MB,wT l.from_,wT l.aJL,nT l.ue,dS]
def moT (m:kL):ba:=wT Yj::wT m.nm::dS::(aK (fun v=>Wp Lc v++[dS]) m.params++(aK liT m.iH++(aK Xk m.sites++[wT ep,dS])))
theorem ags (m:kL) (hm:m.ok):LT (moL m) (moT m):=by
 have c0:Bn [Yj,m.nm] [wT Yj,wT m.nm]:= .w (kw (by decide) (by decide) (by decide)) (.one _ _ hm.nm.lq.lw)
 have c1:LT (bi (fun v=>[⟨1,My Lc v⟩]) m.params) (aK (fun v=>Wp Lc v++[dS]) m.params):=LT.of fun v hv=>LT.one (akC (kw (by decide) (by decide) (by decide)) v (hm.p v hv))
 have c2:LT (bi (fun l:HR=>[⟨1,[MB,l.from_,l.aJL,bQ l.ue]⟩]) m.iH) (aK liT m.iH):=LT.of fun l hl=>by
  obtain⟨⟨s1,q1,e1⟩,⟨s2,q2,e2⟩,q3⟩:=hm.l l hl
  have a1:=(hm.s s1 q1).1
  have a2:=(hm.s s2 q2).1
  rw[e1]at a1
  rw[e2]at a2
  exact LT.one (ts:=[wT MB,wT l.from_,wT l.aJL,nT l.ue]) (.w (kw (by decide) (by decide) (by decide)) (.w a1.lq.lw (.w a2.lq.lw (.one _ _ (KO q3 (by decide) (by decide))))))
 have c3:LT (bi Cd m.sites) (aK Xk m.sites):=LT.of fun d hd=>asB d (hm.s d hd).1 (hm.s d hd).2
 have c4:LT [⟨0,[ep]⟩] [wT ep,dS]:=LT.one (.one _ _ (kw (by decide) (by decide) (by decide)))
 have:=LT.cons (dp:=0) c0 (c1.app (c2.app (c3.app c4)))
 unfold moL moT
 simpa using this
theorem Lls.amG {ls:List Ln}{UG:List ba} (h:Lls ls UG):∀c∈bF ls,c.toNat<128:=by
 induction h with
 |nil=>intro c hc;cases hc
 |cons l ts ls UG hl _ ih=>
  intro c hc
  rw[lR]at hc
  rcases mem_append.1 hc with hc|hc
  ·obtain⟨_,la,hx⟩:=aj5 (dp:=l.deep) hl
   rcases mem_append.1 hc with hc|hc
   ·exact hx.amG c hc
   ·have:c∈[UInt8.ofNat 10]:=hc
    rcases mem_singleton.1 this with rfl
    decide
  ·exact ih c hc
theorem alr (m:kL) (hm:m.ok) (hl:m.tx.length<=20000):∃L:pO,L.map RZ.tok=moT m++[enT]/\L.length<=40000/\tL.F [.s (bs m.tx)]=some [ae RZ.cs L,.i 0,.i 0]:=by
 obtain⟨UG,h1,h2⟩:=ags m hm
 rw[<-h2]
 exact aqj h1 hl h1.amG
section
def cF (L:pO) (p:Nat) (ts:ba):Prop:=(L.map RZ.tok).drop p=ts/\L.length<=40000
def TK (L:pO):Sc:=ae RZ.cs L
theorem cF.step {L:pO}{p:Nat}{t:ff}{r:ba} (h:cF L p (t::r)):cF L (p+1) r:=by
 refine⟨?_,h.2⟩
 have:=congrArg List.tail h.1
 rwa [tail_drop,tail_cons]at this
theorem cF.get {L:pO}{p:Nat}{t:ff}{r:ba} (h:cF L p (t::r)):∃x,L[p]? =some x/\x.tok=t/\p<L.length:=by
 have h1:(L.map RZ.tok)[p]? =some t:=by
  have:=congrArg (fun l=>l[0]?) h.1
  simpa using this
 rw[getElem?_map]at h1
 obtain⟨x,hx,ht⟩:=Option.map_eq_some_iff.1 h1
 exact⟨x,hx,ht,bp hx⟩
theorem cF.more {L:pO}{p:Nat}{t u:ff}{r:ba} (h:cF L p (t::u::r)):p+1<L.length:=by
 obtain⟨x,h1,_,h3⟩:=h.step.get
 exact h3
theorem cF.app {L:pO}{p:Nat}:∀{a r:ba},cF L p (a++r)->cF L (p+a.length) r
 |[],r,h=>by simpa using h
 |t::a,r,h=>by
  have:=cF.app (a:=a) (r:=r) (h.step)
  simpa[Nat.add_assoc,Nat.add_comm 1]using this
def ff.is (t:ff) (w:Bs):Bool:=(decide (t.kind=1)||decide (t.kind=3))&&decide (t.text=w)
theorem pX (a w:Bs):(wT a).is w=decide (a=w):=id rfl
theorem aoA (a w:Bs):(sT a).is w=decide (a=w):=id rfl
theorem aiq (n:Int) (w:Bs):(nT n).is w=false:=by simp[ff.is,nT]
theorem fZ (a b:jl):(wd a=wd b)=(a.map (fun x=>x%256)=b.map (fun x=>x%256)):=by
 unfold wd
 apply propext
 constructor
 ·intro h
  have:=congrArg (List.map UInt8.toNat) h
  simpa[Function.comp_def]using this
 ·intro h
  have h2:=congrArg (List.map UInt8.ofNat) h
  have e:∀l:jl,(l.map (fun x=>x%256)).map UInt8.ofNat=l.map UInt8.ofNat:=by
   intro l
   rw[map_map]
   refine map_congr_left fun x _=> ?_
   show UInt8.ofNat (x%256)=UInt8.ofNat x
   exact UInt8.toNat_inj.1 (by simp)
  rwa [e,e]at h2
section
variable {L:pO}{p:Nat}{t:ff}{r:ba}
theorem EP (h:cF L p (t::r)):∃line:Int,aW.F [TK L,.i (p:Int)]=some [.i t.kind,.s (bs t.text),.i t.n,.i line,.i (p:Int)]:=by
 obtain⟨x,h1,rfl,h3⟩:=h.get
 have h3':(p:Int)<(L.length:Int):=by omega
 refine⟨x.line,?_⟩
 rw[Q6]
 unfold TK
 simp only[uQ,h3',ay h1,RZ.cs,RZ.tok,av,Nat.reduceAdd]
theorem apR {u:ff} (h:cF L p (t::u::r)):iP.F [TK L,.i (p:Int)]=some [.i ((p+1:Nat):Int)]:=by
 have h1:=h.more
 have h2:=h.2
 have hs:=aJ (k:=p) (by omega)
 have h3':((p+1:Nat):Int)<(L.length:Int):=by omega
 rw[O9]
 unfold TK
 simp only[th,hs,h3',av,Nat.reduceAdd]
theorem agb (h:cF L p (t::r)) (w:Bs):fI.F [TK L,.i (p:Int),.s (bs w)]=some [.b (t.is w),.i (p:Int)]:=by
 obtain⟨line,g⟩:=EP h
 rw[Te]
 unfold ff.is
 by_cases h1:t.kind=1
 ·rw[h1]at g
  simp only[mb,qK,g,h1,av,Nat.reduceAdd,reduceEq]
 by_cases h3:t.kind=3
 ·rw[h3]at g
  simp only[mb,qK,g,h3,av,Nat.reduceAdd,reduceEq]
 ·simp only[mb,qK,g,h1,h3,av,Nat.reduceAdd]
theorem dj (h:cF L p (t::r)) (w:Bs) (hw:t.is w=false):aw.F [TK L,.i (p:Int),.s (bs w)]=some [.b false,.i (p:Int)]:=by
 have g:=agb h w
 rw[hw]at g
 rw[Ey]
 simp only[nW,xT,g,av,Nat.reduceAdd]
theorem cS {u:ff} (h:cF L p (t::u::r)) (w:Bs):aw.F [TK L,.i (p:Int),.s (bs w)]=some [.b (t.is w),.i (if t.is w then((p+1:Nat):Int)else(p:Int))]:=by
 cases hw:t.is w with
 |false=>simpa using dj h w hw
 |true=>
  have g:=agb h w
  rw[hw]at g
  have s:=apR h
  rw[Ey]
  simp only[nW,xT,Kl,g,s,av,Nat.reduceAdd]
theorem dk {u:ff} (h:cF L p (t::u::r)) (w:Bs) (hw:t.is w=true):ao.F [TK L,.i (p:Int),.s (bs w)]=some [.i ((p+1:Nat):Int)]:=by
 have g:=cS h w
 rw[hw]at g
 rw[O7]
 simp only[tf,Km,g,av,Nat.reduceAdd]
theorem aeS {u:ff} (h:cF L p (t::u::r)):∃line:Int,eP.F [TK L,.i (p:Int),.i t.kind]=some [.i t.kind,.s (bs t.text),.i t.n,.i line,.i ((p+1:Nat):Int)]:=by
 obtain⟨line,g⟩:=EP h
 have s:=apR h
 refine⟨line,?_⟩
 rw[O4]
 simp only[sZ,IC,IB,g,s,av,Nat.reduceAdd]
theorem fJ {u:ff} (h:cF L p (dS::u::r)):bW.F [TK L,.i (p:Int)]=some [.i ((p+1:Nat):Int)]:=by
 obtain⟨line,g⟩:=aeS h
 simp only[dS]at g
 rw[O5]
 simp only[td,ID,g,av,Nat.reduceAdd]
theorem aw8 (h:cF L p [enT]):pg.F [TK L,.i (p:Int)]=some [.i (p:Int)]:=by
 obtain⟨line,g⟩:=EP h
 simp only[enT]at g
 rw[Q4]
 simp only[uP,Kk,g,av,Nat.reduceAdd]
theorem dh {n:Int}{u:ff} (h:cF L p (nT n::u::r)):aD.F [TK L,.i (p:Int)]=some [.i n,.i ((p+1:Nat):Int)]:=by
 obtain⟨line,g⟩:=aeS h
 simp only[nT]at g
 rw[L2]
 simp only[pA,Fq,g,av,Nat.reduceAdd]
theorem NM (h:cF L p (t::r)):dJ.F [TK L,.i (p:Int)]=some [.b (decide (t.kind=1)&& !decide (t.text∈Ya)),.i (p:Int)]:=by
 obtain⟨line,g⟩:=EP h
 rw[L1]
 by_cases h1:t.kind=1
 ·rw[h1]at g
  simp only[lH,uj,GY,g,awj,h1,av,Nat.reduceAdd]
 ·simp only[lH,uj,g,h1,av,Nat.reduceAdd]
theorem ei {w:Bs}{u:ff} (hw:Name w) (h:cF L p (wT w::u::r)):aB.F [TK L,.i (p:Int)]=some [.s (bs w),.i ((p+1:Nat):Int)]:=by
 obtain⟨line,g⟩:=aeS h
 have s:=NM h
 have hk:=hw.2.2.2.2
 simp only[wT]at g s
 rw[O6]
 simp only[te,IP,IQ,s,hk,g,av,Nat.reduceAdd]
theorem VU {n:Int} (hn:ld n){u:ff} (h:cF L p (ng n++u::r)):cG.F [TK L,.i (p:Int)]=some [.i n,.i ((p+(ng n).length:Nat):Int)]:=by
 unfold ng at h⊢
 unfold ld at hn
 rw[J3]
 by_cases c:n<0
 ·rw[if_pos c]at h⊢
  have h:cF L p (sT rS::nT (-n)::u::r):=h
  have g:=cS h rS
  have s:=dh h.step
  rw[show(sT rS).is rS=true from by decide]at g
  have e:IntKind.i64.wrap (0- -n)=n:=by rw[cE (by omega) (by omega)];omega
  simp only[kJ,ug,uh,g,s,e,av,Nat.reduceAdd]
 ·rw[if_neg c]at h⊢
  have h:cF L p (nT n::u::r):=h
  have g:=dj h rS (aiq _ _)
  have s:=dh h
  simp only[kJ,ug,uh,g,s,av,Nat.reduceAdd]
theorem SE {u:ff} (h:cF L p (t::u::r)) (ws:xm) (hl:ws.length<=100):gp.F [TK L,.i (p:Int),am ws]=some [.i (cN (fun w:Bs=>t.is w) ws),.i (if ws.any (fun w=>t.is w)then((p+1:Nat):Int)else(p:Int))]:=by
 rw[Q3]
 simp only[uO,av,Nat.reduceAdd]
 unfold cN
 cases hf:ws.findIdx? (fun w:Bs=>t.is w)with
 |none=>
  have hn:=findIdx?_eq_none_iff.1 hf
  have ha:ws.any (fun w=>t.is w)=false:=by
   rw[any_eq_false]
   intro x hx;simp[hn x hx]
  refine cu (fun i=>[.i (i:Int),.i (p:Int)]) ws.length rfl (by omega) (fun i hi rec=> ?_) (fun rec=> ?_)
  ·obtain⟨x,hx⟩:=aV hi
   have bN:(i:Int)<ws.length:=by omega
   have g:=dj h x (hn x (aM hx))
   simp only[ay hx,bN,qJ,g,aJ (k:=i) (by omega),av,Nat.reduceAdd]
  ·simp only[Int.lt_irrefl,ha,av]
 |some j=>
  obtain⟨hj,h1,h2⟩:=findIdx?_eq_some_iff_getElem.1 hf
  have ha:ws.any (fun w=>t.is w)=true:=by
   rw[any_eq_true]
   exact⟨_,getElem_mem hj,h1⟩
  refine cu (fun i=>[.i (i:Int),.i (p:Int)]) j rfl (by omega) (fun i hi rec=> ?_) (fun rec=> ?_)
  ·obtain⟨x,hx⟩:=aV (xs:=ws) (i:=i) (by omega)
   have bN:(i:Int)<ws.length:=by omega
   have e:x=ws[i]'(by omega):=by
    have:=getElem?_eq_getElem (l:=ws) (i:=i) (by omega)
    rw[hx]at this;exact Option.some.inj this
   have g:=dj h x (by rw[e];simpa using h2 i hi)
   simp only[ay hx,bN,qJ,g,aJ (k:=i) (by omega),av,Nat.reduceAdd]
  ·have hx:ws[j]? =some ws[j]:=getElem?_eq_getElem hj
   have W8:(j:Int)<ws.length:=by omega
   have g:=cS h ws[j]
   rw[h1]at g
   simp only[ay hx,W8,qJ,g,ha,av,Nat.reduceAdd]
theorem me {u:ff} (h:cF L p (t::u::r)) (ws:xm) (hl:ws.length<=100) (ha:ws.any (fun w=>t.is w)=true):bL.F [TK L,.i (p:Int),am ws]=some [.i (cN (fun w:Bs=>t.is w) ws),.i ((p+1:Nat):Int)]:=by
 have g:=SE h ws hl
 rw[ha]at g
 have hp:¬cN (fun w:Bs=>t.is w) ws<0:=by
  unfold cN
  cases hf:ws.findIdx? (fun w:Bs=>t.is w)with
  |none=>
   have hn:=findIdx?_eq_none_iff.1 hf
   rw[any_eq_true]at ha
   obtain⟨x,hx,h2⟩:=ha
   rw[hn x hx]at h2;cases h2
  |some j=>simp
 rw[Pb]
 simp only[tj,IZ,g,hp,av,Nat.reduceAdd]
theorem akB {k:Int} (hk:vg 1 3 k){u:ff} (h:cF L p (wT (kD k)::u::r)):gJ.F [TK L,.i (p:Int)]=some [.i k,.i ((p+1:Nat):Int)]:=by
 rw[Nm]
 unfold vg at hk
 have e:([.s (bs ae2),.s (bs ae1),.s (bs ae3)]:aP)=[.s (bs ae2),.s (bs ae1),.s (bs ae3)]:=rfl
 rcases(by omega:k=1\/k=2\/k=3)with rfl|rfl|rfl
 ·have g:=me h [ae2,ae1,ae3] (by simp) (by decide)
  rw[show cN (fun w:Bs=>(wT (kD 1)).is w) [ae2,ae1,ae3]=0 from by decide]at g
  simp only[am,map_cons,map_nil]at g
  simp only[jh,ow,g,av,Nat.reduceAdd,reduceEq]
 ·have g:=me h [ae2,ae1,ae3] (by simp) (by decide)
  rw[show cN (fun w:Bs=>(wT (kD 2)).is w) [ae2,ae1,ae3]=1 from by decide]at g
  simp only[am,map_cons,map_nil]at g
  simp only[jh,ow,g,av,Nat.reduceAdd,reduceEq]
 ·have g:=me h [ae2,ae1,ae3] (by simp) (by decide)
  rw[show cN (fun w:Bs=>(wT (kD 3)).is w) [ae2,ae1,ae3]=2 from by decide]at g
  simp only[am,map_cons,map_nil]at g
  simp only[jh,ow,g,av,Nat.reduceAdd,reduceEq]
theorem alN {k:Int} (hk:vg 1 3 k){u:ff} (h:cF L p (wT (rJ k)::u::r)):mj.F [TK L,.i (p:Int)]=some [.i k,.i ((p+1:Nat):Int)]:=by
 rw[L4]
 unfold vg at hk
 rcases(by omega:k=1\/k=2\/k=3)with rfl|rfl|rfl
 ·have g:=me h [aje,ajg,ajf] (by simp) (by decide)
  rw[show cN (fun w:Bs=>(wT (rJ 1)).is w) [aje,ajg,ajf]=0 from by decide]at g
  simp only[am,map_cons,map_nil]at g
  simp only[iM,nz,g,av,Nat.reduceAdd,reduceEq]
 ·have g:=me h [aje,ajg,ajf] (by simp) (by decide)
  rw[show cN (fun w:Bs=>(wT (rJ 2)).is w) [aje,ajg,ajf]=1 from by decide]at g
  simp only[am,map_cons,map_nil]at g
  simp only[iM,nz,g,av,Nat.reduceAdd,reduceEq]
 ·have g:=me h [aje,ajg,ajf] (by simp) (by decide)
  rw[show cN (fun w:Bs=>(wT (rJ 3)).is w) [aje,ajg,ajf]=2 from by decide]at g
  simp only[am,map_cons,map_nil]at g
  simp only[iM,nz,g,av,Nat.reduceAdd,reduceEq]
theorem agO {n:Int} (hn:n=0\/n=1){u:ff} (h:cF L p (RU n++u::r)):gI.F [TK L,.i (p:Int)]=some [.i n,.i ((p+1:Nat):Int)]:=by
 have h:cF L p (wT (pI n)::u::r):=h
 rw[Nl]
 rcases hn with rfl|rfl
 ·have g:=me h [wz0,wz1] (by simp) (by decide)
  rw[show cN (fun w:Bs=>(wT (pI 0)).is w) [wz0,wz1]=0 from by decide]at g
  simp only[am,map_cons,map_nil]at g
  simp only[mv,wL,g,av,Nat.reduceAdd]
 ·have g:=me h [wz0,wz1] (by simp) (by decide)
  rw[show cN (fun w:Bs=>(wT (pI 1)).is w) [wz0,wz1]=1 from by decide]at g
  simp only[am,map_cons,map_nil]at g
  simp only[mv,wL,g,av,Nat.reduceAdd]
theorem aa2 (n:Int):(RU n).length=1:=rfl
theorem ad7 {f:io} (hf:f.ok){u:ff} (h:cF L p (fiT f++u::r)):jY.F [TK L,.i (p:Int)]=some [.s (bs f.nm),.i f.ty,.i ((p+2:Nat):Int)]:=by
 have h:cF L p (wT f.nm::wT (kD f.ty)::u::r):=h
 have g1:=ei hf.1 h
 have g2:=akB hf.2 h.step
 rw[Nh]
 simp only[qU,Iz,GX,g1,g2,av,Nat.reduceAdd]
theorem akE {v:fh} (hv:v.ok){u:ff} (h:cF L p (wT v.nm::wT (kD v.ty)::sT UA::(kV v.ty v.n++u::r))):gN.F [TK L,.i (p:Int)]=some [.s (bs v.nm),.i v.ty,.i v.n,.i ((p+3+(kV v.ty v.n).length:Nat):Int)]:=by
 obtain⟨w,q,hq⟩:∃w q,kV v.ty v.n++u::r=w::q:=by
  cases hc:kV v.ty v.n with
  |nil=>exact⟨u,r,by simp⟩
  |cons a b=>exact⟨a,b++u::r,by simp⟩
 have hx:=h
 rw[hq]at h
 have g1:=ei hv.1 h
 have g2:=akB hv.2.1 h.step
 have g3:=dk h.step.step UA (by decide)
 have hf:=hv.2.2
 have h4:=hx.step.step.step
 rw[Np]
 by_cases c:v.ty=2
 ·have hn:v.n=0\/v.n=1:=by unfold z8 at hf;omega
  unfold kV at h4⊢
  rw[if_pos c]at h4⊢
  have g4:=agO hn h4
  rw[aa2]
  rw[c]at g2⊢
  simp only[mw,wN,u5,wM,G3,g1,g2,g3,g4,av,Nat.reduceAdd]
 ·unfold kV at h4⊢
  rw[if_neg c]at h4⊢
  have g4:=VU hf.num h4
  simp only[mw,wN,u5,wM,G4,g1,g2,g3,g4,c,av,Nat.reduceAdd]
theorem Zb {t n:Int} (hf:z8 t n){u:ff} (h:cF L p (kV t n++u::r)):ko.F [TK L,.i (p:Int)]=some [.i n,.i ((p+(kV t n).length:Nat):Int)]:=by
 unfold kV at h⊢
 rw[Ic]
 by_cases c:t=2
 ·have hn:n=0\/n=1:=by unfold z8 at hf;omega
  rw[if_pos c]at h⊢
  have g4:=agO hn h
  rw[aa2]
  have h:cF L p (wT (pI n)::u::r):=h
  have g1:=agb h wz1
  have g2:=agb h wz0
  rcases hn with rfl|rfl
  ·rw[show(wT (pI 0)).is wz1=false from by decide]at g1
   rw[show(wT (pI 0)).is wz0=true from by decide]at g2
   simp only[fT,lk,rB,g1,g2,g4,av,Nat.reduceAdd]
  ·rw[show(wT (pI 1)).is wz1=true from by decide]at g1
   simp only[fT,lk,rB,g1,g2,g4,av,Nat.reduceAdd]
 ·rw[if_neg c]at h⊢
  have g4:=VU hf.num h
  obtain⟨a,q,hq,ha⟩:∃a q,ng n++u::r=a::q/\(∀w,Xe (w.getD 0 0)=true->a.is w=false):=by
   unfold ng
   split
   ·refine⟨_,_,rfl,fun w hw=> ?_⟩
    rw[aoA]
    refine decide_eq_false fun e=> ?_
    rw[<-e]at hw;revert hw;decide
   ·exact⟨_,_,rfl,fun w _=>aiq _ w⟩
  rw[hq]at h
  have g1:=agb h wz1
  have g2:=agb h wz0
  rw[ha _ (by decide)]at g1
  rw[ha _ (by decide)]at g2
  simp only[fT,lk,DJ,g1,g2,g4,av,Nat.reduceAdd]
end
end
section
def kx:Nat->Nat|1=>306|2=>326|3=>341|4=>355|5=>358|6=>359|7=>360|_=>361
def PR (L:pO) (k lv p:Nat) (x:aj) (q:Nat):Prop:=af k (kx lv) [TK L,.i (p:Int)]=some [.i x.op,.s (bs x.nm),.i x.n,ae aj.cs x.ks,.i (q:Int)]
def stops (lv:Nat) (u:ff):Prop:=
 (lv<=1->u.is wz2=false)/\(lv<=2->u.is wz3=false)/\(lv<=4->u.is UA=false/\u.is wz5=false/\u.is wz6=false/\u.is wz7=false/\u.is axB=false/\u.is Yk=false)/\(lv<=5->u.is YI=false/\u.is rS=false)/\(lv<=6->u.is JG=false/\u.is Ws=false/\u.is Wt=false)
theorem stops.mono {a b:Nat}{u:ff} (h:stops a u) (hab:a<=b):stops b u:=by
 obtain⟨h1,h2,h3,h4,h5⟩:=h
 exact⟨fun h=>h1 (by omega),fun h=>h2 (by omega),fun h=>h3 (by omega),fun h=>h4 (by omega),fun h=>h5 (by omega)⟩
theorem aap (op:Int) (a b:aj):yf.F [.i op,.i a.op,.s (bs a.nm),.i a.n,ae aj.cs a.ks,.i b.op,.s (bs b.nm),.i b.n,ae aj.cs b.ks]=some [.i op,.s (bs []),.i 0,ae aj.cs [a,b]]:=by
 have hw:wd []=([]:Bs):=rfl
 have e:ae aj.cs [a,b]= .l [.l [.i a.op,.s (bs a.nm),.i a.n,ae aj.cs a.ks],.l [.i b.op,.s (bs b.nm),.i b.n,ae aj.cs b.ks]]:=by
  simp only[ae,map_cons,map_nil,aj.aA a,aj.aA b]
 rw[adW,e]
 simp only[HI,hw,av,Nat.reduceAdd]
section
variable {L:pO}
def chE (p:Nat) (x:aj):aP:=[.i (p:Int),.i x.op,.s (bs x.nm),.i x.n,ae aj.cs x.ks]
structure ChG (L:pO) (k lv:Nat) (g:fF->fF):Prop where
 step:∀(p q:Nat) (x y:aj) (op:Int) (u:ff) (r:ba) (rec:fF),9<=op/\op<=19->kQ op=lv->cF L p (tS op::u::r)->PR L k (lv+1) (p+1) y q->g rec (chE p x)=rec (chE q (.mk op [] 0 [x,y]))
 stop:∀(p:Nat) (x:aj) (u v:ff) (r:ba) (rec:fF),cF L p (u::v::r)->stops lv u->g rec (chE p x)=some [.i x.op,.s (bs x.nm),.i x.n,ae aj.cs x.ks,.i (p:Int)]
theorem afs {k p q:Nat}{x:aj} (h:PR L k (1+1) p x q):∃g,ChG L k 1 g/\af (k+1) (kx 1) [TK L,.i (p:Int)]=dz g aF (chE q x):=by
 unfold PR kx at h
 simp only at h
 show ∃g,ChG L k 1 g/\af (k+1) 306 _=_
 rw[Ny]
 simp only[sY,h,av,Nat.reduceAdd]
 refine⟨_,⟨?_,?_⟩,rfl⟩
 ·intro p q x y op u r rec hop aie hn hy
  unfold PR kx at hy
  simp only at hy
  have hx:=aap op x y
  have MD:(aj.mk op [] 0 [x,y]).op=op/\(aj.mk op [] 0 [x,y]).nm=[]/\(aj.mk op [] 0 [x,y]).n=0/\(aj.mk op [] 0 [x,y]).ks=[x,y]:=⟨rfl,rfl,rfl,rfl⟩
  obtain⟨c1,c2,c3,c4⟩:=MD
  have g1:=SE hn [wz2] (by simp)
  simp only[am,map_cons,map_nil]at g1
  have aik:op=19:=by
   rcases(by omega:op=9\/op=10\/op=11\/op=12\/op=13\/op=14\/op=15\/op=16\/op=17\/op=18\/op=19)with rfl|rfl|rfl|rfl|rfl|rfl|rfl|rfl|rfl|rfl|rfl
   all_goals first|(revert aie;decide)|simp
  unfold chE
  rw[c1,c2,c3,c4]
  subst aik
  ·rw[show cN (fun w:Bs=>(tS 19).is w) [wz2]=0 from by decide]at g1
   rw[show([wz2].any fun w=>(tS 19).is w)=true from by decide]at g1
   simp only[bI,bJ,g1,hy,hx,length_cons,length_nil,Jv,av,Nat.reduceAdd,Int.reduceLT,reduceLE]
 ·intro p x u v r rec hn hs
  have h0:=hs.1
  have h0:=h0 (by omega)
  have g1:=SE hn [wz2] (by simp)
  simp only[am,map_cons,map_nil]at g1
  have e1:cN (fun w:Bs=>u.is w) [wz2]= -1:=by
   unfold cN;simp[findIdx?_cons,h0]
  have e2:([wz2].any fun w=>u.is w)=false:=by simp[h0]
  rw[e1,e2]at g1
  unfold chE
  simp only[bI,g1,av,reduceToNat,Nat.reduceAdd,Int.reduceLT,reduceLE]
theorem aft {k p q:Nat}{x:aj} (h:PR L k (2+1) p x q):∃g,ChG L k 2 g/\af (k+1) (kx 2) [TK L,.i (p:Int)]=dz g aF (chE q x):=by
 unfold PR kx at h
 simp only at h
 show ∃g,ChG L k 2 g/\af (k+1) 326 _=_
 rw[Pj]
 simp only[uN,h,av,Nat.reduceAdd]
 refine⟨_,⟨?_,?_⟩,rfl⟩
 ·intro p q x y op u r rec hop aie hn hy
  unfold PR kx at hy
  simp only at hy
  have hx:=aap op x y
  have MD:(aj.mk op [] 0 [x,y]).op=op/\(aj.mk op [] 0 [x,y]).nm=[]/\(aj.mk op [] 0 [x,y]).n=0/\(aj.mk op [] 0 [x,y]).ks=[x,y]:=⟨rfl,rfl,rfl,rfl⟩
  obtain⟨c1,c2,c3,c4⟩:=MD
  have g1:=SE hn [wz3] (by simp)
  simp only[am,map_cons,map_nil]at g1
  have aik:op=18:=by
   rcases(by omega:op=9\/op=10\/op=11\/op=12\/op=13\/op=14\/op=15\/op=16\/op=17\/op=18\/op=19)with rfl|rfl|rfl|rfl|rfl|rfl|rfl|rfl|rfl|rfl|rfl
   all_goals first|(revert aie;decide)|simp
  unfold chE
  rw[c1,c2,c3,c4]
  subst aik
  ·rw[show cN (fun w:Bs=>(tS 18).is w) [wz3]=0 from by decide]at g1
   rw[show([wz3].any fun w=>(tS 18).is w)=true from by decide]at g1
   simp only[bI,bJ,g1,hy,hx,length_cons,length_nil,Jv,av,Nat.reduceAdd,Int.reduceLT,reduceLE]
 ·intro p x u v r rec hn hs
  have h0:=hs.2.1
  have h0:=h0 (by omega)
  have g1:=SE hn [wz3] (by simp)
  simp only[am,map_cons,map_nil]at g1
  have e1:cN (fun w:Bs=>u.is w) [wz3]= -1:=by
   unfold cN;simp[findIdx?_cons,h0]
  have e2:([wz3].any fun w=>u.is w)=false:=by simp[h0]
  rw[e1,e2]at g1
  unfold chE
  simp only[bI,g1,av,reduceToNat,Nat.reduceAdd,Int.reduceLT,reduceLE]
theorem afu {k p q:Nat}{x:aj} (h:PR L k (5+1) p x q):∃g,ChG L k 5 g/\af (k+1) (kx 5) [TK L,.i (p:Int)]=dz g aF (chE q x):=by
 unfold PR kx at h
 simp only at h
 show ∃g,ChG L k 5 g/\af (k+1) 358 _=_
 rw[Pk]
 simp only[uR,h,av,Nat.reduceAdd]
 refine⟨_,⟨?_,?_⟩,rfl⟩
 ·intro p q x y op u r rec hop aie hn hy
  unfold PR kx at hy
  simp only at hy
  have hx:=aap op x y
  have MD:(aj.mk op [] 0 [x,y]).op=op/\(aj.mk op [] 0 [x,y]).nm=[]/\(aj.mk op [] 0 [x,y]).n=0/\(aj.mk op [] 0 [x,y]).ks=[x,y]:=⟨rfl,rfl,rfl,rfl⟩
  obtain⟨c1,c2,c3,c4⟩:=MD
  have g1:=SE hn [YI,rS] (by simp)
  simp only[am,map_cons,map_nil]at g1
  have aik:op=9\/op=10:=by
   rcases(by omega:op=9\/op=10\/op=11\/op=12\/op=13\/op=14\/op=15\/op=16\/op=17\/op=18\/op=19)with rfl|rfl|rfl|rfl|rfl|rfl|rfl|rfl|rfl|rfl|rfl
   all_goals first|(revert aie;decide)|simp
  unfold chE
  rw[c1,c2,c3,c4]
  rcases aik with rfl|rfl
  ·rw[show cN (fun w:Bs=>(tS 9).is w) [YI,rS]=0 from by decide]at g1
   rw[show([YI,rS].any fun w=>(tS 9).is w)=true from by decide]at g1
   simp only[bI,bJ,g1,hy,hx,length_cons,length_nil,nq,av,Nat.reduceAdd,Int.reduceLT,reduceLE]
  ·rw[show cN (fun w:Bs=>(tS 10).is w) [YI,rS]=1 from by decide]at g1
   rw[show([YI,rS].any fun w=>(tS 10).is w)=true from by decide]at g1
   simp only[bI,bJ,g1,hy,hx,length_cons,length_nil,nq,av,reduceToNat,Nat.reduceAdd,Int.reduceLT,reduceLE]
 ·intro p x u v r rec hn hs
  have h0:=hs.2.2.2.1
  have h0:=h0 (by omega)
  have g1:=SE hn [YI,rS] (by simp)
  simp only[am,map_cons,map_nil]at g1
  have e1:cN (fun w:Bs=>u.is w) [YI,rS]= -1:=by
   unfold cN;simp[findIdx?_cons,h0]
  have e2:([YI,rS].any fun w=>u.is w)=false:=by simp[h0]
  rw[e1,e2]at g1
  unfold chE
  simp only[bI,g1,av,reduceToNat,Nat.reduceAdd,Int.reduceLT,reduceLE]
theorem afv {k p q:Nat}{x:aj} (h:PR L k (6+1) p x q):∃g,ChG L k 6 g/\af (k+1) (kx 6) [TK L,.i (p:Int)]=dz g aF (chE q x):=by
 unfold PR kx at h
 simp only at h
 show ∃g,ChG L k 6 g/\af (k+1) 359 _=_
 rw[Il]
 simp only[oL,h,av,Nat.reduceAdd]
 refine⟨_,⟨?_,?_⟩,rfl⟩
 ·intro p q x y op u r rec hop aie hn hy
  unfold PR kx at hy
  simp only at hy
  have hx:=aap op x y
  have MD:(aj.mk op [] 0 [x,y]).op=op/\(aj.mk op [] 0 [x,y]).nm=[]/\(aj.mk op [] 0 [x,y]).n=0/\(aj.mk op [] 0 [x,y]).ks=[x,y]:=⟨rfl,rfl,rfl,rfl⟩
  obtain⟨c1,c2,c3,c4⟩:=MD
  have g1:=SE hn [JG,Ws,Wt] (by simp)
  simp only[am,map_cons,map_nil]at g1
  have aik:op=11\/op=12\/op=13:=by
   rcases(by omega:op=9\/op=10\/op=11\/op=12\/op=13\/op=14\/op=15\/op=16\/op=17\/op=18\/op=19)with rfl|rfl|rfl|rfl|rfl|rfl|rfl|rfl|rfl|rfl|rfl
   all_goals first|(revert aie;decide)|simp
  unfold chE
  rw[c1,c2,c3,c4]
  rcases aik with rfl|rfl|rfl
  ·rw[show cN (fun w:Bs=>(tS 11).is w) [JG,Ws,Wt]=0 from by decide]at g1
   rw[show([JG,Ws,Wt].any fun w=>(tS 11).is w)=true from by decide]at g1
   simp only[bI,bJ,g1,hy,hx,length_cons,length_nil,YH,av,Nat.reduceAdd,Int.reduceLT,reduceLE]
  ·rw[show cN (fun w:Bs=>(tS 12).is w) [JG,Ws,Wt]=1 from by decide]at g1
   rw[show([JG,Ws,Wt].any fun w=>(tS 12).is w)=true from by decide]at g1
   simp only[bI,bJ,g1,hy,hx,length_cons,length_nil,YH,av,reduceToNat,Nat.reduceAdd,Int.reduceLT,reduceLE]
  ·rw[show cN (fun w:Bs=>(tS 13).is w) [JG,Ws,Wt]=2 from by decide]at g1
   rw[show([JG,Ws,Wt].any fun w=>(tS 13).is w)=true from by decide]at g1
   simp only[bI,bJ,g1,hy,hx,length_cons,length_nil,YH,av,reduceToNat,Nat.reduceAdd,Int.reduceLT,reduceLE]
 ·intro p x u v r rec hn hs
  have h0:=hs.2.2.2.2
  have h0:=h0 (by omega)
  have g1:=SE hn [JG,Ws,Wt] (by simp)
  simp only[am,map_cons,map_nil]at g1
  have e1:cN (fun w:Bs=>u.is w) [JG,Ws,Wt]= -1:=by
   unfold cN;simp[findIdx?_cons,h0]
  have e2:([JG,Ws,Wt].any fun w=>u.is w)=false:=by simp[h0]
  rw[e1,e2]at g1
  unfold chE
  simp only[bI,g1,av,reduceToNat,Nat.reduceAdd,Int.reduceLT,reduceLE]
end
end
section
section
variable {L:pO}
theorem asn:∃k,aF=k+1:=⟨aF-1,by unfold aF;omega⟩
theorem adv {lv k p q:Nat}{x:aj}{u v:ff}{r:ba} (h:∃g,ChG L k lv g/\af (k+1) (kx lv) [TK L,.i (p:Int)]=dz g aF (chE q x)) (hn:cF L q (u::v::r)) (hs:stops lv u):PR L (k+1) lv p x q:=by
 obtain⟨g,hg,e⟩:=h
 obtain⟨m,hm⟩:=asn
 unfold PR
 rw[e,hm,bO,hg.stop q x u v r _ hn hs]
theorem aAv {k p q:Nat}{x:aj}{t:ff}{r:ba} (h:PR L k 4 p x q) (hn:cF L p (t::r)) (ht:t.is Uy=false):PR L (k+1) 3 p x q:=by
 unfold PR kx at h⊢
 simp only at h⊢
 have g:=dj hn Uy ht
 rw[Di]
 simp only[nY,aQ,g,h,av,Nat.reduceAdd]
theorem aAx {k p q:Nat}{x:aj}{t:ff}{r:ba} (h:PR L k 8 p x q) (hn:cF L p (t::r)) (ht:t.is rS=false):PR L (k+1) 7 p x q:=by
 unfold PR kx at h⊢
 simp only at h⊢
 have g:=dj hn rS ht
 rw[xP]
 simp only[lG,aQ,g,h,av,Nat.reduceAdd]
theorem aAw {k p q:Nat}{x:aj}{u v:ff}{r:ba} (h:PR L k 5 p x q) (hn:cF L q (u::v::r)) (hs:stops 4 u):PR L (k+1) 4 p x q:=by
 unfold PR kx at h⊢
 simp only at h⊢
 obtain⟨s1,s2,s3,s4,s5,s6⟩:=hs.2.2.1 (by omega)
 have g1:=dj hn UA s1
 have g2:=dj hn wz5 s2
 have g3:=dj hn wz6 s3
 have g4:=dj hn wz7 s4
 have g5:=dj hn axB s5
 have g6:=dj hn Yk s6
 rw[sr]
 simp only[cV,aQ,g1,g2,g3,g4,g5,g6,h,av,Nat.reduceAdd]
theorem lift {q p:Nat}{x:aj}{t u v:ff}{r0 r:ba} (hp:cF L p (t::r0)) (hn:cF L q (u::v::r)):∀(d lv k:Nat),1<=lv->lv+d<=8->PR L k (lv+d) p x q->stops lv u->(lv<=3->3<lv+d->t.is Uy=false)->(lv<=7->7<lv+d->t.is rS=false)->PR L (k+d) lv p x q
 |0,lv,k,_,_,h,_,_,_=>h
 |d+1,lv,k,h1,h8,h,hs,c3,c7=>by
  have ih:=lift hp hn d (lv+1) k (by omega) (by omega) (by rwa [show lv+1+d=lv+(d+1)by omega]) (hs.mono (by omega)) (fun a b=>c3 (by omega) (by omega)) (fun a b=>c7 (by omega) (by omega))
  rw[show k+(d+1)=(k+d)+1 by omega]
  rcases(by omega:lv=1\/lv=2\/lv=3\/lv=4\/lv=5\/lv=6\/lv=7)with rfl|rfl|rfl|rfl|rfl|rfl|rfl
  ·exact adv (afs ih) hn hs
  ·exact adv (aft ih) hn hs
  ·exact aAv ih hp (c3 (by omega) (by omega))
  ·exact aAw ih hn hs
  ·exact adv (afu ih) hn hs
  ·exact adv (afv ih) hn hs
  ·exact aAx ih hp (c7 (by omega) (by omega))
theorem acR {p:Nat}{ts:ba} (h:cF L p ts) (i:Nat){t:ff} (ht:ts[i]? =some t):∃x,L[p+i]? =some x/\x.tok=t:=by
 have:(L.map RZ.tok)[p+i]? =some t:=by
  rw[<-h.1]at ht
  rw[getElem?_drop]at ht
  exact ht
 rw[getElem?_map]at this
 obtain⟨x,hx,e⟩:=Option.map_eq_some_iff.1 this
 exact⟨x,hx,e⟩
theorem ao4 {p:Nat}{ts:ba} (h:cF L p ts) (hp:p<=L.length):p+ts.length=L.length:=by
 have:=congrArg List.length h.1
 simp only[length_drop,length_map]at this
 omega
theorem akU {p:Nat}{n:Int} (hn:ld n){r:ba} (h:cF L p (sT cI::sT rS::nT n::sT cj::r)):dO.F [TK L,.i (p:Int)]=some [.i 1,.s (bs []),.i (-n),.l [],.b true,.i ((p+4:Nat):Int)]:=by
 have hw:wd []=([]:Bs):=rfl
 obtain⟨x0,h0,e0,fU⟩:=h.get
 have hlen:=ao4 h (by omega)
 simp only[length_cons]at hlen
 have hL:=h.2
 obtain⟨x1,h1,e1⟩:=acR h 1 (t:=sT rS) rfl
 obtain⟨x2,h2,e2⟩:=acR h 2 (t:=nT n) rfl
 obtain⟨x3,h3,e3⟩:=acR h 3 (t:=sT cj) rfl
 have g:=agb h cI
 rw[show(sT cI).is cI=true from by decide]at g
 have k1:x1.kind=3:=congrArg ff.kind e1
 have t1:x1.text=rS:=congrArg ff.text e1
 have k2:x2.kind=2:=congrArg ff.kind e2
 have n2:x2.n=n:=congrArg ff.n e2
 have k3:x3.kind=3:=congrArg ff.kind e3
 have t3:x3.text=cj:=congrArg ff.text e3
 have w1:IntKind.i64.wrap ((p:Int)+1)=((p+1:Nat):Int):=aJ (by omega)
 have w2:IntKind.i64.wrap ((p:Int)+2)=((p+2:Nat):Int):=by rw[cE (by omega) (by omega)];omega
 have w3:IntKind.i64.wrap ((p:Int)+3)=((p+3:Nat):Int):=by rw[cE (by omega) (by omega)];omega
 have w4:IntKind.i64.wrap ((p:Int)+4)=((p+4:Nat):Int):=by rw[cE (by omega) (by omega)];omega
 have wl:IntKind.i64.wrap ((L.length:Int)-(p:Int))=(L.length:Int)-(p:Int):=cE (by omega) (by omega)
 have wn:IntKind.i64.wrap (0-n)= -n:=by unfold ld at hn;rw[cE (by omega) (by omega)];omega
 have c1:(p:Int)<=(L.length:Int):=by omega
 have c2:¬((L.length:Int)-(p:Int)<4):=by omega
 have c3:(1:Int)<(L.length:Int)-(p:Int):=by omega
 have c4:(2:Int)<(L.length:Int)-(p:Int):=by omega
 have c5:(3:Int)<(L.length:Int)-(p:Int):=by omega
 rw[wG]
 unfold TK at g⊢
 simp only[bU,cm,g,w1,w2,w3,w4,wl,c1,c2,c3,c4,c5,Int.le_refl,ay h1,ay h2,ay h3,RZ.cs,k1,t1,k2,n2,k3,t3,wn,hw,av,Nat.reduceAdd]
theorem afz {p:Nat}{r:ba}{t:ff} (h:cF L p (t::r)) (Yv:¬∃n q,t::r=sT cI::sT rS::nT n::sT cj::q) (hk:∀u∈t::r,(u.kind=3\/u.kind=1->u.n=0)/\(u.kind=2->u.text=[])) (ht:t.is cI=true->t=sT cI):dO.F [TK L,.i (p:Int)]=some [.i 0,.s (bs []),.i 0,.l [],.b false,.i (p:Int)]:=by
 have hw:wd []=([]:Bs):=rfl
 obtain⟨x0,h0,e0,fU⟩:=h.get
 have hlen:=ao4 h (by omega)
 have hL:=h.2
 have g:=agb h cI
 have w1:IntKind.i64.wrap ((p:Int)+1)=((p+1:Nat):Int):=aJ (by omega)
 have w2:IntKind.i64.wrap ((p:Int)+2)=((p+2:Nat):Int):=by rw[cE (by omega) (by omega)];omega
 have w3:IntKind.i64.wrap ((p:Int)+3)=((p+3:Nat):Int):=by rw[cE (by omega) (by omega)];omega
 have wl:IntKind.i64.wrap ((L.length:Int)-(p:Int))=(L.length:Int)-(p:Int):=cE (by omega) (by omega)
 have c1:(p:Int)<=(L.length:Int):=by omega
 rw[wG]
 unfold TK at g⊢
 by_cases c2:((L.length:Int)-(p:Int)<4)
 ·simp only[bU,cm,g,w1,w2,w3,wl,c1,c2,Int.le_refl,hw,av,Nat.reduceAdd]
 cases hb:t.is cI with
 |false=>
  rw[hb]at g
  simp only[bU,cm,g,w1,w2,w3,wl,c1,c2,Int.le_refl,hw,av,Nat.reduceAdd]
 |true=>
 rw[hb]at g
 have c3:(1:Int)<(L.length:Int)-(p:Int):=by omega
 have c4:(2:Int)<(L.length:Int)-(p:Int):=by omega
 have c5:(3:Int)<(L.length:Int)-(p:Int):=by omega
 obtain⟨t1,t2,t3,q,hr⟩:∃t1 t2 t3 q,r=t1::t2::t3::q:=by
  simp only[length_cons]at hlen
  match r,hlen with
  |t1::t2::t3::q,_=>exact⟨t1,t2,t3,q,rfl⟩
  |[],hh=>simp at hh;omega
  |[_],hh=>simp at hh;omega
  |[_,_],hh=>simp at hh;omega
 subst hr
 obtain⟨x1,h1,e1⟩:=acR h 1 (t:=t1) rfl
 obtain⟨x2,h2,e2⟩:=acR h 2 (t:=t2) rfl
 obtain⟨x3,h3,e3⟩:=acR h 3 (t:=t3) rfl
 have k1:x1.kind=t1.kind:=congrArg ff.kind e1
 have y1:x1.text=t1.text:=congrArg ff.text e1
 have k2:x2.kind=t2.kind:=congrArg ff.kind e2
 have k3:x3.kind=t3.kind:=congrArg ff.kind e3
 have y3:x3.text=t3.text:=congrArg ff.text e3
 by_cases d1:t1.kind=3
 rotate_left
 ·simp only[bU,cm,g,w1,w2,w3,wl,c1,c2,c3,c4,c5,Int.le_refl,ay h1,RZ.cs,k1,d1,hw,av,Nat.reduceAdd]
 by_cases d2:t1.text=rS
 rotate_left
 ·simp only[bU,cm,g,w1,w2,w3,wl,c1,c2,c3,c4,c5,Int.le_refl,ay h1,RZ.cs,k1,y1,d1,d2,hw,av,Nat.reduceAdd]
 by_cases d3:t2.kind=2
 rotate_left
 ·simp only[bU,cm,g,w1,w2,w3,wl,c1,c2,c3,c4,c5,Int.le_refl,ay h1,ay h2,RZ.cs,k1,y1,k2,d1,d2,d3,hw,av,Nat.reduceAdd]
 by_cases d4:t3.kind=3
 rotate_left
 ·simp only[bU,cm,g,w1,w2,w3,wl,c1,c2,c3,c4,c5,Int.le_refl,ay h1,ay h2,ay h3,RZ.cs,k1,y1,k2,k3,d1,d2,d3,d4,hw,av,Nat.reduceAdd]
 by_cases d5:t3.text=cj
 rotate_left
 ·simp only[bU,cm,g,w1,w2,w3,wl,c1,c2,c3,c4,c5,Int.le_refl,ay h1,ay h2,ay h3,RZ.cs,k1,y1,k2,k3,y3,d1,d2,d3,d4,d5,hw,av,Nat.reduceAdd]
 refine absurd ⟨t2.n,q,?_⟩ Yv
 have m1:=(hk t1 (by simp)).1 (.inl d1)
 have m2:=(hk t2 (by simp)).2 d3
 have m3:=(hk t3 (by simp)).1 (.inl d4)
 rw[ht hb]
 obtain⟨a1,a2,a3⟩:=t1
 obtain⟨b1,b2,b3⟩:=t2
 obtain⟨e1,e2,e3⟩:=t3
 simp only at d1 d2 d3 d4 d5 m1 m2 m3
 subst d1 d2 d3 d4 d5 m1 m2 m3
 rfl
theorem aao {p:Nat}{w:Bs} (hw:Name w) (op:Int){u:ff}{r:ba} (h:cF L p (sT cI::wT w::sT cj::u::r)):ja.F [TK L,.i (p:Int),.i op]=some [.i op,.s (bs w),.i 0,.l [],.i ((p+3:Nat):Int)]:=by
 have g1:=dk h cI (by decide)
 have g2:=ei hw h.step
 have g3:=dk h.step.step cj (by decide)
 rw[L3]
 simp only[pB,G0,G1,g1,g2,g3,av,Nat.reduceAdd]
end
end
def Can (t:ff):Prop:=(t.kind=3\/t.kind=1->t.n=0)/\(t.kind=2->t.text=[])/\(t.kind=1->Xe (t.text.getD 0 0)=true)
theorem Atom.can {w:Bs}{t:ff} (h:Atom w t):Can t:=by
 cases h with
 |word _ h0 h1 h2=>exact⟨fun _=>rfl,fun h=>(by cases h),fun _=>h1⟩
 |num n h0 h1=>exact⟨fun h=>(by rcases h with h|h<;>cases h),fun _=>rfl,fun h=>(by cases h)⟩
 |sgn _ h=>exact⟨fun _=>rfl,fun h=>(by cases h),fun h=>(by cases h)⟩
theorem Lx.can {a:Bs}{ts:ba}{l:Option ff} (h:Lx a ts l):∀t∈ts,Can t:=by
 induction h with
 |nil=>intro t ht;cases ht
 |tok w t h=>intro x hx;rcases mem_singleton.1 hx with rfl;exact h.can
 |sp=>intro t ht;cases ht
 |cat a b ta tb la lb h1 h2 h3 h4 i1 i2=>intro t ht;exact(mem_append.1 ht).elim (i1 t) (i2 t)
theorem Bn.can {ws:xm}{ts:ba} (h:Bn ws ts):∀t∈ts,Can t:=by
 obtain⟨_,_,l,hx⟩:=h.join
 exact hx.can
theorem LT.can {ls:List Ln}{T:ba} (h:LT ls T):∀t∈T,Can t:=by
 obtain⟨UG,h1,rfl⟩:=h
 induction h1 with
 |nil=>intro t ht;cases ht
 |cons l ts ls UG hl _ ih=>
  intro t ht
  rw[UQ]at ht
  rcases mem_append.1 ht with ht|ht
  ·exact hl.can t ht
  ·rcases mem_cons.1 ht with rfl|ht
   ·exact⟨fun _=>rfl,fun _=>rfl,fun h=>(by cases h)⟩
   ·exact ih t ht
def xi (L:pO):Prop:=∀t∈L.map RZ.tok,Can t
theorem xi.nx {L:pO} (h:xi L){p:Nat}{ts:ba} (hn:cF L p ts):∀t∈ts,Can t:=fun t ht=>by
 rw[<-hn.1]at ht
 exact h t (mem_of_mem_drop ht)
def FT (t:ff):Prop:=(∃n,t=nT n)\/(∃w,t=wT w/\Xe (w.getD 0 0)=true)\/t=sT cI\/t=sT rS
theorem aiy {w:Bs} (h:Name w):FT (wT w):= .inr (.inl ⟨w,rfl,h.2.2.1⟩)
theorem aoW {w:Bs} (h:Name w) (v:Bs) (hv:v∈Ya):(wT w).is v=false:=by
 rw[pX]
 exact decide_eq_false fun e=>h.2.2.2.2 (e▸hv)
theorem OR {op l:Int}{ts:ba} (h:∃t q,ts=t::q/\FT t):∃t q,lD op l ts=t::q/\FT t:=by
 unfold lD
 split
 ·exact⟨_,_,rfl,.inr (.inr (.inl rfl))⟩
 ·exact h
theorem T4 (op:Int) (h:9<=op/\op<=19):(lf op).2.1=kQ op/\1<=kQ op/\kQ op<=6/\kQ op≠3:=by
 rcases(by omega:op=9\/op=10\/op=11\/op=12\/op=13\/op=14\/op=15\/op=16\/op=17\/op=18\/op=19)with rfl|rfl|rfl|rfl|rfl|rfl|rfl|rfl|rfl|rfl|rfl<;>decide
theorem au3 {op:Int} (h:9<=op/\op<=19) (nm:Bs) (n:Int) (a b:aj):(aj.mk op nm n [a,b]).tk=lD a.op (sF (kQ op)) a.tk++tS op::lD b.op (oH (kQ op)) b.tk:=by
 have e:=aj.QI (.mk op nm n [a,b])
 rw[e]
 have h1:=(T4 op h).1
 show wW op nm n [a,b] ([a,b].map aj.tk)=_
 have n1:¬op=1:=by omega
 have n2:¬op=2:=by omega
 have n3:¬op=3:=by omega
 have n4:¬op=4:=by omega
 have n5:¬op=5:=by omega
 have n6:¬op=6:=by omega
 have m7:¬op=7:=by omega
 have m8:¬op=8:=by omega
 have m20:¬op=20:=by omega
 have m21:¬op=21:=by omega
 have m22:¬op=22:=by omega
 have m23:¬op=23:=by omega
 have m24:¬op=24:=by omega
 simp only[wW,n1,n2,n3,n4,n5,n6,m7,m8,m20,m21,m22,m23,m24,or_self,if_false,na,map_cons,map_nil,getD_cons_zero,getD_cons_succ,h1]
theorem TZ {op:Int}{nm:Bs}{n:Int}{ks:i7} (h:(aj.mk op nm n ks).ok):
 (op=1/\ld n/\nm=[]/\ks=[]/\n<0/\(aj.mk op nm n ks).tk=[sT cI,sT rS,nT (-n),sT cj])\/
 (op=1/\ld n/\nm=[]/\ks=[]/\¬n<0/\(aj.mk op nm n ks).tk=[nT n])\/
 (op=2/\(n=0\/n=1)/\nm=[]/\ks=[]/\(aj.mk op nm n ks).tk=[wT (pI n)])\/
 (op=3/\n=0/\Name nm/\ks=[]/\(aj.mk op nm n ks).tk=[wT nm])\/
 (op=4/\n=0/\nm=[]/\ks=[]/\(aj.mk op nm n ks).tk=[wT aBg])\/
 (∃a,op=5/\n=0/\nm=[]/\ks=[a]/\a.ok/\(aj.mk op nm n ks).tk=sT rS::lD a.op 7 a.tk)\/
 (∃a,op=6/\n=0/\nm=[]/\ks=[a]/\a.ok/\(aj.mk op nm n ks).tk=wT Uy::lD a.op 3 a.tk)\/
 (∃a,(op=7\/op=8)/\n=0/\nm=[]/\ks=[a]/\a.ok/\(aj.mk op nm n ks).tk=wT (fE op)::sT cI::(a.tk++[sT cj]))\/
 (∃a b,9<=op/\op<=19/\n=0/\nm=[]/\ks=[a,b]/\a.ok/\b.ok/\(aj.mk op nm n ks).tk=lD a.op (sF (kQ op)) a.tk++tS op::lD b.op (oH (kQ op)) b.tk)\/
 (∃a b,(op=20\/op=21)/\n=0/\nm=[]/\ks=[a,b]/\a.ok/\b.ok/\(aj.mk op nm n ks).tk=wT (fE op)::sT cI::((a.tk++sT rf::b.tk)++[sT cj]))\/
 ((op=22\/op=23\/op=24)/\n=0/\Name nm/\ks=[]/\(aj.mk op nm n ks).tk=[wT (fE op),sT cI,wT nm,sT cj]):=by
 obtain⟨h1,h2⟩:=(aj.vZ _).1 h
 have W6:uJ op nm n ks.length:=h1
 have h2':∀k∈ks,k.ok:=h2
 have e:(aj.mk op nm n ks).tk=wW op nm n ks (ks.map aj.tk):=aj.QI _
 unfold uJ at W6
 rcases W6 with⟨rfl,hn,rfl,hk⟩|⟨rfl,hn,rfl,hk⟩|⟨rfl,rfl,hn,hk⟩|⟨rfl,rfl,rfl,hk⟩|⟨q1,q2,rfl,rfl,hk1⟩|⟨q1,q2,rfl,rfl,pJ⟩|⟨q1,q2,rfl,hn,hk⟩
 ·have:=length_eq_zero_iff.1 hk
  subst this
  rw[e]
  by_cases c:n<0
  ·exact .inl ⟨rfl,hn,rfl,rfl,c,by simp[wW,c]⟩
  ·exact .inr (.inl ⟨rfl,hn,rfl,rfl,c,by simp[wW,c]⟩)
 ·have:=length_eq_zero_iff.1 hk
  subst this
  rw[e]
  exact .inr (.inr (.inl ⟨rfl,hn,rfl,rfl,rfl⟩))
 ·have:=length_eq_zero_iff.1 hk
  subst this
  rw[e]
  exact .inr (.inr (.inr (.inl ⟨rfl,rfl,hn,rfl,rfl⟩)))
 ·have:=length_eq_zero_iff.1 hk
  subst this
  rw[e]
  exact .inr (.inr (.inr (.inr (.inl ⟨rfl,rfl,rfl,rfl,rfl⟩))))
 ·obtain⟨a,rfl⟩:∃a,ks=[a]:=by
   match ks,hk1 with
   |[a],_=>exact⟨a,rfl⟩
  have ha:=h2' a (by simp)
  rw[e]
  rcases(by omega:op=5\/op=6\/op=7\/op=8)with rfl|rfl|rfl|rfl
  ·exact .inr (.inr (.inr (.inr (.inr (.inl ⟨a,rfl,rfl,rfl,rfl,ha,rfl⟩)))))
  ·exact .inr (.inr (.inr (.inr (.inr (.inr (.inl ⟨a,rfl,rfl,rfl,rfl,ha,rfl⟩))))))
  ·exact .inr (.inr (.inr (.inr (.inr (.inr (.inr (.inl ⟨a,.inl rfl,rfl,rfl,rfl,ha,rfl⟩)))))))
  ·exact .inr (.inr (.inr (.inr (.inr (.inr (.inr (.inl ⟨a,.inr rfl,rfl,rfl,rfl,ha,rfl⟩)))))))
 ·obtain⟨a,b,rfl⟩:∃a b,ks=[a,b]:=by
   match ks,pJ with
   |[a,b],_=>exact⟨a,b,rfl⟩
  have ha:=h2' a (by simp)
  have hb:=h2' b (by simp)
  by_cases h19:op<=19
  ·exact .inr (.inr (.inr (.inr (.inr (.inr (.inr (.inr (.inl ⟨a,b,q1,h19,rfl,rfl,rfl,ha,hb,au3 ⟨q1,h19⟩ _ _ a b⟩))))))))
  ·rw[e]
   rcases(by omega:op=20\/op=21)with rfl|rfl
   ·exact .inr (.inr (.inr (.inr (.inr (.inr (.inr (.inr (.inr (.inl ⟨a,b,.inl rfl,rfl,rfl,rfl,ha,hb,rfl⟩)))))))))
   ·exact .inr (.inr (.inr (.inr (.inr (.inr (.inr (.inr (.inr (.inl ⟨a,b,.inr rfl,rfl,rfl,rfl,ha,hb,rfl⟩)))))))))
 ·have:=length_eq_zero_iff.1 hk
  subst this
  rw[e]
  rcases(by omega:op=22\/op=23\/op=24)with rfl|rfl|rfl
  ·exact .inr (.inr (.inr (.inr (.inr (.inr (.inr (.inr (.inr (.inr ⟨.inl rfl,rfl,hn,rfl,rfl⟩)))))))))
  ·exact .inr (.inr (.inr (.inr (.inr (.inr (.inr (.inr (.inr (.inr ⟨.inr (.inl rfl),rfl,hn,rfl,rfl⟩)))))))))
  ·exact .inr (.inr (.inr (.inr (.inr (.inr (.inr (.inr (.inr (.inr ⟨.inr (.inr rfl),rfl,hn,rfl,rfl⟩)))))))))
theorem AY (op:Int):FT (wT (fE op))/\(wT (fE op)).is Uy=false:=by
 unfold fE
 repeat' split
 all_goals exact⟨.inr (.inl ⟨_,rfl,by decide⟩),by decide⟩
theorem acz:∀e:aj,e.ok->∃t q,e.tk=t::q/\FT t/\(4<=kQ e.op->t.is Uy=false)/\(8<=kQ e.op->t≠sT rS):=by
 refine aj.ind fun op nm n ks ih dI=> ?_
 rcases TZ dI with⟨rfl,hn,rfl,rfl,c,e⟩|⟨rfl,hn,rfl,rfl,c,e⟩|⟨rfl,hn,rfl,rfl,e⟩|⟨rfl,rfl,hn,rfl,e⟩|⟨rfl,rfl,rfl,rfl,e⟩|⟨a,rfl,rfl,rfl,rfl,ha,e⟩|⟨a,rfl,rfl,rfl,rfl,ha,e⟩|⟨a,ho,rfl,rfl,rfl,ha,e⟩|⟨a,b,q1,q2,rfl,rfl,rfl,ha,hb,e⟩|⟨a,b,ho,rfl,rfl,rfl,ha,hb,e⟩|⟨ho,rfl,hn,rfl,e⟩
 all_goals rw[e]
 ·exact⟨_,_,rfl,.inr (.inr (.inl rfl)),fun _=>by decide,fun _=>by decide⟩
 ·exact⟨_,_,rfl,.inl ⟨n,rfl⟩,fun _=>aiq _ _,fun _ h=>by cases h⟩
 ·refine⟨_,_,rfl,?_,fun _=> ?_,fun _ h=>by cases h⟩
  ·rcases hn with rfl|rfl
   ·exact .inr (.inl ⟨_,rfl,by decide⟩)
   ·exact .inr (.inl ⟨_,rfl,by decide⟩)
  ·rcases hn with rfl|rfl<;>decide
 ·exact⟨_,_,rfl,aiy hn,fun _=>aoW hn _ (by decide),fun _ h=>by cases h⟩
 ·exact⟨_,_,rfl,.inr (.inl ⟨_,rfl,by decide⟩),fun _=>by decide,fun _ h=>by cases h⟩
 ·exact⟨_,_,rfl,.inr (.inr (.inr rfl)),fun _=>by decide,fun h=>by revert h;show(8:Int)<=kQ 5->_;decide⟩
 ·exact⟨_,_,rfl,.inr (.inl ⟨_,rfl,by decide⟩),fun h=>by revert h;show(4:Int)<=kQ 6->_;decide,fun _ h=>by cases h⟩
 ·exact⟨_,_,rfl,(AY op).1,fun _=>(AY op).2,fun _ h=>by cases h⟩
 ·obtain⟨o1,o2,o3,o4⟩:=T4 op ⟨q1,q2⟩
  obtain⟨t,q,t1,t2,t3,t4⟩:=ih a (by simp) ha
  have hl:kQ (aj.mk op [] 0 [a,b]).op=kQ op:=rfl
  unfold lD
  by_cases c:kQ a.op<sF (kQ op)
  ·rw[if_pos c]
   exact⟨_,_,rfl,.inr (.inr (.inl rfl)),fun _=>by decide,fun _=>by decide⟩
  ·rw[if_neg c,t1]
   refine⟨t,_,rfl,t2,fun h=>t3 ?_,fun h=> ?_⟩
   ·rw[hl]at h
    unfold sF at c
    split at c<;>omega
   ·rw[hl]at h;omega
 ·exact⟨_,_,rfl,(AY op).1,fun _=>(AY op).2,fun _ h=>by cases h⟩
 ·exact⟨_,_,rfl,(AY op).1,fun _=>(AY op).2,fun _ h=>by cases h⟩
theorem alZ:∀e:aj,e.ok->∀(u x:ff) (r q:ba) (n:Int),e.tk++u::r=sT rS::nT n::x::q->(x=u/\kQ e.op=7)\/∃op,9<=op/\op<=19/\x=tS op:=by
 refine aj.ind fun op nm n ks ih dI u x r q m h=> ?_
 rcases TZ dI with⟨rfl,hn,rfl,rfl,c,e⟩|⟨rfl,hn,rfl,rfl,c,e⟩|⟨rfl,hn,rfl,rfl,e⟩|⟨rfl,rfl,hn,rfl,e⟩|⟨rfl,rfl,rfl,rfl,e⟩|⟨a,rfl,rfl,rfl,rfl,ha,e⟩|⟨a,rfl,rfl,rfl,rfl,ha,e⟩|⟨a,ho,rfl,rfl,rfl,ha,e⟩|⟨a,b,q1,q2,rfl,rfl,rfl,ha,hb,e⟩|⟨a,b,ho,rfl,rfl,rfl,ha,hb,e⟩|⟨ho,rfl,hn,rfl,e⟩
 all_goals rw[e]at h
 ·exact absurd (List.cons.inj h).1 (by decide)
 ·have:=(List.cons.inj h).1;cases this
 ·have:=(List.cons.inj h).1;cases this
 ·have:=(List.cons.inj h).1;cases this
 ·have:=(List.cons.inj h).1;cases this
 ·have h:=(List.cons.inj h).2
  unfold lD at h
  by_cases c:kQ a.op<7
  ·rw[if_pos c]at h
   have:=(List.cons.inj h).1;cases this
  ·rw[if_neg c]at h
   obtain⟨aop,anm,an,aks⟩:=a
   rcases TZ ha with⟨rfl,hn,rfl,rfl,c',e'⟩|⟨rfl,hn,rfl,rfl,c',e'⟩|⟨rfl,hn,rfl,rfl,e'⟩|⟨rfl,rfl,hn,rfl,e'⟩|⟨rfl,rfl,rfl,rfl,e'⟩|⟨a',rfl,rfl,rfl,rfl,ha',e'⟩|⟨a',rfl,rfl,rfl,rfl,ha',e'⟩|⟨a',ho,rfl,rfl,rfl,ha',e'⟩|⟨a',b',q1,q2,rfl,rfl,rfl,ha',Ml,e'⟩|⟨a',b',ho,rfl,rfl,rfl,ha',Ml,e'⟩|⟨ho,rfl,hn,rfl,e'⟩
   all_goals rw[e']at h
   ·have:=(List.cons.inj h).1;cases this
   ·have:=(List.cons.inj (List.cons.inj h).2).1
    exact .inl ⟨this.symm,rfl⟩
   ·have:=(List.cons.inj h).1;cases this
   ·have:=(List.cons.inj h).1;cases this
   ·have:=(List.cons.inj h).1;cases this
   ·have:=(List.cons.inj h).1;cases this
   ·have:=(List.cons.inj h).1;cases this
   ·have:=(List.cons.inj h).1;cases this
   ·have hl:=(T4 aop ⟨q1,q2⟩).2.2.1
    exact absurd (show kQ aop<7 by omega) c
   ·have:=(List.cons.inj h).1;cases this
   ·have:=(List.cons.inj h).1;cases this
 ·have:=(List.cons.inj h).1;cases this
 ·have:=(List.cons.inj h).1;cases this
 ·unfold lD at h
  by_cases c:kQ a.op<sF (kQ op)
  ·rw[if_pos c]at h
   exact absurd (List.cons.inj h).1 (by decide)
  ·rw[if_neg c,append_assoc]at h
   rcases ih a (by simp) ha (tS op) x _ q m h with⟨h1,_⟩|h1
   ·exact .inr ⟨op,q1,q2,h1⟩
   ·exact .inr h1
 ·have:=(List.cons.inj h).1;cases this
 ·have:=(List.cons.inj h).1;cases this
theorem asd (op:Int):tS op≠sT cj:=by
 by_cases h:9<=op/\op<=19
 ·rcases(by omega:op=9\/op=10\/op=11\/op=12\/op=13\/op=14\/op=15\/op=16\/op=17\/op=18\/op=19)with rfl|rfl|rfl|rfl|rfl|rfl|rfl|rfl|rfl|rfl|rfl<;>decide
 ·unfold tS
  have n1:¬(op=19\/op=18):=by omega
  rw[if_neg n1]
  have:(lf op).1=[]:=by
   unfold lf
   repeat(rw[if_neg (by omega)])
  rw[this]
  decide
theorem apd {e:aj} (h:e.ok) (hl:kQ e.op<7) (r:ba):¬∃n q,sT cI::(e.tk++sT cj::r)=sT cI::sT rS::nT n::sT cj::q:=by
 rintro⟨n,q,he⟩
 have he:=(List.cons.inj he).2
 rcases alZ e h _ _ _ _ _ he with⟨_,h2⟩|⟨op,_,_,h2⟩
 ·omega
 ·exact asd op h2.symm
section
section
variable {L:pO}
theorem apm {k p:Nat}{n:Int}{u:ff}{r:ba} (h:cF L p (nT n::u::r)):PR L (k+1) 8 p (.mk 1 [] n []) (p+1):=by
 obtain⟨line,g⟩:=EP h
 have g2:=dh h
 have hw:wd []=([]:Bs):=rfl
 simp only[nT]at g
 show af (k+1) 361 _=_
 rw[br]
 simp only[bh,bn,Js,g,g2,hw,av,Nat.reduceAdd]
 rfl
theorem alA {k p:Nat}{w:Bs} (hw:Name w){u:ff}{r:ba} (h:cF L p (wT w::u::r)):PR L (k+1) 8 p (.mk 3 w 0 []) (p+1):=by
 obtain⟨line,g⟩:=EP h
 have g2:=NM h
 have g3:=ei hw h
 have hk:=hw.2.2.2.2
 simp only[wT]at g g2
 show af (k+1) 361 _=_
 rw[br]
 simp only[bh,bn,bu,Jr,g,g2,g3,hk,av,Nat.reduceAdd,reduceEq]
 rfl
theorem aiD {k p:Nat}{n:Int} (hn:ld n){r:ba} (h:cF L p (sT cI::sT rS::nT n::sT cj::r)):PR L (k+1) 8 p (.mk 1 [] (-n) []) (p+4):=by
 obtain⟨line,g⟩:=EP h
 have g2:=NM h
 have g3:=akU hn h
 simp only[sT]at g g2
 show af (k+1) 361 _=_
 rw[br]
 simp only[bh,bn,bu,bz,g,g2,g3,av,Nat.reduceAdd,reduceEq]
 rfl
theorem apn (hC:xi L){k p q:Nat}{a:aj}{r0 r:ba}{u:ff} (h:cF L p (sT cI::r0)) (Yv:¬∃n q,sT cI::r0=sT cI::sT rS::nT n::sT cj::q) (ha:PR L k 1 (p+1) a q) (hq:cF L q (sT cj::u::r)) (h0:r0≠[]):PR L (k+1) 8 p a (q+1):=by
 obtain⟨line,g⟩:=EP h
 have g2:=NM h
 have g3:=afz h Yv (fun u hu=>⟨(hC.nx h u hu).1,(hC.nx h u hu).2.1⟩) (fun _=>rfl)
 obtain⟨t1,r1,rfl⟩:∃t1 r1,r0=t1::r1:=by
  cases r0 with
  |nil=>exact absurd rfl h0
  |cons t1 r1=>exact⟨t1,r1,rfl⟩
 have g4:=cS h cI
 rw[show(sT cI).is cI=true from by decide]at g4
 have g5:=dk hq cj (by decide)
 simp only[sT]at g g2
 unfold PR kx at ha
 simp only at ha
 show af (k+1) 361 _=_
 rw[br]
 simp only[bh,bn,bu,bz,aQ,oE,g,g2,g3,g4,g5,ha,av,Nat.reduceAdd,reduceEq]
theorem vm (hC:xi L){p:Nat}{w:Bs} (hk:w∈Ya) (hp:w≠cI){u:ff}{r:ba} (h:cF L p (wT w::u::r)):
 (∃line:Int,aW.F [TK L,.i (p:Int)]=some [.i 1,.s (bs w),.i 0,.i line,.i (p:Int)])/\
 dJ.F [TK L,.i (p:Int)]=some [.b false,.i (p:Int)]/\
 dO.F [TK L,.i (p:Int)]=some [.i 0,.s (bs []),.i 0,.l [],.b false,.i (p:Int)]/\
 (∀v:Bs,aw.F [TK L,.i (p:Int),.s (bs v)]=some [.b (decide (w=v)),.i (if decide (w=v)=true then((p+1:Nat):Int)else(p:Int))]):=by
 have g2:=NM h
 have g3:=afz h (by rintro⟨n,q,e⟩;have:=(List.cons.inj e).1;cases this) (fun u hu=>⟨(hC.nx h u hu).1,(hC.nx h u hu).2.1⟩) (fun e=>by rw[pX]at e;exact absurd (of_decide_eq_true e) hp)
 refine⟨EP h,?_,g3,fun v=>cS h v⟩
 rw[g2]
 simp[wT,hk]
theorem alC (hC:xi L){k p:Nat}{u:ff}{r:ba} (h:cF L p (wT wz1::u::r)):PR L (k+1) 8 p (.mk 2 [] 1 []) (p+1):=by
 obtain⟨⟨line,g⟩,g2,g3,g4⟩:=vm hC (by decide) (by decide) h
 have hw:wd []=([]:Bs):=rfl
 show af (k+1) 361 _=_
 rw[br]
 simp only[bh,bn,bu,bz,aQ,g,g2,g3,g4,hw,fZ,map_cons,map_nil,Nat.reduceMod,List.cons.injEq,reduceEqDiff,reduceCtorEq,and_self,av,Nat.reduceAdd,reduceEqDiff,reduceCtorEq,reduceEq]
 rfl
theorem aiE (hC:xi L){k p:Nat}{u:ff}{r:ba} (h:cF L p (wT wz0::u::r)):PR L (k+1) 8 p (.mk 2 [] 0 []) (p+1):=by
 obtain⟨⟨line,g⟩,g2,g3,g4⟩:=vm hC (by decide) (by decide) h
 have hw:wd []=([]:Bs):=rfl
 show af (k+1) 361 _=_
 rw[br]
 simp only[bh,bn,bu,bz,aQ,g,g2,g3,g4,hw,fZ,map_cons,map_nil,Nat.reduceMod,List.cons.injEq,reduceEqDiff,reduceCtorEq,and_self,av,Nat.reduceAdd,reduceEqDiff,reduceCtorEq,reduceEq]
 rfl
theorem apl (hC:xi L){k p:Nat}{u:ff}{r:ba} (h:cF L p (wT aBg::u::r)):PR L (k+1) 8 p (.mk 4 [] 0 []) (p+1):=by
 obtain⟨⟨line,g⟩,g2,g3,g4⟩:=vm hC (by decide) (by decide) h
 have hw:wd []=([]:Bs):=rfl
 show af (k+1) 361 _=_
 rw[br]
 simp only[bh,bn,bu,bz,aQ,g,g2,g3,g4,hw,fZ,map_cons,map_nil,Nat.reduceMod,List.cons.injEq,reduceEqDiff,reduceCtorEq,and_self,av,Nat.reduceAdd,reduceEqDiff,reduceCtorEq,reduceEq]
 rfl
theorem api (hC:xi L){k p q:Nat}{ks:i7}{u:ff}{r:ba} (h:cF L p (wT aE9::u::r)) (hc:af k 363 [TK L,.i ((p+1:Nat):Int),.i 7,.i 1]=some [.i 7,.s (bs []),.i 0,ae aj.cs ks,.i (q:Int)]):PR L (k+1) 8 p (.mk 7 [] 0 ks) q:=by
 obtain⟨⟨line,g⟩,g2,g3,g4⟩:=vm hC (by decide) (by decide) h
 show af (k+1) 361 _=_
 rw[br]
 simp only[bh,bn,bu,bz,aQ,g,g2,g3,g4,hc,fZ,map_cons,map_nil,Nat.reduceMod,List.cons.injEq,reduceEqDiff,reduceCtorEq,and_true,and_self,av,Nat.reduceAdd,reduceEqDiff,reduceCtorEq,reduceEq]
 rfl
theorem aiF (hC:xi L){k p q:Nat}{ks:i7}{u:ff}{r:ba} (h:cF L p (wT aFa::u::r)) (hc:af k 363 [TK L,.i ((p+1:Nat):Int),.i 8,.i 1]=some [.i 8,.s (bs []),.i 0,ae aj.cs ks,.i (q:Int)]):PR L (k+1) 8 p (.mk 8 [] 0 ks) q:=by
 obtain⟨⟨line,g⟩,g2,g3,g4⟩:=vm hC (by decide) (by decide) h
 show af (k+1) 361 _=_
 rw[br]
 simp only[bh,bn,bu,bz,aQ,g,g2,g3,g4,hc,fZ,map_cons,map_nil,Nat.reduceMod,List.cons.injEq,reduceEqDiff,reduceCtorEq,and_true,and_false,and_self,av,Nat.reduceAdd,reduceEqDiff,reduceCtorEq,reduceEq]
 rfl
theorem apk (hC:xi L){k p q:Nat}{ks:i7}{u:ff}{r:ba} (h:cF L p (wT aFb::u::r)) (hc:af k 363 [TK L,.i ((p+1:Nat):Int),.i 20,.i 2]=some [.i 20,.s (bs []),.i 0,ae aj.cs ks,.i (q:Int)]):PR L (k+1) 8 p (.mk 20 [] 0 ks) q:=by
 obtain⟨⟨line,g⟩,g2,g3,g4⟩:=vm hC (by decide) (by decide) h
 show af (k+1) 361 _=_
 rw[br]
 simp only[bh,bn,bu,bz,aQ,g,g2,g3,g4,hc,fZ,map_cons,map_nil,Nat.reduceMod,List.cons.injEq,reduceEqDiff,reduceCtorEq,and_true,and_false,and_self,av,Nat.reduceAdd,reduceEqDiff,reduceCtorEq,reduceEq]
 rfl
theorem apj (hC:xi L){k p q:Nat}{ks:i7}{u:ff}{r:ba} (h:cF L p (wT aFc::u::r)) (hc:af k 363 [TK L,.i ((p+1:Nat):Int),.i 21,.i 2]=some [.i 21,.s (bs []),.i 0,ae aj.cs ks,.i (q:Int)]):PR L (k+1) 8 p (.mk 21 [] 0 ks) q:=by
 obtain⟨⟨line,g⟩,g2,g3,g4⟩:=vm hC (by decide) (by decide) h
 show af (k+1) 361 _=_
 rw[br]
 simp only[bh,bn,bu,bz,aQ,g,g2,g3,g4,hc,fZ,map_cons,map_nil,Nat.reduceMod,List.cons.injEq,reduceEqDiff,reduceCtorEq,and_true,and_false,and_self,av,Nat.reduceAdd,reduceEqDiff,reduceCtorEq,reduceEq]
 rfl
theorem alz (hC:xi L){k p:Nat}{w:Bs} (hw:Name w){u:ff}{r:ba} (h:cF L p (wT aFd::sT cI::wT w::sT cj::u::r)):PR L (k+1) 8 p (.mk 22 w 0 []) (p+4):=by
 obtain⟨⟨line,g⟩,g2,g3,g4⟩:=vm hC (by decide) (by decide) h
 have g5:=aao hw 22 h.step
 show af (k+1) 361 _=_
 rw[br]
 simp only[bh,bn,bu,bz,aQ,nB,g,g2,g3,g4,g5,fZ,map_cons,map_nil,Nat.reduceMod,List.cons.injEq,reduceEqDiff,reduceCtorEq,and_true,and_false,and_self,av,Nat.reduceAdd,reduceEqDiff,reduceCtorEq,reduceEq]
 rfl
theorem alB (hC:xi L){k p:Nat}{w:Bs} (hw:Name w){u:ff}{r:ba} (h:cF L p (wT aFe::sT cI::wT w::sT cj::u::r)):PR L (k+1) 8 p (.mk 23 w 0 []) (p+4):=by
 obtain⟨⟨line,g⟩,g2,g3,g4⟩:=vm hC (by decide) (by decide) h
 have g5:=aao hw 23 h.step
 show af (k+1) 361 _=_
 rw[br]
 simp only[bh,bn,bu,bz,aQ,nB,g,g2,g3,g4,g5,fZ,map_cons,map_nil,Nat.reduceMod,List.cons.injEq,reduceEqDiff,reduceCtorEq,and_true,and_false,and_self,av,Nat.reduceAdd,reduceEqDiff,reduceCtorEq,reduceEq]
 rfl
theorem aeN (hC:xi L){k p:Nat}{w:Bs} (hw:Name w){u:ff}{r:ba} (h:cF L p (wT aFf::sT cI::wT w::sT cj::u::r)):PR L (k+1) 8 p (.mk 24 w 0 []) (p+4):=by
 obtain⟨⟨line,g⟩,g2,g3,g4⟩:=vm hC (by decide) (by decide) h
 have g5:=aao hw 24 h.step
 show af (k+1) 361 _=_
 rw[br]
 simp only[bh,bn,bu,bz,aQ,nB,g,g2,g3,g4,g5,fZ,map_cons,map_nil,Nat.reduceMod,List.cons.injEq,reduceEqDiff,reduceCtorEq,and_false,and_self,av,Nat.reduceAdd,reduceEqDiff,reduceCtorEq,reduceEq]
 rfl
theorem aq8 {k p q:Nat}{op:Int}{a:aj}{t u:ff}{r0 r:ba} (h:cF L p (sT cI::t::r0)) (ha:PR L k 1 (p+1) a q) (hq:cF L q (sT cj::u::r)):af (k+1) 363 [TK L,.i (p:Int),.i op,.i 1]=some [.i op,.s (bs []),.i 0,ae aj.cs [a],.i ((q+1:Nat):Int)]:=by
 obtain⟨m,hm⟩:=r5
 have hw:wd []=([]:Bs):=rfl
 have g1:=dk h cI (by decide)
 have g2:=dk hq cj (by decide)
 have e:ae aj.cs [a]= .l [.l [.i a.op,.s (bs a.nm),.i a.n,ae aj.cs a.ks]]:=by simp only[ae,map_cons,map_nil,aj.aA a]
 have c1:(((0+1:Nat):Int))<=2513169434916:=by decide
 unfold PR kx at ha
 simp only at ha
 rw[BS,e]
 simp only[nk,oE,hm,bO,g1,ha,g2,length_append,length_cons,length_nil,c1,w11,Int.reduceAdd,hw,Int.reduceLT,av,Nat.reduceAdd,Int.reduceLT]
theorem aq9 {k p q q2:Nat}{op:Int}{a b:aj}{t t2 u:ff}{r0 r1 r:ba} (h:cF L p (sT cI::t::r0)) (ha:PR L k 1 (p+1) a q) (hq:cF L q (sT rf::t2::r1)) (hb:PR L k 1 (q+1) b q2) (hq2:cF L q2 (sT cj::u::r)):af (k+1) 363 [TK L,.i (p:Int),.i op,.i 2]=some [.i op,.s (bs []),.i 0,ae aj.cs [a,b],.i ((q2+1:Nat):Int)]:=by
 obtain⟨m,hm⟩:=r5
 have hw:wd []=([]:Bs):=rfl
 have g1:=dk h cI (by decide)
 have g2:=dk hq rf (by decide)
 have g3:=dk hq2 cj (by decide)
 have e:ae aj.cs [a,b]= .l [.l [.i a.op,.s (bs a.nm),.i a.n,ae aj.cs a.ks],.l [.i b.op,.s (bs b.nm),.i b.n,ae aj.cs b.ks]]:=by simp only[ae,map_cons,map_nil,aj.aA a,aj.aA b]
 have c1:(((0+1:Nat):Int))<=2513169434916:=by decide
 have c2:(((0+1+1:Nat):Int))<=2513169434916:=by decide
 unfold PR kx at ha hb
 simp only at ha hb
 rw[BS,e]
 simp only[nk,oE,hm,bO,g1,ha,g2,hb,g3,length_append,length_cons,length_nil,c1,c2,w11,w12,Int.reduceAdd,hw,Int.reduceLT,av,Nat.reduceAdd,Int.reduceLT]
theorem arl {k p q:Nat}{a:aj}{t:ff}{r:ba} (h:cF L p (sT rS::t::r)) (ha:PR L k 7 (p+1) a q):PR L (k+1) 7 p (.mk 5 [] 0 [a]) q:=by
 have g:=cS h rS
 rw[show(sT rS).is rS=true from by decide]at g
 have hw:wd []=([]:Bs):=rfl
 have e:ae aj.cs [a]= .l [.l [.i a.op,.s (bs a.nm),.i a.n,ae aj.cs a.ks]]:=by simp only[ae,map_cons,map_nil,aj.aA a]
 unfold PR kx at ha
 simp only at ha
 show af (k+1) 360 _=some [.i 5,.s (bs []),.i 0,ae aj.cs [a],.i (q:Int)]
 rw[xP,e]
 simp only[lG,aQ,g,ha,hw,av,Nat.reduceAdd]
theorem aAH {k p q:Nat}{a:aj}{t:ff}{r:ba} (h:cF L p (wT Uy::t::r)) (ha:PR L k 3 (p+1) a q):PR L (k+1) 3 p (.mk 6 [] 0 [a]) q:=by
 have g:=cS h Uy
 rw[show(wT Uy).is Uy=true from by decide]at g
 have hw:wd []=([]:Bs):=rfl
 have e:ae aj.cs [a]= .l [.l [.i a.op,.s (bs a.nm),.i a.n,ae aj.cs a.ks]]:=by simp only[ae,map_cons,map_nil,aj.aA a]
 unfold PR kx at ha
 simp only at ha
 show af (k+1) 341 _=some [.i 6,.s (bs []),.i 0,ae aj.cs [a],.i (q:Int)]
 rw[Di,e]
 simp only[nY,aQ,g,ha,hw,av,Nat.reduceAdd]
theorem ayl {k p q q2:Nat}{op:Int} (hop:op=14\/op=15\/op=16\/op=17){a b:aj}{t:ff}{r:ba} (ha:PR L k 5 p a q) (h:cF L q (tS op::t::r)) (hb:PR L k 5 (q+1) b q2):PR L (k+1) 4 p (.mk op [] 0 [a,b]) q2:=by
 have hx:=aap op a b
 have g:=fun v=>cS h v
 unfold PR kx at ha hb
 simp only at ha hb
 show af (k+1) 355 _=some [.i op,.s (bs []),.i 0,ae aj.cs [a,b],.i (q2:Int)]
 rw[sr]
 rcases hop with rfl|rfl|rfl|rfl
 ·have e:tS 14=sT UA:=by decide
  simp only[e,aoA]at g
  simp only[cV,aQ,bJ,g,ha,hb,hx,map_cons,map_nil,av,Nat.reduceAdd]
 ·have e:tS 15=sT wz5:=by decide
  simp only[e,aoA]at g
  simp only[cV,aQ,bJ,g,ha,hb,hx,fZ,map_cons,map_nil,Nat.reduceMod,List.cons.injEq,reduceEqDiff,reduceCtorEq,and_self,av,Nat.reduceAdd,reduceEqDiff,reduceCtorEq]
 ·have e:tS 16=sT wz6:=by decide
  simp only[e,aoA]at g
  simp only[cV,aQ,bJ,g,ha,hb,hx,fZ,map_cons,map_nil,Nat.reduceMod,List.cons.injEq,reduceEqDiff,reduceCtorEq,and_true,and_self,av,Nat.reduceAdd,reduceEqDiff,reduceCtorEq]
 ·have e:tS 17=sT wz7:=by decide
  simp only[e,aoA]at g
  simp only[cV,aQ,bJ,g,ha,hb,hx,fZ,map_cons,map_nil,Nat.reduceMod,List.cons.injEq,reduceEqDiff,reduceCtorEq,and_true,and_false,and_self,av,Nat.reduceAdd,reduceEqDiff,reduceCtorEq]
end
end
def RD (L:pO) (e:aj):Prop:=∀(lv k p:Nat) (u v:ff) (r:ba),1<=lv->(lv:Int)<=kQ e.op->20*e.sz+8<=k+lv->cF L p (e.tk++u::v::r)->stops lv u->PR L k lv p e (p+e.tk.length)
def CH (L:pO) (e:aj):Prop:=∀(lv k p:Nat) (u v:ff) (r:ba),(lv=1\/lv=2\/lv=5\/lv=6)->(lv:Int)<=kQ e.op->20*e.sz+8<=k+lv+1->cF L p (e.tk++u::v::r)->stops (lv+1) u->∃g m,m<=e.sz/\ChG L k lv g/\af (k+1) (kx lv) [TK L,.i (p:Int)]=dz g (aF-m) (chE (p+e.tk.length) e)
theorem aju {L:pO}{lv k p q:Nat}{x:aj} (hl:lv=1\/lv=2\/lv=5\/lv=6) (h:PR L k (lv+1) p x q):∃g,ChG L k lv g/\af (k+1) (kx lv) [TK L,.i (p:Int)]=dz g aF (chE q x):=by
 rcases hl with rfl|rfl|rfl|rfl
 ·exact afs h
 ·exact aft h
 ·exact afu h
 ·exact afv h
theorem Yz (op:Int):((1:Nat):Int)<=kQ op:=by
 by_cases h:9<=op/\op<=19
 ·have:=(T4 op h).2.1;omega
 ·unfold kQ
  split
  ·simp
  ·split
   ·simp
   ·have:(lf op).2.1=8:=by
     unfold lf
     repeat(rw[if_neg (by omega)])
    rw[this];simp
theorem OW (lv:Nat):stops lv (sT cj):=by
 refine⟨fun _=> ?_,fun _=> ?_,fun _=> ?_,fun _=> ?_,fun _=> ?_⟩<;>decide
theorem Xm (lv:Nat):stops lv (sT rf):=by
 refine⟨fun _=> ?_,fun _=> ?_,fun _=> ?_,fun _=> ?_,fun _=> ?_⟩<;>decide
theorem aaJ (lv:Nat):stops lv dS:=by
 refine⟨fun _=> ?_,fun _=> ?_,fun _=> ?_,fun _=> ?_,fun _=> ?_⟩<;>decide
theorem ac5 {op:Int} (h:9<=op/\op<=19){lv:Nat} (hl:kQ op<lv):stops lv (tS op):=by
 rcases(by omega:op=9\/op=10\/op=11\/op=12\/op=13\/op=14\/op=15\/op=16\/op=17\/op=18\/op=19)with rfl|rfl|rfl|rfl|rfl|rfl|rfl|rfl|rfl|rfl|rfl
 all_goals(refine⟨fun h=> ?_,fun h=> ?_,fun h=> ?_,fun h=> ?_,fun h=> ?_⟩)
 all_goals first|decide|(exfalso;revert hl;simp only[kQ,lf,reduceEq,if_true,if_false];omega)
theorem y9 {e:aj} (h:e.ok):∃t q,e.tk=t::q/\FT t:=by
 obtain⟨t,q,h1,h2,_⟩:=acz e h
 exact⟨t,q,h1,h2⟩
theorem agB {L:pO} (hC:xi L){a:aj} (ha:a.ok) (hR:RD L a) (hlv:kQ a.op<7){k p:Nat}{u v:ff}{r:ba} (hk:20*a.sz+8<=k) (hn:cF L p ((sT cI::(a.tk++[sT cj]))++u::v::r)):PR L k 8 p a (p+(a.tk.length+2)):=by
 obtain⟨k,rfl⟩:∃j,k=j+1:=⟨k-1,by omega⟩
 have e:(sT cI::(a.tk++[sT cj]))++u::v::r=sT cI::(a.tk++sT cj::u::v::r):=by simp
 rw[e]at hn
 have h1:=hR 1 k (p+1) (sT cj) u (v::r) (by omega) (Yz _) (by omega) hn.step (OW 1)
 have h2:=hn.step.app
 obtain⟨t,q,ht,_⟩:=y9 ha
 have:=apn hC hn (apd ha hlv _) h1 h2 (by rw[ht];simp)
 rw[show p+(a.tk.length+2)=p+1+a.tk.length+1 by omega]
 exact this
theorem agx (op l:Int) (ts:ba):(lD op l ts).length=if kQ op<l then ts.length+2 else ts.length:=by
 unfold lD
 split<;>simp
theorem NX {L:pO} (hC:xi L){a:aj} (ha:a.ok) (hR:RD L a){l k p:Nat} (h1:1<=l) (h7:l<=7){u v:ff}{r:ba} (hk:20*a.sz+16<=k+l) (hn:cF L p (lD a.op l a.tk++u::v::r)) (hs:stops l u):PR L k l p a (p+(lD a.op l a.tk).length):=by
 have hq:=hn.app
 rw[agx]at hq⊢
 by_cases c:kQ a.op<(l:Int)
 ·have X7:=hn
  unfold lD at X7
  rw[if_pos c]at X7 hq⊢
  obtain⟨k',rfl⟩:∃k',k=k'+(8-l):=⟨k-(8-l),by omega⟩
  have h8:=agB hC ha hR (by omega) (k:=k') (by omega) X7
  have hd:l+(8-l)=8:=by omega
  refine lift (t:=sT cI) (r0:=(a.tk++[sT cj])++u::v::r) X7 hq (8-l) l k' h1 (by omega) (by rw[hd];exact h8) hs (fun _ _=>by decide) (fun _ _=>by decide)
 ·have X7:=hn
  unfold lD at X7
  rw[if_neg c]at X7⊢
  exact hR l k p u v r h1 (by omega) (by omega) X7 hs
theorem ayj {L:pO} (hC:xi L){a:aj} (ha:a.ok) (hR:RD L a) (hCh:CH L a){l k p:Nat} (hl:l=1\/l=2\/l=5\/l=6){u v:ff}{r:ba} (hk:20*a.sz+16<=k+l) (hn:cF L p (lD a.op l a.tk++u::v::r)) (hs:stops (l+1) u):∃g m,m<=a.sz/\ChG L k l g/\af (k+1) (kx l) [TK L,.i (p:Int)]=dz g (aF-m) (chE (p+(lD a.op l a.tk).length) a):=by
 have hq:=hn.app
 rw[agx]at hq⊢
 by_cases c:kQ a.op<(l:Int)
 ·have X7:=hn
  unfold lD at X7
  rw[if_pos c]at X7 hq⊢
  obtain⟨k',rfl⟩:∃k',k=k'+(8-(l+1)):=⟨k-(8-(l+1)),by omega⟩
  have h8:=agB hC ha hR (by omega) (k:=k') (by omega) X7
  have hd:l+1+(8-(l+1))=8:=by omega
  have h9:=lift (t:=sT cI) (r0:=(a.tk++[sT cj])++u::v::r) X7 hq (8-(l+1)) (l+1) k' (by omega) (by omega) (by rw[hd];exact h8) hs (fun _ _=>by decide) (fun _ _=>by decide)
  obtain⟨g,hg,e⟩:=aju hl h9
  exact⟨g,0,by omega,hg,e⟩
 ·have X7:=hn
  unfold lD at X7
  rw[if_neg c]at X7⊢
  exact hCh l k p u v r hl (by omega) (by omega) X7 hs
theorem apt {L:pO} (hC:xi L):∀e:aj,e.ok->e.sz<1000000->RD L e/\CH L e:=by
 refine aj.ind fun op nm n ks ih dI hb=> ?_
 have esz:(aj.mk op nm n ks).sz=1+(ks.map aj.sz).sum:=aj.dR _
 have kid:∀a∈ks,a.ok->RD L a/\CH L a:=fun a ha arN=>ih a ha arN (by
  have:=aj.Wi (e:= .mk op nm n ks) ha
  omega)
 obtain⟨t,q0,htk,hft,af2,az2⟩:=acz _ dI
 have eop:(aj.mk op nm n ks).op=op:=rfl
 rw[eop]at af2 az2
 have gen:∀l:Nat,(l:Int)=kQ op->1<=l->l<=8->
  (∀(k p:Nat) (u v:ff) (r:ba),20*(aj.mk op nm n ks).sz+8<=k+l->cF L p ((aj.mk op nm n ks).tk++u::v::r)->stops l u->PR L k l p (aj.mk op nm n ks) (p+(aj.mk op nm n ks).tk.length))->
  (∀(k p:Nat) (u v:ff) (r:ba),(l=1\/l=2\/l=5\/l=6)->20*(aj.mk op nm n ks).sz+8<=k+l+1->cF L p ((aj.mk op nm n ks).tk++u::v::r)->stops (l+1) u->∃g m,m<=(aj.mk op nm n ks).sz/\ChG L k l g/\af (k+1) (kx l) [TK L,.i (p:Int)]=dz g (aF-m) (chE (p+(aj.mk op nm n ks).tk.length) (aj.mk op nm n ks)))->
  RD L (aj.mk op nm n ks)/\CH L (aj.mk op nm n ks):=by
  intro l hl l1 l8 own och
  have hRD:RD L (aj.mk op nm n ks):=by
   intro lv k p u v r h1 hlv hk hn hs
   rw[eop]at hlv
   obtain⟨k',rfl⟩:∃k',k=k'+(l-lv):=⟨k-(l-lv),by omega⟩
   have h0:=own k' p u v r (by omega) hn (hs.mono (by omega))
   have hd:lv+(l-lv)=l:=by omega
   have X7:=hn
   rw[htk]at X7
   exact lift (t:=t) (r0:=q0++u::v::r) X7 hn.app (l-lv) lv k' h1 (by omega) (by rw[hd];exact h0) hs (fun _ h=>af2 (by omega)) (fun _ h=>by
    have rP:=az2 (by omega)
    rcases hft with⟨m,rfl⟩|⟨w,rfl,hw⟩|rfl|rfl
    ·exact aiq _ _
    ·rw[pX];exact decide_eq_false fun e=>by rw[e]at hw;revert hw;decide
    ·decide
    ·exact absurd rfl rP)
  refine⟨hRD,?_⟩
  intro lv k p u v r azY hlv hk hn hs
  rw[eop]at hlv
  by_cases c:lv=l
  ·subst c
   exact och k p u v r azY (by omega) hn hs
  ·have h1:=hRD (lv+1) k p u v r (by omega) (by rw[eop];omega) (by omega) hn hs
   obtain⟨g,hg,e⟩:=aju azY h1
   exact⟨g,0,by omega,hg,e⟩
 have atom:kQ op=8->(∀(k p:Nat) (u v:ff) (r:ba),20*(aj.mk op nm n ks).sz<=k+1->cF L p ((aj.mk op nm n ks).tk++u::v::r)->PR L (k+1) 8 p (aj.mk op nm n ks) (p+(aj.mk op nm n ks).tk.length))->RD L (aj.mk op nm n ks)/\CH L (aj.mk op nm n ks):=by
  intro hl h
  refine gen 8 (by omega) (by omega) (by omega) (fun k p u v r hk hn _=> ?_) (fun k p u v r h4=>by omega)
  obtain⟨k,rfl⟩:∃j,k=j+1:=⟨k-1,by omega⟩
  exact h k p u v r (by omega) hn
 rcases TZ dI with⟨rfl,hn,rfl,rfl,c,e⟩|⟨rfl,hn,rfl,rfl,c,e⟩|⟨rfl,hn,rfl,rfl,e⟩|⟨rfl,rfl,hn,rfl,e⟩|⟨rfl,rfl,rfl,rfl,e⟩|⟨a,rfl,rfl,rfl,rfl,ha,e⟩|⟨a,rfl,rfl,rfl,rfl,ha,e⟩|⟨a,ho,rfl,rfl,rfl,ha,e⟩|⟨a,b,q1,q2,rfl,rfl,rfl,ha,Ml,e⟩|⟨a,b,ho,rfl,rfl,rfl,ha,Ml,e⟩|⟨ho,rfl,hn,rfl,e⟩
 ·refine atom (by decide) fun k p u v r hk h=> ?_
  rw[e]at h⊢
  have hn':ld (-n):=by unfold ld at hn⊢;omega
  have:=aiD (k:=k) hn' h
  rw[Int.neg_neg]at this
  exact this
 ·refine atom (by decide) fun k p u v r hk h=> ?_
  rw[e]at h⊢
  exact apm h
 ·refine atom (by decide) fun k p u v r hk h=> ?_
  rw[e]at h⊢
  rcases hn with rfl|rfl
  ·exact aiE hC h
  ·exact alC hC h
 ·refine atom (by decide) fun k p u v r hk h=> ?_
  rw[e]at h⊢
  exact alA hn h
 ·refine atom (by decide) fun k p u v r hk h=> ?_
  rw[e]at h⊢
  exact apl hC h
 ·
  obtain⟨hR,_⟩:=kid a (by simp) ha
  refine gen 7 (by decide) (by omega) (by omega) (fun k p u v r hk h hs=> ?_) (fun k p u v r h4=>by omega)
  obtain⟨k,rfl⟩:∃j,k=j+1:=⟨k-1,by omega⟩
  rw[e]at h⊢
  simp only[map_cons,map_nil,sum_cons,sum_nil]at esz
  obtain⟨t1,qq,HT,_⟩:=OR (op:=a.op) (l:=7) (y9 ha)
  have h2:=NX hC ha hR (l:=7) (k:=k) (by omega) (by omega) (by omega) h.step hs
  have h3:cF L p (sT rS::t1::(qq++u::v::r)):=by rw[HT]at h;exact h
  have:=arl h3 h2
  rw[show p+(sT rS::lD a.op 7 a.tk).length=p+1+(lD a.op ((7:Nat):Int) a.tk).length by rw[length_cons];show p+((lD a.op 7 a.tk).length+1)=p+1+(lD a.op 7 a.tk).length;omega]
  exact this
 ·
  obtain⟨hR,_⟩:=kid a (by simp) ha
  refine gen 3 (by decide) (by omega) (by omega) (fun k p u v r hk h hs=> ?_) (fun k p u v r h4=>by omega)
  obtain⟨k,rfl⟩:∃j,k=j+1:=⟨k-1,by omega⟩
  rw[e]at h⊢
  simp only[map_cons,map_nil,sum_cons,sum_nil]at esz
  obtain⟨t1,qq,HT,_⟩:=OR (op:=a.op) (l:=3) (y9 ha)
  have h2:=NX hC ha hR (l:=3) (k:=k) (by omega) (by omega) (by omega) h.step hs
  have h3:cF L p (wT Uy::t1::(qq++u::v::r)):=by rw[HT]at h;exact h
  have:=aAH h3 h2
  rw[show p+(wT Uy::lD a.op 3 a.tk).length=p+1+(lD a.op ((3:Nat):Int) a.tk).length by rw[length_cons];show p+((lD a.op 3 a.tk).length+1)=p+1+(lD a.op 3 a.tk).length;omega]
  exact this
 ·
  obtain⟨hR,_⟩:=kid a (by simp) ha
  have hl:kQ op=8:=by rcases ho with rfl|rfl<;>decide
  refine atom hl fun k p u v r hk h=> ?_
  rw[e]at h⊢
  simp only[map_cons,map_nil,sum_cons,sum_nil]at esz
  obtain⟨t1,qq,HT,_⟩:=y9 ha
  have h':cF L p (wT (fE op)::sT cI::(a.tk++sT cj::u::v::r)):=by simpa using h
  obtain⟨k,rfl⟩:∃j,k=j+1:=⟨k-1,by omega⟩
  have ha1:=hR 1 k (p+1+1) (sT cj) u (v::r) (by omega) (Yz _) (by omega) h'.step.step (OW 1)
  have h3:cF L (p+1) (sT cI::t1::(qq++sT cj::u::v::r)):=by have:=h'.step;rw[HT]at this;exact this
  have hc:=fun o=>aq8 (op:=o) h3 ha1 h'.step.step.app
  rw[show p+(wT (fE op)::sT cI::(a.tk++[sT cj])).length=p+1+1+a.tk.length+1 by simp;omega]
  rcases ho with rfl|rfl
  ·exact api hC h' (hc 7)
  ·exact aiF hC h' (hc 8)
 ·
  obtain⟨hRa,hCa⟩:=kid a (by simp) ha
  obtain⟨hRb,_⟩:=kid b (by simp) Ml
  obtain⟨o1,o2,o3,o4⟩:=T4 op ⟨q1,q2⟩
  simp only[map_cons,map_nil,sum_cons,sum_nil]at esz
  obtain⟨l,hl⟩:∃l:Nat,(l:Int)=kQ op:=⟨(kQ op).toNat,by omega⟩
  have hla:=a.aaM
  have hlb:=b.aaM
  by_cases h4:l=4
  ·
   subst h4
   have hop:op=14\/op=15\/op=16\/op=17:=by
    rcases(by omega:op=9\/op=10\/op=11\/op=12\/op=13\/op=14\/op=15\/op=16\/op=17\/op=18\/op=19)with rfl|rfl|rfl|rfl|rfl|rfl|rfl|rfl|rfl|rfl|rfl
    all_goals first|(revert hl;decide)|simp
   refine gen 4 hl (by omega) (by omega) (fun k p u v r hk h hs=> ?_) (fun k p u v r h4=>by omega)
   obtain⟨k,rfl⟩:∃j,k=j+1:=⟨k-1,by omega⟩
   have eL:sF (kQ op)=((5:Nat):Int):=by rw[<-hl];decide
   have eR:oH (kQ op)=((5:Nat):Int):=by rw[<-hl];decide
   rw[e,eL,eR]at h⊢
   obtain⟨t1,qq,HT,_⟩:=OR (op:=b.op) (l:=((5:Nat):Int)) (y9 Ml)
   have h':cF L p (lD a.op ((5:Nat):Int) a.tk++tS op::(t1::(qq++u::v::r))):=by
    rw[HT]at h;simpa using h
   have hb1:=NX hC ha hRa (l:=5) (k:=k) (by omega) (by omega) (by omega) h' (ac5 ⟨q1,q2⟩ (by omega))
   have hq:=h'.app
   have h'':cF L (p+(lD a.op ((5:Nat):Int) a.tk).length+1) (lD b.op ((5:Nat):Int) b.tk++u::v::r):=by
    have:=hq.step;rw[HT];exact this
   have Rr:=NX hC Ml hRb (l:=5) (k:=k) (by omega) (by omega) (by omega) h'' (hs.mono (by omega))
   have:=ayl hop hb1 hq Rr
   rw[length_append,length_cons,show p+((lD a.op ((5:Nat):Int) a.tk).length+((lD b.op ((5:Nat):Int) b.tk).length+1))=p+(lD a.op ((5:Nat):Int) a.tk).length+1+(lD b.op ((5:Nat):Int) b.tk).length by omega]
   exact this
  ·
   have hlc:l=1\/l=2\/l=5\/l=6:=by
    rcases(by omega:op=9\/op=10\/op=11\/op=12\/op=13\/op=14\/op=15\/op=16\/op=17\/op=18\/op=19)with rfl|rfl|rfl|rfl|rfl|rfl|rfl|rfl|rfl|rfl|rfl
    all_goals(simp only[kQ,lf,reduceEq,if_true,if_false]at hl;omega)
   have eL:sF (kQ op)=(l:Int):=by unfold sF;rw[if_neg (by omega),hl]
   have eR:oH (kQ op)=((l+1:Nat):Int):=by unfold oH;omega
   have och:∀(k p:Nat) (u v:ff) (r:ba),(l=1\/l=2\/l=5\/l=6)->20*(aj.mk op [] 0 [a,b]).sz+8<=k+l+1->cF L p ((aj.mk op [] 0 [a,b]).tk++u::v::r)->stops (l+1) u->∃g m,m<=(aj.mk op [] 0 [a,b]).sz/\ChG L k l g/\af (k+1) (kx l) [TK L,.i (p:Int)]=dz g (aF-m) (chE (p+(aj.mk op [] 0 [a,b]).tk.length) (aj.mk op [] 0 [a,b])):=by
    intro k p u v r _ hk h hs
    rw[e,eL,eR]at h⊢
    obtain⟨t1,qq,HT,_⟩:=OR (op:=b.op) (l:=((l+1:Nat):Int)) (y9 Ml)
    have h':cF L p (lD a.op (l:Int) a.tk++tS op::(t1::(qq++u::v::r))):=by
     rw[HT]at h;simpa using h
    obtain⟨g,m,hm,hg,eq⟩:=ayj hC ha hRa hCa (l:=l) (k:=k) hlc (by omega) h' (ac5 ⟨q1,q2⟩ (by omega))
    have hq:=h'.app
    have h'':cF L (p+(lD a.op (l:Int) a.tk).length+1) (lD b.op ((l+1:Nat):Int) b.tk++u::v::r):=by
     have:=hq.step;rw[HT];exact this
    have Rr:=NX hC Ml hRb (l:=l+1) (k:=k) (by omega) (by omega) (by omega) h'' hs
    refine⟨g,m+1,by omega,hg,?_⟩
    rw[eq,show aF-m=(aF-(m+1))+1 by unfold aF;omega,bO,hg.step _ _ a b op t1 _ _ ⟨q1,q2⟩ hl.symm hq Rr]
    rw[length_append,length_cons,show p+((lD a.op (l:Int) a.tk).length+((lD b.op ((l+1:Nat):Int) b.tk).length+1))=p+(lD a.op (l:Int) a.tk).length+1+(lD b.op ((l+1:Nat):Int) b.tk).length by omega]
   refine gen l hl (by omega) (by omega) (fun k p u v r hk h hs=> ?_) och
   obtain⟨k,rfl⟩:∃j,k=j+1:=⟨k-1,by omega⟩
   obtain⟨g,m,hm,hg,eq⟩:=och k p u v r hlc (by omega) h (hs.mono (by omega))
   unfold PR
   rw[eq,show aF-m=(aF-m-1)+1 by unfold aF;omega,bO,hg.stop _ _ u v r _ h.app hs]
 ·
  obtain⟨hRa,_⟩:=kid a (by simp) ha
  obtain⟨hRb,_⟩:=kid b (by simp) Ml
  have hl:kQ op=8:=by rcases ho with rfl|rfl<;>decide
  refine atom hl fun k p u v r hk h=> ?_
  rw[e]at h⊢
  simp only[map_cons,map_nil,sum_cons,sum_nil]at esz
  obtain⟨t1,qq,HT,_⟩:=y9 ha
  obtain⟨t2,qb,ht2,_⟩:=y9 Ml
  have h':cF L p (wT (fE op)::sT cI::(a.tk++sT rf::(b.tk++sT cj::u::v::r))):=by simpa using h
  obtain⟨k,rfl⟩:∃j,k=j+1:=⟨k-1,by omega⟩
  have aAs:∀x:aj,((1:Nat):Int)<=kQ x.op:=fun x=>Yz _
  have h5:cF L (p+1+1) (a.tk++sT rf::t2::(qb++sT cj::u::v::r)):=by have:=h'.step.step;rw[ht2]at this;exact this
  have ha1:=hRa 1 k (p+1+1) (sT rf) t2 _ (by omega) (aAs a) (by omega) h5 (Xm 1)
  have h6:=h5.app
  have h7:cF L (p+1+1+a.tk.length+1) (b.tk++sT cj::u::v::r):=by have:=h6.step;rw[ht2];exact this
  have hb1:=hRb 1 k _ (sT cj) u (v::r) (by omega) (aAs b) (by omega) h7 (OW 1)
  have h3:cF L (p+1) (sT cI::t1::(qq++sT rf::(b.tk++sT cj::u::v::r))):=by have:=h'.step;rw[HT]at this;exact this
  have hc:=fun o=>aq9 (op:=o) h3 ha1 h6 hb1 h7.app
  rw[show p+(wT (fE op)::sT cI::((a.tk++sT rf::b.tk)++[sT cj])).length=p+1+1+a.tk.length+1+b.tk.length+1 by simp;omega]
  rcases ho with rfl|rfl
  ·exact apk hC h' (hc 20)
  ·exact apj hC h' (hc 21)
 ·have hl:kQ op=8:=by rcases ho with rfl|rfl|rfl<;>decide
  refine atom hl fun k p u v r hk h=> ?_
  rw[e]at h⊢
  rcases ho with rfl|rfl|rfl
  ·exact alz hC hn h
  ·exact alB hC hn h
  ·exact aeN hC hn h
theorem Ay {L:pO} (hC:xi L){e:aj} (he:e.ok) (hs:e.sz<=60){p:Nat}{u v:ff}{r:ba} (h:cF L p (e.tk++u::v::r)) (hu:stops 1 u):bK.F [TK L,.i (p:Int)]=some [.i e.op,.s (bs e.nm),.i e.n,ae aj.cs e.ks,.i ((p+e.tk.length:Nat):Int)]:=by
 rw[Mo]
 exact(apt hC e he (by omega)).1 1 (aF+1) p u v r (by omega) (Yz _) (by unfold aF;omega) h hu
section
section
variable {L:pO}
theorem amb (v w:Int) (vs ws:uD):Mx (v::vs) (w::ws)=nT v::sT nt::nT w::Mx vs ws:=rfl
theorem akc:∀(vs ws:uD) (v w:Int) (k p:Nat) (va wb:uD) (u x:ff) (r:ba),vs.length=ws.length->vs.length<k->va.length+vs.length<100000->wb.length+ws.length<100000->cF L p (Mx (v::vs) (w::ws)++u::x::r)->u.kind≠2->
 cQ k 282000233 [bY va,bY wb,TK L,.i (p:Int),.i 3,.i 0,.i 0,.i 0]=some [bY (va++v::vs),bY (wb++w::ws),.i ((p+(Mx (v::vs) (w::ws)).length:Nat):Int)]
 |[],[],v,w,k,p,va,wb,u,x,r,_,hk,ha,hb,h,hu=>by
  obtain⟨k,rfl⟩:∃j,k=j+1:=⟨k-1,by simp at hk;omega⟩
  have h:cF L p (nT v::sT nt::nT w::u::x::r):=by simpa[Mx]using h
  have g1:=dh h
  have g2:=dk h.step nt (by decide)
  have g3:=dh h.step.step
  obtain⟨line,g4⟩:=EP h.step.step.step
  have e1:((((va.map Sc.i)++[Sc.i v]).length:Nat):Int)<=17592186044416:=by simp at ha⊢;omega
  have e2:((((wb.map Sc.i)++[Sc.i w]).length:Nat):Int)<=17592186044416:=by simp at hb⊢;omega
  rw[sw]
  simp only[iL,oW,oV,oG,g1,g2,g3,g4,e1,e2,hu,av,Nat.reduceAdd]
  simp[bY,Mx]
  omega
 |v2::vs,w2::ws,v,w,k,p,va,wb,u,x,r,hl,hk,ha,hb,h,hu=>by
  obtain⟨k,rfl⟩:∃j,k=j+1:=⟨k-1,by simp at hk;omega⟩
  have h:cF L p (nT v::sT nt::nT w::(Mx (v2::vs) (w2::ws)++u::x::r)):=by simpa[Mx]using h
  have ht:Mx (v2::vs) (w2::ws)++u::x::r=nT v2::sT nt::nT w2::(Mx vs ws++u::x::r):=rfl
  have h':=h
  rw[ht]at h'
  have g1:=dh h'
  have g2:=dk h'.step nt (by decide)
  have g3:=dh h'.step.step
  obtain⟨line,g4⟩:=EP h'.step.step.step
  simp only[nT]at g4
  have e1:((((va.map Sc.i)++[Sc.i v]).length:Nat):Int)<=17592186044416:=by simp at ha⊢;omega
  have e2:((((wb.map Sc.i)++[Sc.i w]).length:Nat):Int)<=17592186044416:=by simp at hb⊢;omega
  have ih:=akc vs ws v2 w2 k (p+1+1+1) (va++[v]) (wb++[w]) u x r (by simpa using hl) (by simp at hk;omega) (by simp at ha⊢;omega) (by simp at hb⊢;omega) h.step.step.step hu
  have f1:Sc.l ((va.map Sc.i)++[Sc.i v])=bY (va++[v]):=by simp[bY]
  have f2:Sc.l ((wb.map Sc.i)++[Sc.i w])=bY (wb++[w]):=by simp[bY]
  rw[sw]
  simp only[iL,oW,oV,oG,g1,g2,g3,g4,f1,f2,ih,av,Nat.reduceAdd]
  rw[amb v w]
  simp
  omega
 |[],_::_,_,_,_,_,_,_,_,_,_,hl,_,_,_,_,_=>by simp at hl
 |_::_,[],_,_,_,_,_,_,_,_,_,hl,_,_,_,_,_=>by simp at hl
theorem ahQ {d:oO} (hd:d.ok){p:Nat}{u x:ff}{r:ba} (h:cF L p (d.tk++u::x::r)) (hu:u.kind≠2):eO.F [TK L,.i (p:Int)]=some [.i d.op,.i d.a,.i d.b,.i d.n,bY d.vs,bY d.ws,.i ((p+d.tk.length:Nat):Int)]:=by
 obtain⟨h0,_⟩:=hd
 obtain⟨op,a,b,n,vs,ws⟩:=d
 unfold oO.ok0 at h0
 unfold oO.tk at h⊢
 simp only at h0 h⊢
 have en:([]:uD).map Sc.i=[]:=rfl
 rw[O3]
 rcases h0 with⟨rfl,rfl,rfl,rfl,rfl,ha⟩|⟨rfl,rfl,rfl,rfl,ha,hb,-⟩|⟨rfl,rfl,rfl,rfl,ha,hb⟩|⟨rfl,rfl,rfl,hn,ha,hb,-⟩|⟨rfl,rfl,rfl,rfl,hl,h1,h2,hv,hw⟩
 ·simp only[reduceEq,if_true,if_false,cons_append,nil_append,length_cons,length_nil]at h⊢
  have g:=me h [RX,Oy,JI,Ld,Ov] (by simp) (by decide)
  rw[show cN (fun w:Bs=>(wT RX).is w) [RX,Oy,JI,Ld,Ov]=0 from by decide]at g
  simp only[am,map_cons,map_nil]at g
  have g1:=dh h.step
  simp only[fe,iB,lm,g,g1,av,Nat.reduceAdd,reduceEq]
  simp only[bY,map_nil,Nat.add_assoc,Nat.reduceAdd]
 ·simp only[reduceEq,if_true,if_false,cons_append,nil_append,length_cons,length_nil]at h⊢
  have g:=me h [RX,Oy,JI,Ld,Ov] (by simp) (by decide)
  rw[show cN (fun w:Bs=>(wT Oy).is w) [RX,Oy,JI,Ld,Ov]=1 from by decide]at g
  simp only[am,map_cons,map_nil]at g
  have g1:=dh h.step
  have g2:=dh h.step.step
  simp only[fe,iB,lm,g,g1,g2,av,Nat.reduceAdd,reduceEq]
  simp only[bY,map_nil,Nat.add_assoc,Nat.reduceAdd]
 ·simp only[reduceEq,if_true,if_false,cons_append,nil_append,length_cons,length_nil]at h⊢
  have g:=me h [RX,Oy,JI,Ld,Ov] (by simp) (by decide)
  rw[show cN (fun w:Bs=>(wT Ov).is w) [RX,Oy,JI,Ld,Ov]=4 from by decide]at g
  simp only[am,map_cons,map_nil]at g
  have g1:=dh h.step
  have g2:=dh h.step.step
  simp only[fe,iB,lm,g,g1,g2,av,Nat.reduceAdd,reduceEq]
  simp only[bY,map_nil,Nat.add_assoc,Nat.reduceAdd]
 ·simp only[reduceEq,if_true,if_false,cons_append,nil_append,length_cons,length_nil]at h⊢
  have g:=me h [RX,Oy,JI,Ld,Ov] (by simp) (by decide)
  rw[show cN (fun w:Bs=>(wT Ld).is w) [RX,Oy,JI,Ld,Ov]=3 from by decide]at g
  simp only[am,map_cons,map_nil]at g
  have g1:=dh h.step
  have g2:=dh h.step.step
  have g3:=dh h.step.step.step
  simp only[fe,iB,lm,g,g1,g2,g3,av,Nat.reduceAdd,reduceEq]
  simp only[bY,map_nil,Nat.add_assoc,Nat.reduceAdd]
 ·simp only[reduceEq,if_false,cons_append,length_cons]at h⊢
  obtain⟨v,vs,rfl⟩:∃v q,vs=v::q:=by
   cases vs with
   |nil=>simp at h1
   |cons v q=>exact⟨v,q,rfl⟩
  obtain⟨w,ws,rfl⟩:∃v q,ws=v::q:=by
   cases ws with
   |nil=>simp at hl
   |cons v q=>exact⟨v,q,rfl⟩
  have g:=me (u:=nT v) (r:=sT nt::nT w::Mx vs ws++u::x::r) h [RX,Oy,JI,Ld,Ov] (by simp) (by decide)
  rw[show cN (fun w:Bs=>(wT JI).is w) [RX,Oy,JI,Ld,Ov]=2 from by decide]at g
  simp only[am,map_cons,map_nil]at g
  have hp:=akc (L:=L) vs ws v w (aF+1) (p+1) [] [] u x r (by simpa using hl) (by simp at h2;unfold aF;omega) (by simp at h2⊢;omega) (by simp at h2 hl⊢;omega) h.step hu
  rw[<-DS]at hp
  have e0:bY []= .l []:=rfl
  simp only[e0,nil_append]at hp
  simp only[fe,iB,BX,g,hp,av,Nat.reduceAdd,reduceEq]
  simp[Nat.add_assoc,Nat.add_comm]
theorem vT (a:ba) (b:ba) (r:List ba):bV (a::b::r)=a++sT rf::bV (b::r):=rfl
theorem ajE (hC:xi L){l:i7} (hl:∀x∈l,x.ok/\x.sz<=60) (hn:l.length<=6){p:Nat}{u x:ff}{r:ba} (h:cF L p (WM l++u::x::r)):mZ.F [TK L,.i (p:Int)]=some [ae aj.cs l,.i ((p+(WM l).length:Nat):Int)]:=by
 have hw:wd []=([]:Bs):=rfl
 rw[Ng]
 unfold WM at h⊢
 cases l with
 |nil=>
  have h:cF L p (sT cI::sT cj::u::x::r):=by simpa[bV]using h
  have g1:=dk h cI (by decide)
  have g2:=cS h.step cj
  rw[show(sT cj).is cj=true from by decide]at g2
  simp only[mu,wH,wI,g1,g2,av,Nat.reduceAdd]
  simp[ae,bV]
  omega
 |cons a l=>
  have ha:=hl a (by simp)
  obtain⟨t1,q1,HT,hf1⟩:=y9 ha.1
  have h':cF L p (sT cI::(bV ((a::l).map aj.tk)++sT cj::u::x::r)):=by simpa using h
  obtain⟨q2,hq2⟩:∃q2,bV ((a::l).map aj.tk)=t1::q2:=by
   cases l with
   |nil=>exact⟨q1,by simp[bV,HT]⟩
   |cons b l=>exact⟨_,by simp only[map_cons,vT,HT,cons_append];rfl⟩
  have h1:=h'
  rw[hq2]at h1
  have g1:=dk h1 cI (by decide)
  have g2:=dj h1.step cj (by
   rcases hf1 with⟨m,rfl⟩|⟨w,rfl,hw⟩|rfl|rfl
   ·exact aiq _ _
   ·rw[pX];exact decide_eq_false fun e=>by rw[e]at hw;revert hw;decide
   ·decide
   ·decide)
  have behind:∀(b:aj) (m:i7),∃c v q,bV ((b::m).map aj.tk)++sT cj::u::x::r=b.tk++c::v::q/\stops 1 c/\((m=[]/\c=sT cj/\v=u/\q=x::r)\/(∃b2 m2,m=b2::m2/\c=sT rf/\v::q=bV (m.map aj.tk)++sT cj::u::x::r)):=by
   intro b m
   cases m with
   |nil=>exact⟨_,_,_,by simp[bV],OW 1,.inl ⟨rfl,rfl,rfl,rfl⟩⟩
   |cons b2 m2=>
    obtain⟨v,q,hv⟩:∃v q,bV ((b2::m2).map aj.tk)++sT cj::u::x::r=v::q:=by
     cases hc:bV ((b2::m2).map aj.tk)with
     |nil=>exact⟨_,_,rfl⟩
     |cons y z=>exact⟨_,_,rfl⟩
    refine⟨sT rf,v,q,?_,Xm 1,.inr ⟨b2,m2,rfl,rfl,hv.symm⟩⟩
    rw[<-hv]
    simp only[map_cons,vT,append_assoc,cons_append]
  obtain⟨c,v,q,hb1,Rr,hb3⟩:=behind a l
  have h2:=h'.step
  rw[hb1]at h2
  have g3:=Ay hC ha.1 ha.2 h2 Rr
  have e1:((([]++[Sc.l [Sc.i 0,Sc.s (bs []),Sc.i 0,Sc.l []]]:aP).length:Nat):Int)<=2513169434916:=by decide
  have e2:(0:Int)<((([]++[Sc.l [Sc.i 0,Sc.s (bs []),Sc.i 0,Sc.l []]]:aP).length:Nat):Int):=by decide
  have ec:∀b:aj,Sc.l [Sc.i b.op,Sc.s (bs b.nm),Sc.i b.n,ae aj.cs b.ks]=Sc.l b.cs:=fun b=>by rw[aj.aA]
  simp only[mu,wH,wI,GW,g1,g2,g3,hw,length_cons,length_nil,Ur,toNat_zero,set_cons_zero,ec,av,Nat.reduceAdd]
  have key:∀(m:i7) (done:i7) (b:aj) (k p':Nat),a::l=done++b::m->m.length<=k->
   ∀g:fF->fF,
   (∀(d:i7) (b2:aj) (m2:i7) (pp:Nat) (rec:fF),(a::l=d++b2::m2)->d.length<=6->cF L pp (sT rf::(bV ((b2::m2).map aj.tk)++sT cj::u::x::r))->g rec [.i (pp:Int),ae aj.cs d]=rec [.i ((pp+1+b2.tk.length:Nat):Int),ae aj.cs (d++[b2])])->
   (∀(d:i7) (pp:Nat) (rec:fF),cF L pp (sT cj::u::x::r)->g rec [.i (pp:Int),ae aj.cs d]=some [ae aj.cs d,.i ((pp+1:Nat):Int)])->
   cF L p' (bV ((b::m).map aj.tk)++sT cj::u::x::r)->
   dz g (k+1) [.i ((p'+b.tk.length:Nat):Int),ae aj.cs (done++[b])]=some [ae aj.cs (a::l),.i ((p'+(bV ((b::m).map aj.tk)).length+1:Nat):Int)]:=by
   intro m
   induction m with
   |nil=>
    intro done b k p' hd hk g gs ge hx
    have hx':cF L p' (b.tk++sT cj::u::x::r):=by simpa[bV]using hx
    rw[bO,ge _ _ _ hx'.app,<-hd]
    simp[bV]
   |cons b2 m ih=>
    intro done b k p' hd hk g gs ge hx
    obtain⟨k,rfl⟩:∃j,k=j+1:=⟨k-1,by simp at hk;omega⟩
    have hx':cF L p' (b.tk++sT rf::(bV ((b2::m).map aj.tk)++sT cj::u::x::r)):=by
     simpa only[map_cons,vT,append_assoc,cons_append]using hx
    have hd':a::l=(done++[b])++b2::m:=by rw[hd];simp
    have hdl:(done++[b]).length<=6:=by
     have:=congrArg List.length hd'
     simp only[length_append,length_cons]at this hn⊢
     omega
    rw[bO,gs (done++[b]) b2 m _ _ hd' hdl hx'.app]
    have:=ih (done++[b]) b2 k (p'+b.tk.length+1) hd' (by simpa using hk) g gs ge hx'.app.step
    rw[this]
    refine congrArg (fun z:Nat=>some [ae aj.cs (a::l),Sc.i (z:Int)]) ?_
    simp only[map_cons,vT,length_append,length_cons]
    omega
  obtain⟨k,hk⟩:∃k,aF=(k+l.length)+1:=⟨aF-l.length-1,by simp at hn;unfold aF;omega⟩
  have st:[Sc.i ((p+1+a.tk.length:Nat):Int),Sc.l [Sc.l a.cs]]=[Sc.i ((p+1+a.tk.length:Nat):Int),ae aj.cs ([]++[a])]:=rfl
  rw[hk,st]
  rw[key l [] a (k+l.length) (p+1) rfl (by omega) _ ?_ ?_ h'.step]
  ·refine congrArg (fun z:Nat=>some [ae aj.cs (a::l),Sc.i (z:Int)]) ?_
   simp only[length_cons,length_append,length_nil,map_cons]
   omega
  ·intro d b2 m2 pp rec hd hdl hx
   have hb:=hl b2 (by rw[hd];simp)
   obtain⟨tt,tq,htt,_⟩:=y9 hb.1
   obtain⟨c2,v2,r2,hc1,hc2,_⟩:=behind b2 m2
   have hx2:=hx
   rw[hc1,htt]at hx2
   have f1:=cS hx2 rf
   rw[show(sT rf).is rf=true from by decide]at f1
   have hx3:=hx.step
   rw[hc1]at hx3
   have f2:=Ay hC hb.1 hb.2 hx3 hc2
   have q1:((((d.map fun x=>Sc.l x.cs)++[Sc.l [Sc.i 0,Sc.s (bs []),Sc.i 0,Sc.l []]]).length:Nat):Int)<=2513169434916:=by simp;omega
   have q2:(d.length:Int)<((((d.map fun x=>Sc.l x.cs)++[Sc.l [Sc.i 0,Sc.s (bs []),Sc.i 0,Sc.l []]]).length:Nat):Int):=by simp;omega
   have q3:((d.map fun x=>Sc.l x.cs)++[Sc.l [Sc.i 0,Sc.s (bs []),Sc.i 0,Sc.l []]]).set d.length (Sc.l b2.cs)=(d++[b2]).map fun x=>Sc.l x.cs:=by
    have:d.length=(d.map fun x=>Sc.l x.cs).length:=by simp
    rw[this,set_append_right _ _ (Nat.le_refl _)]
    simp
   simp only[f1,f2,q1,q2,ec,q3,av,Nat.reduceAdd]
   rfl
  ·intro d pp rec hx
   have f1:=cS hx rf
   rw[show(sT cj).is rf=false from by decide]at f1
   have f2:=dk hx cj (by decide)
   simp only[f1,f2,av,Nat.reduceAdd]
end
end
section
section
variable {L:pO}
theorem exz:aj.zero.op=0/\aj.zero.nm=[]/\aj.zero.n=0/\ae aj.cs aj.zero.ks= .l []:=⟨rfl,rfl,rfl,rfl⟩
theorem diz:oO.zero.op=0/\oO.zero.a=0/\oO.zero.b=0/\oO.zero.n=0/\bY oO.zero.vs= .l []/\bY oO.zero.ws= .l []:=⟨rfl,rfl,rfl,rfl,rfl,rfl⟩
theorem kF {α:Type} (f:α->aP):ae f []= .l []:=rfl
def noS (p:Nat):aP:=[.i 0,.s (bs []),.s (bs []),.i 0,.s (bs []),.i 0,.l [],.i 0,.s (bs []),.i 0,.l [],.l [],.i 0,.i 0,.i 0,.i 0,.l [],.l [],.b false,.l [],.l [],.b false,.i (p:Int)]
theorem xO {p:Nat}{t:ff}{r:ba} (h:cF L p (t::r)) (hn:∀v∈[aqD,aqv,aqx,amf,amg,aqF],t.is v=false):fC.F [TK L,.i (p:Int)]=some (noS p):=by
 have hw:wd []=([]:Bs):=rfl
 simp only[forall_mem_cons]at hn
 obtain⟨n1,n2,n3,n4,n5,n6,_⟩:=hn
 have g1:=dj h _ n1
 have g2:=dj h _ n2
 have g3:=dj h _ n3
 have g4:=dj h _ n4
 have g5:=dj h _ n5
 have g6:=dj h _ n6
 rw[fB]
 unfold noS
 simp only[dy,d9,g1,g2,g3,g4,g5,g6,hw,av,Nat.reduceAdd]
theorem axz {p:Nat}{t:ff}{r:ba} (h:cF L p (t::r)) (hn:∀v∈[acj,aqB,aqA,aqw,aqC,aqG,aqE,aqz,La,aqu],t.is v=false):jn.F [TK L,.i (p:Int)]=some (noS p):=by
 have hw:wd []=([]:Bs):=rfl
 simp only[forall_mem_cons]at hn
 obtain⟨n1,n2,n3,n4,n5,n6,n7,n8,n9,n10,_⟩:=hn
 have g1:=dj h _ n1
 have g2:=dj h _ n2
 have g3:=dj h _ n3
 have g4:=dj h _ n4
 have g5:=dj h _ n5
 have g6:=dj h _ n6
 have g7:=dj h _ n7
 have g8:=dj h _ n8
 have g9:=dj h _ n9
 have g10:=dj h _ n10
 rw[cR]
 unfold noS
 simp only[bX,ci,g1,g2,g3,g4,g5,g6,g7,g8,g9,g10,hw,av,Nat.reduceAdd]
theorem acQ {k p:Nat}{t:ff}{r:ba} (h:cF L p (t::r)) (n1:t.is MA=false) (n2:t.is Wx=false):bB (k+1) 282 [TK L,.i (p:Int)]=some (noS p):=by
 have hw:wd []=([]:Bs):=rfl
 have g1:=dj h _ n1
 have g2:=dj h _ n2
 rw[xQ]
 unfold noS
 simp only[fq,jI,g1,g2,hw,av,Nat.reduceAdd]
theorem ON (hC:xi L){e:aj} (he:e.ok) (hs:e.sz<=60){w:Bs} (hw:Name w){op:Int}{p:Nat}{u v:ff}{r:ba} (h:cF L p (wT w::(e.tk++u::v::r))) (hu:stops 1 u):m5.F [TK L,.i (p:Int),.i op]=some [.i op,.s (bs w),.s (bs []),.i e.op,.s (bs e.nm),.i e.n,ae aj.cs e.ks,.i 0,.s (bs []),.i 0,.l [],.l [],.i 0,.i 0,.i 0,.i 0,.l [],.l [],.b false,.l [],.l [],.i ((p+1+e.tk.length:Nat):Int)]:=by
 have FE:wd []=([]:Bs):=rfl
 obtain⟨t1,q1,HT,_⟩:=y9 he
 have h1:=h
 rw[HT]at h1
 have g1:=ei hw h1
 have g2:=Ay hC he hs h.step hu
 rw[Nj]
 simp only[qW,IR,GZ,g1,g2,FE,av,Nat.reduceAdd]
theorem asF (hC:xi L) (x:ax) (hx:x.okN) (h3:x.op≠3) (h4:x.op≠4){p:Nat}{v:ff}{r:ba} (h:cF L p (stT x.op x.nm x.pm x.e x.f x.args x.d x.flag++dS::v::r)):
 (fC.F [TK L,.i (p:Int)]=some (x.cs++[.b true,.i ((p+(stT x.op x.nm x.pm x.e x.f x.args x.d x.flag).length:Nat):Int)]))\/
 (fC.F [TK L,.i (p:Int)]=some (noS p)/\jn.F [TK L,.i (p:Int)]=some (x.cs++[.b true,.i ((p+(stT x.op x.nm x.pm x.e x.f x.args x.d x.flag).length:Nat):Int)])):=by
 obtain⟨u,hu,hf,p1,p2,p3,p4,p5,p6,p7⟩:=hx
 have hr:=xd hu
 have FE:wd []=([]:Bs):=rfl
 obtain⟨z1,z2,z3,z4⟩:=exz
 obtain⟨y1,y2,y3,y4,y5,y6⟩:=diz
 rw[ax.aA]
 unfold ax.form at hf
 generalize x.op=op at*
 generalize x.nm=nm at*
 generalize x.pm=pm at*
 generalize x.e=e at*
 generalize x.f=f at*
 generalize x.args=args at*
 generalize x.d=d at*
 generalize x.flag=flag at*
 generalize x.body=body at*
 generalize x.fG=fG at*
 have Gg:=aaJ 1
 rcases(by omega:op=1\/op=2\/op=5\/op=6\/op=7\/op=8\/op=9\/op=10\/op=11\/op=12\/op=13\/op=14\/op=15\/op=16\/op=17\/op=18)with rfl|rfl|rfl|rfl|rfl|rfl|rfl|rfl|rfl|rfl|rfl|rfl|rfl|rfl|rfl|rfl
 all_goals simp only[Dr,reduceEq,if_true,if_false,Option.some.injEq]at hu
 all_goals subst hu
 all_goals simp only[Bool.false_eq_true,false_or,true_or,true_and]at hf
 all_goals simp only[stT,reduceEq,if_true,if_false,cons_append,nil_append,append_assoc]at h⊢
 ·obtain⟨f1,f2,f3,f4,f5,f6,f7⟩:=hf
  subst f1 f2 f3 f4 f5 f6 f7
  obtain⟨t1,q1,HT,_⟩:=y9 (p3 rfl).1
  have h1:=h
  rw[HT]at h1
  simp only[cons_append]at h1
  have g1:=ei (p1 rfl) h1.step
  have g2:=dk h1.step.step UA (by decide)
  have g3:=Ay hC (p3 rfl).1 (p3 rfl).2 h.step.step.step Gg
  refine .inl ?_
  have g:=fun v=>cS h1 v
  rw[fB]
  simp only[dy,d9,g,lr,lp,ki,g1,g2,g3,FE,map_cons,map_nil,pX,av,Nat.reduceAdd]
  simp only[z1,z2,z3,z4,y1,y2,y3,y4,y5,y6,kF,Option.some.injEq,List.cons.injEq,Sc.i.injEq,true_and,and_true]
  try omega
 ·obtain⟨f1,f2,f3,f4,f5,f6⟩:=hf
  subst f1 f2 f3 f4 f5 f6
  obtain⟨t1,q1,HT⟩:∃t q,d.tk=t::q:=by
   have:=(Zs d (p7 rfl)).2.1
   cases hc:d.tk with
   |nil=>exact absurd hc this
   |cons a b=>exact⟨a,b,rfl⟩
  have h1:=h
  rw[HT]at h1
  simp only[cons_append]at h1
  have g1:=ei (p1 rfl) h1.step
  have g2:=dk h1.step.step ahg (by decide)
  have g3:=ei (p2 rfl) h1.step.step.step
  have g4:=ahQ (p7 rfl) h.step.step.step.step (by decide)
  refine .inl ?_
  have g:=fun v=>cS h1 v
  rw[fB]
  simp only[dy,d9,g,lr,lp,IA,g1,g2,g3,g4,FE,fZ,map_cons,map_nil,Nat.reduceMod,List.cons.injEq,reduceEqDiff,reduceCtorEq,and_self,pX,av,Nat.reduceAdd,reduceEqDiff,reduceCtorEq]
  simp only[z1,z2,z3,z4,kF,Option.some.injEq,List.cons.injEq,Sc.i.injEq,true_and,and_true]
  try omega
 ·obtain⟨f1,f2,f3,f4,f5,f6,f7,f8⟩:=hf
  subst f1 f2 f3 f4 f5 f6 f7 f8
  obtain⟨t1,q1,HT,_⟩:=y9 (p3 rfl).1
  have h1:=h
  rw[HT]at h1
  simp only[cons_append]at h1
  have g3:=Ay hC (p3 rfl).1 (p3 rfl).2 h.step Gg
  refine .inl ?_
  have g:=fun v=>cS h1 v
  rw[fB]
  simp only[dy,d9,g,ki,g3,FE,fZ,map_cons,map_nil,Nat.reduceMod,List.cons.injEq,reduceEqDiff,reduceCtorEq,and_true,and_self,pX,av,Nat.reduceAdd,reduceEqDiff,reduceCtorEq]
  simp only[z1,z2,z3,z4,y1,y2,y3,y4,y5,y6,kF,Option.some.injEq,List.cons.injEq,Sc.i.injEq,true_and,and_true]
  try omega
 ·obtain⟨f1,f2,f3,f4,f5⟩:=hf
  subst f1 f2 f3 f4 f5
  obtain⟨t1,q1,HT,_⟩:=y9 (p4 rfl).1
  have h1:=h
  have sp:stops 1 (wT aa5):=by
   refine⟨fun _=> ?_,fun _=> ?_,fun _=> ?_,fun _=> ?_,fun _=> ?_⟩<;>decide
  have ab3:∀b:Bool,b=flag->cF L p (wT acj::wT nm::(e.tk++wT aa5::(f.tk++((if b=true then[wT UC]else[])++dS::v::r)))):=fun b hb=>by subst hb;exact h
  have h2:cF L (p+1) (wT nm::(e.tk++wT aa5::t1::(q1++((if flag=true then[wT UC]else[])++dS::v::r)))):=by have:=h.step;rw[HT]at this;exact this
  have g1:=ON hC (p3 rfl).1 (p3 rfl).2 (p1 rfl) (op:=6) h2 sp
  have h5:=h2.step.app
  have g2:=dk h5 aa5 (by decide)
  have h6:cF L (p+1+1+e.tk.length+1) (f.tk++((if flag=true then[wT UC]else[])++dS::v::r)):=by have:=h5.step;rw[HT];exact this
  have g34:∃c,c=flag/\bK.F [TK L,.i ((p+1+1+e.tk.length+1:Nat):Int)]=some [.i f.op,.s (bs f.nm),.i f.n,ae aj.cs f.ks,.i ((p+1+1+e.tk.length+1+f.tk.length:Nat):Int)]/\aw.F [TK L,.i ((p+1+1+e.tk.length+1+f.tk.length:Nat):Int),.s (bs UC)]=some [.b c,.i (if c=true then((p+1+1+e.tk.length+1+f.tk.length+1:Nat):Int)else((p+1+1+e.tk.length+1+f.tk.length:Nat):Int))]:=by
   cases flag
   ·have h7:cF L (p+1+1+e.tk.length+1) (f.tk++dS::v::r):=h6
    exact⟨false,rfl,Ay hC (p4 rfl).1 (p4 rfl).2 h7 Gg,cS h7.app UC⟩
   ·have h7:cF L (p+1+1+e.tk.length+1) (f.tk++wT UC::dS::v::r):=h6
    have sp2:stops 1 (wT UC):=by
     refine⟨fun _=> ?_,fun _=> ?_,fun _=> ?_,fun _=> ?_,fun _=> ?_⟩<;>decide
    have:=cS h7.app UC
    rw[show(wT UC).is UC=true from by decide]at this
    exact⟨true,rfl,Ay hC (p4 rfl).1 (p4 rfl).2 h7 sp2,this⟩
  obtain⟨c,rfl,g3,g4⟩:=g34
  refine .inr ⟨xO h (by decide),?_⟩
  have g:=fun v=>cS h1 v
  rw[cR]
  simp only[bX,ci,g,fl,qL,xX,g1,g2,g3,g4,FE,map_cons,map_nil,pX,av,Nat.reduceAdd]
  cases c
  ·simp only[y1,y2,y3,y4,y5,y6,kF,Option.some.injEq,List.cons.injEq,Sc.i.injEq,true_and,and_true,length_cons,length_append,length_nil,Bool.false_eq_true,if_false]
   omega
  ·simp only[y1,y2,y3,y4,y5,y6,kF,Option.some.injEq,List.cons.injEq,Sc.i.injEq,true_and,and_true,length_cons,length_append,length_nil,if_true]
   omega
 ·obtain⟨f1,f2,f3,f4,f5,f6,f7⟩:=hf
  subst f1 f2 f3 f4 f5 f6 f7
  have h1:=h
  have g1:=ON hC (p3 rfl).1 (p3 rfl).2 (p1 rfl) (op:=7) h.step Gg
  refine .inr ⟨xO h (by decide),?_⟩
  have g:=fun v=>cS h1 v
  rw[cR]
  simp only[bX,ci,g,fl,g1,FE,fZ,map_cons,map_nil,Nat.reduceMod,List.cons.injEq,reduceEqDiff,reduceCtorEq,and_false,and_self,pX,av,Nat.reduceAdd,reduceEqDiff,reduceCtorEq]
  simp only[z1,z2,z3,z4,y1,y2,y3,y4,y5,y6,kF,Option.some.injEq,List.cons.injEq,Sc.i.injEq,true_and,and_true]
  try omega
 ·obtain⟨f1,f2,f3,f4,f5,f6,f7⟩:=hf
  subst f1 f2 f3 f4 f5 f6 f7
  obtain⟨t1,q1,HT,_⟩:=y9 (p3 rfl).1
  have h1:=h
  rw[HT]at h1
  simp only[cons_append]at h1
  have sp:stops 1 (wT aqy):=by
   refine⟨fun _=> ?_,fun _=> ?_,fun _=> ?_,fun _=> ?_,fun _=> ?_⟩<;>decide
  have g1:=Ay hC (p3 rfl).1 (p3 rfl).2 h.step sp
  have h2:=h.step.app
  have g2:=dk h2 aqy (by decide)
  have g3:=ei (p1 rfl) h2.step
  refine .inr ⟨xO h (by decide),?_⟩
  have g:=fun v=>cS h1 v
  rw[cR]
  simp only[bX,ci,g,xX,qL,mh,g1,g2,g3,FE,fZ,map_cons,map_nil,Nat.reduceMod,List.cons.injEq,reduceEqDiff,reduceCtorEq,and_self,pX,av,Nat.reduceAdd,reduceEqDiff,reduceCtorEq]
  simp only[z1,z2,z3,z4,y1,y2,y3,y4,y5,y6,kF,Option.some.injEq,List.cons.injEq,Sc.i.injEq,true_and,and_true,length_cons,length_append,length_nil]
  try omega
 ·obtain⟨f1,f2,f3,f4,f5,f6,f7⟩:=hf
  subst f1 f2 f3 f4 f5 f6 f7
  have h1:=h
  have g1:=ei (p2 rfl) h.step
  have g2:=dk h.step.step ahg (by decide)
  have g3:=ei (p1 rfl) h.step.step.step
  refine .inr ⟨xO h (by decide),?_⟩
  have g:=fun v=>cS h1 v
  rw[cR]
  simp only[bX,ci,g,qL,mh,g1,g2,g3,FE,fZ,map_cons,map_nil,Nat.reduceMod,List.cons.injEq,reduceEqDiff,reduceCtorEq,and_true,and_false,and_self,pX,av,Nat.reduceAdd,reduceEqDiff,reduceCtorEq]
  simp only[z1,z2,z3,z4,y1,y2,y3,y4,y5,y6,kF]
  try omega
 ·obtain⟨f1,f2,f3,f4,f5,f6,f7,f8⟩:=hf
  subst f1 f2 f3 f4 f5 f6 f7 f8
  have h1:=h
  have g1:=ei (p1 rfl) h.step
  refine .inr ⟨xO h (by decide),?_⟩
  have g:=fun v=>cS h1 v
  rw[cR]
  simp only[bX,ci,g,mh,g1,FE,fZ,map_cons,map_nil,Nat.reduceMod,List.cons.injEq,reduceEqDiff,reduceCtorEq,and_false,and_self,pX,av,Nat.reduceAdd,reduceEqDiff,reduceCtorEq]
  simp only[z1,z2,z3,z4,y1,y2,y3,y4,y5,y6,kF]
  try omega
 ·obtain⟨f1,f2,f3,f4,f5,f6,f7,f8⟩:=hf
  subst f1 f2 f3 f4 f5 f6 f7 f8
  have h1:=h
  have g1:=ei (p1 rfl) h.step
  refine .inr ⟨xO h (by decide),?_⟩
  have g:=fun v=>cS h1 v
  rw[cR]
  simp only[bX,ci,g,mh,g1,FE,fZ,map_cons,map_nil,Nat.reduceMod,List.cons.injEq,reduceEqDiff,reduceCtorEq,and_true,and_false,and_self,pX,av,Nat.reduceAdd,reduceEqDiff,reduceCtorEq]
  simp only[z1,z2,z3,z4,y1,y2,y3,y4,y5,y6,kF]
  try omega
 ·obtain⟨f1,f2,f3,f4,f5,f6,f7⟩:=hf
  subst f1 f2 f3 f4 f5 f6 f7
  have h1:=h
  have g1:=ON hC (p3 rfl).1 (p3 rfl).2 (p1 rfl) (op:=12) h.step Gg
  refine .inr ⟨xO h (by decide),?_⟩
  have g:=fun v=>cS h1 v
  rw[cR]
  simp only[bX,ci,g,fl,g1,FE,fZ,map_cons,map_nil,Nat.reduceMod,List.cons.injEq,reduceEqDiff,reduceCtorEq,and_false,and_self,pX,av,Nat.reduceAdd,reduceEqDiff,reduceCtorEq]
  simp only[z1,z2,z3,z4,y1,y2,y3,y4,y5,y6,kF,Option.some.injEq,List.cons.injEq,Sc.i.injEq,true_and,and_true]
  try omega
 ·obtain⟨f1,f2,f3,f4,f5⟩:=hf
  subst f1 f2 f3 f4 f5
  obtain⟨t1,q1,HT,_⟩:=y9 (p3 rfl).1
  have ha:∃t q,WM args=t::q:=⟨_,_,rfl⟩
  obtain⟨ta,qa,hta⟩:=ha
  have h1:=h
  have h2:=h
  rw[hta]at h2
  simp only[cons_append]at h2
  have g1:=ei (p2 rfl) h2.step
  have g2:=dk h2.step.step ack (by decide)
  have g3:=ei (p1 rfl) h2.step.step.step
  have h3:=h.step.step.step.step
  rw[HT]at h3
  have g4:=ajE hC p6 p5 h3
  have h4:=h3.app
  have g5:=dk h4 ach (by decide)
  have h5:=h4.step
  rw[<-HT]at h5
  have g6:=Ay hC (p3 rfl).1 (p3 rfl).2 h5 Gg
  refine .inl ?_
  have g:=fun v=>cS h1 v
  rw[fB]
  simp only[dy,d9,g,lr,lp,wJ,ki,g1,g2,g3,g4,g5,g6,FE,fZ,map_cons,map_nil,Nat.reduceMod,List.cons.injEq,reduceEqDiff,reduceCtorEq,and_true,and_false,and_self,pX,av,Nat.reduceAdd,reduceEqDiff,reduceCtorEq]
  simp only[z1,z2,z3,z4,y1,y2,y3,y4,y5,y6,kF,Option.some.injEq,List.cons.injEq,Sc.i.injEq,true_and,and_true,length_cons,length_append]
  try omega
 ·obtain⟨f1,f2,f3,f4,f5,f6⟩:=hf
  subst f1 f2 f3 f4 f5 f6
  obtain⟨t1,q1,HT,_⟩:=y9 (p3 rfl).1
  have ha:∃t q,WM args=t::q:=⟨_,_,rfl⟩
  obtain⟨ta,qa,hta⟩:=ha
  have h1:=h
  have h2:=h
  rw[hta]at h2
  simp only[cons_append]at h2
  have g1:=ei (p1 rfl) h2.step
  have h3:=h.step.step
  rw[HT]at h3
  have g4:=ajE hC p6 p5 h3
  have h4:=h3.app
  have g5:=dk h4 ach (by decide)
  have h5:=h4.step
  rw[<-HT]at h5
  have g6:=Ay hC (p3 rfl).1 (p3 rfl).2 h5 Gg
  refine .inl ?_
  have g:=fun v=>cS h1 v
  rw[fB]
  simp only[dy,d9,g,lr,lp,wJ,ki,g1,g4,g5,g6,FE,fZ,map_cons,map_nil,Nat.reduceMod,List.cons.injEq,reduceEqDiff,reduceCtorEq,and_false,and_self,pX,av,Nat.reduceAdd,reduceEqDiff,reduceCtorEq]
  simp only[z1,z2,z3,z4,y1,y2,y3,y4,y5,y6,kF,Option.some.injEq,List.cons.injEq,Sc.i.injEq,true_and,and_true,length_cons,length_append]
  try omega
 ·obtain⟨f1,f2,f3,f4,f5,f6,f7⟩:=hf
  subst f1 f2 f3 f4 f5 f6 f7
  have h1:=h
  have g1:=ON hC (p3 rfl).1 (p3 rfl).2 (p1 rfl) (op:=15) h.step Gg
  refine .inr ⟨xO h (by decide),?_⟩
  have g:=fun v=>cS h1 v
  rw[cR]
  simp only[bX,ci,g,fl,g1,FE,fZ,map_cons,map_nil,Nat.reduceMod,List.cons.injEq,reduceEqDiff,reduceCtorEq,and_true,and_false,and_self,pX,av,Nat.reduceAdd,reduceEqDiff,reduceCtorEq]
  simp only[z1,z2,z3,z4,y1,y2,y3,y4,y5,y6,kF,Option.some.injEq,List.cons.injEq,Sc.i.injEq,true_and,and_true]
  try omega
 ·obtain⟨f1,f2,f3,f4,f5,f6,f7⟩:=hf
  subst f1 f2 f3 f4 f5 f6 f7
  have h1:=h
  have g1:=ON hC (p3 rfl).1 (p3 rfl).2 (p1 rfl) (op:=16) h.step Gg
  refine .inr ⟨xO h (by decide),?_⟩
  have g:=fun v=>cS h1 v
  rw[cR]
  simp only[bX,ci,g,fl,g1,FE,fZ,map_cons,map_nil,Nat.reduceMod,List.cons.injEq,reduceEqDiff,reduceCtorEq,and_true,and_false,and_self,pX,av,Nat.reduceAdd,reduceEqDiff,reduceCtorEq]
  simp only[z1,z2,z3,z4,y1,y2,y3,y4,y5,y6,kF,Option.some.injEq,List.cons.injEq,Sc.i.injEq,true_and,and_true]
  try omega
 ·obtain⟨f1,f2,f3,f4,f5,f6,f7⟩:=hf
  subst f1 f2 f3 f4 f5 f6 f7
  have h1:=h
  have g1:=ON hC (p3 rfl).1 (p3 rfl).2 (p1 rfl) (op:=17) h.step Gg
  refine .inr ⟨xO h (by decide),?_⟩
  have g:=fun v=>cS h1 v
  rw[cR]
  simp only[bX,ci,g,fl,g1,FE,fZ,map_cons,map_nil,Nat.reduceMod,List.cons.injEq,reduceEqDiff,reduceCtorEq,and_true,and_false,and_self,pX,av,Nat.reduceAdd,reduceEqDiff,reduceCtorEq]
  simp only[z1,z2,z3,z4,y1,y2,y3,y4,y5,y6,kF,Option.some.injEq,List.cons.injEq,Sc.i.injEq,true_and,and_true]
  try omega
 ·obtain⟨f1,f2,f3,f4,f5,f6,f7,f8,f9⟩:=hf
  subst f1 f2 f3 f4 f5 f6 f7 f8 f9
  have h1:=h
  refine .inl ?_
  have g:=fun v=>cS h1 v
  rw[fB]
  simp only[dy,d9,g,FE,fZ,map_cons,map_nil,Nat.reduceMod,List.cons.injEq,reduceEqDiff,reduceCtorEq,and_true,and_false,and_self,pX,av,Nat.reduceAdd,reduceEqDiff,reduceCtorEq]
  simp only[z1,z2,z3,z4,y1,y2,y3,y4,y5,y6,kF]
  try omega
end
end
section
section
variable {L:pO}
def aqT (t:ff):Prop:=t=wT ep\/t=wT Ou
theorem aqT.no {t:ff} (h:aqT t):(∀v∈[aqD,aqv,aqx,amf,amg,aqF],t.is v=false)/\(∀v∈[acj,aqB,aqA,aqw,aqC,aqG,aqE,aqz,La,aqu],t.is v=false)/\t.is MA=false/\t.is Wx=false:=by
 rcases h with rfl|rfl<;>exact⟨by decide,by decide,by decide,by decide⟩
theorem alY (x:ax) (hx:x.okN) (h3:x.op≠3) (h4:x.op≠4):∃t q,stT x.op x.nm x.pm x.e x.f x.args x.d x.flag=t::q/\t.is MA=false/\t.is Wx=false:=by
 obtain⟨u,hu,_⟩:=hx
 have hr:=xd hu
 generalize x.op=op at*
 rcases(by omega:op=1\/op=2\/op=5\/op=6\/op=7\/op=8\/op=9\/op=10\/op=11\/op=12\/op=13\/op=14\/op=15\/op=16\/op=17\/op=18)with rfl|rfl|rfl|rfl|rfl|rfl|rfl|rfl|rfl|rfl|rfl|rfl|rfl|rfl|rfl|rfl
 all_goals simp only[stT,reduceEq,if_true,if_false]
 all_goals exact⟨_,_,rfl,by decide,by decide⟩
def SR (L:pO) (l:kb) (k:Nat):Prop:=∀(p:Nat) (t v:ff) (r:ba),aqT t->cF L p (ax.nJ l++t::v::r)->bB k 239 [TK L,.i (p:Int)]=some [ae ax.cs l,.i ((p+(ax.nJ l).length:Nat):Int)]
theorem aoX (hC:xi L) (x:ax) (hx:x.okN){k:Nat} (hb:SR L x.body k) (he:SR L x.fG k) (h34:x.op=3\/x.op=4){p:Nat}{v:ff}{r:ba} (h:cF L p (x.tk++v::r)):
 bB (k+1) 282 [TK L,.i (p:Int)]=some (x.cs++[.b true,.i ((p+x.tk.length-1:Nat):Int)])/\cF L (p+x.tk.length-1) (dS::v::r):=by
 have lY:∃q,x.tk=q++[dS]:=by
  rw[ax.QI]
  unfold aeU afp
  rcases h34 with h|h
  ·rw[if_pos h]
   cases x.fG.isEmpty
   ·exact⟨wT MA::(x.e.tk++dS::(ax.nJ x.body++wT Ou::dS::(ax.nJ x.fG++[wT ep]))),by simp⟩
   ·exact⟨wT MA::(x.e.tk++dS::(ax.nJ x.body++[wT ep])),by simp⟩
  ·rw[if_neg (by omega),if_pos h]
   cases x.fG.isEmpty
   ·exact⟨wT Wx::(x.e.tk++dS::(ax.nJ x.body++wT Ou::dS::(ax.nJ x.fG++[wT ep]))),by simp⟩
   ·exact⟨wT Wx::(x.e.tk++dS::(ax.nJ x.body++[wT ep])),by simp⟩
 obtain⟨q,hq⟩:=lY
 have jW:cF L (p+x.tk.length-1) (dS::v::r):=by
  rw[hq]at h⊢
  have h2:cF L p (q++dS::v::r):=by simpa using h
  have:=h2.app
  simpa using this
 refine⟨?_,jW⟩
 have FE:wd []=([]:Bs):=rfl
 obtain⟨z1,z2,z3,z4⟩:=exz
 obtain⟨y1,y2,y3,y4,y5,y6⟩:=diz
 obtain⟨u,hu,hf,p1,p2,p3,p4,p5,p6,p7⟩:=hx
 have hlen:x.tk.length=x.tk.length:=rfl
 rw[ax.QI]at h hlen⊢
 rw[ax.aA]
 unfold ax.form at hf
 generalize x.op=op at*
 generalize x.nm=nm at*
 generalize x.pm=pm at*
 generalize x.e=e at*
 generalize x.f=f at*
 generalize x.args=args at*
 generalize x.d=d at*
 generalize x.flag=flag at*
 generalize x.body=body at*
 generalize x.fG=fG at*
 have Gg:=aaJ 1
 rw[xQ]
 rcases h34 with rfl|rfl
 ·simp only[Dr,reduceEq,if_true,if_false,Option.some.injEq]at hu
  subst hu
  simp only[Bool.false_eq_true,false_or,true_or,true_and,and_true]at hf
  obtain⟨f1,f2,f3,f4,f5,f6⟩:=hf
  subst f1 f2 f3 f4 f5 f6
  obtain⟨t1,q1,HT,_⟩:=y9 (p3 rfl).1
  simp only[aeU,if_true,afp]at h⊢
  cases fG with
  |nil=>
   simp only[isEmpty_nil,if_true,cons_append,append_assoc,nil_append]at h⊢
   have h1:cF L p (wT MA::t1::(q1++dS::(ax.nJ body++wT ep::dS::v::r))):=by rw[HT]at h;exact h
   have g1:=cS h1 MA
   rw[show(wT MA).is MA=true from by decide]at g1
   obtain⟨tb,qb,htb⟩:∃t q,ax.nJ body++wT ep::dS::v::r=t::q:=by
    cases ax.nJ body with
    |nil=>exact⟨_,_,rfl⟩
    |cons a b=>exact⟨_,_,rfl⟩
   have h2:=h.step
   rw[htb]at h2
   have g2:=Ay hC (p3 rfl).1 (p3 rfl).2 h2 Gg
   have g3:=fJ h2.app
   have h3:=h2.app.step
   rw[<-htb]at h3
   have g4:=hb _ _ _ _ (.inl rfl) h3
   have g5:=cS h3.app Ou
   rw[show(wT ep).is Ou=false from by decide]at g5
   have g6:=dk h3.app ep (by decide)
   simp only[fq,jI,mL,eM,nC,g1,g2,g3,g4,g5,g6,FE,av,Nat.reduceAdd]
   simp only[z1,z2,z3,z4,y1,y2,y3,y4,y5,y6,kF,Option.some.injEq,List.cons.injEq,Sc.i.injEq,true_and,and_true,length_cons,length_append,length_nil]
   omega
  |cons s fG=>
   simp only[isEmpty_cons,Bool.false_eq_true,if_false,cons_append,append_assoc,nil_append]at h⊢
   have h1:cF L p (wT MA::t1::(q1++dS::(ax.nJ body++wT Ou::dS::(ax.nJ (s::fG)++wT ep::dS::v::r)))):=by rw[HT]at h;exact h
   have g1:=cS h1 MA
   rw[show(wT MA).is MA=true from by decide]at g1
   obtain⟨tb,qb,htb⟩:∃t q,ax.nJ body++wT Ou::dS::(ax.nJ (s::fG)++wT ep::dS::v::r)=t::q:=by
    cases ax.nJ body with
    |nil=>exact⟨_,_,rfl⟩
    |cons a b=>exact⟨_,_,rfl⟩
   obtain⟨tc,qc,htc⟩:∃t q,ax.nJ (s::fG)++wT ep::dS::v::r=t::q:=by
    cases ax.nJ (s::fG)with
    |nil=>exact⟨_,_,rfl⟩
    |cons a b=>exact⟨_,_,rfl⟩
   have h2:=h.step
   rw[htb]at h2
   have g2:=Ay hC (p3 rfl).1 (p3 rfl).2 h2 Gg
   have g3:=fJ h2.app
   have h3:=h2.app.step
   rw[<-htb]at h3
   have g4:=hb _ _ _ _ (.inr rfl) h3
   have h4:=h3.app
   have g5:=cS h4 Ou
   rw[show(wT Ou).is Ou=true from by decide]at g5
   have h5:=h4.step
   rw[htc]at h5
   have g6:=fJ h5
   have h6:=h5.step
   rw[<-htc]at h6
   have g7:=he _ _ _ _ (.inl rfl) h6
   have g8:=dk h6.app ep (by decide)
   simp only[fq,jI,mL,eM,nC,g1,g2,g3,g4,g5,g6,g7,g8,FE,av,Nat.reduceAdd]
   simp only[z1,z2,z3,z4,y1,y2,y3,y4,y5,y6,kF,Option.some.injEq,List.cons.injEq,Sc.i.injEq,true_and,and_true,length_cons,length_append,length_nil]
   omega
 ·simp only[Dr,reduceEq,if_true,if_false,Option.some.injEq]at hu
  subst hu
  simp only[Bool.false_eq_true,false_or,true_or,true_and]at hf
  obtain⟨f1,f2,f3,f4,f5,f6,f7⟩:=hf
  subst f1 f2 f3 f4 f5 f6 f7
  obtain⟨t1,q1,HT,_⟩:=y9 (p3 rfl).1
  simp only[aeU,reduceEq,if_true,if_false,afp,isEmpty_nil,cons_append,append_assoc,nil_append]at h⊢
  have h1:cF L p (wT Wx::t1::(q1++dS::(ax.nJ body++wT ep::dS::v::r))):=by rw[HT]at h;exact h
  have g0:=cS h1 MA
  rw[show(wT Wx).is MA=false from by decide]at g0
  have g1:=cS h1 Wx
  rw[show(wT Wx).is Wx=true from by decide]at g1
  obtain⟨tb,qb,htb⟩:∃t q,ax.nJ body++wT ep::dS::v::r=t::q:=by
   cases ax.nJ body with
   |nil=>exact⟨_,_,rfl⟩
   |cons a b=>exact⟨_,_,rfl⟩
  have h2:=h.step
  rw[htb]at h2
  have g2:=Ay hC (p3 rfl).1 (p3 rfl).2 h2 Gg
  have g3:=fJ h2.app
  have h3:=h2.app.step
  rw[<-htb]at h3
  have g4:=hb _ _ _ _ (.inl rfl) h3
  have g6:=dk h3.app ep (by decide)
  simp only[fq,jI,mL,eM,nC,g0,g1,g2,g3,g4,g6,FE,av,Nat.reduceAdd]
  simp only[z1,z2,z3,z4,y1,y2,y3,y4,y5,y6,kF,Option.some.injEq,List.cons.injEq,Sc.i.injEq,true_and,and_true,length_cons,length_append,length_nil]
  omega
theorem aqi {l:kb}{i:Nat}{x:ax} (h:l[i]? =some x):ax.nJ l=ax.nJ (l.take i)++(x.tk++ax.nJ (l.drop (i+1)))/\ax.nJ (l.take (i+1))=ax.nJ (l.take i)++x.tk:=by
 have app:∀a b:kb,ax.nJ (a++b)=ax.nJ a++ax.nJ b:=by
  intro a b
  induction a with
  |nil=>simp[ax.nJ]
  |cons y a ih=>simp[ax.nJ,ih]
 have e2:ax.nJ (l.take (i+1))=ax.nJ (l.take i)++x.tk:=by
  rw[<-fN h,app];simp[ax.nJ]
 refine⟨?_,e2⟩
 have:ax.nJ l=ax.nJ (l.take (i+1))++ax.nJ (l.drop (i+1)):=by rw[<-app,take_append_drop]
 rw[this,e2,append_assoc]
theorem asM (hC:xi L):∀(l:kb) (k:Nat),3*ax.im l+2<=k->ax.im l<10000->ax.R1 l->SR L l k:=by
 refine ax.X8 fun l ih k hk hb dI p t v r ht h=> ?_
 obtain⟨k,rfl⟩:∃j,k=j+1+1:=⟨k-2,by omega⟩
 have hln:=ax.pk l
 rw[Md]
 simp only[qX,av,Nat.reduceAdd]
 refine cu (fun i=>[ae ax.cs (l.take i),.i ((p+(ax.nJ (l.take i)).length:Nat):Int)]) l.length (by simp[ae,ax.nJ]) (by omega) (fun i hi rec=> ?_) (fun rec=> ?_)
 ·obtain⟨x,hx⟩:=aV hi
  have hm:=aM hx
  obtain⟨e1,e2⟩:=aqi hx
  obtain⟨o1,o2,o3⟩:=(ax.vZ x).1 ((ax.vJ l).1 dI x hm)
  obtain⟨b1,b2⟩:=ax.vw hm
  have hsx:=ax.OM hm
  have hse:=ax.dR x
  have h1:cF L (p+(ax.nJ (l.take i)).length) (x.tk++(ax.nJ (l.drop (i+1))++t::v::r)):=by
   have:cF L p (ax.nJ (l.take i)++(x.tk++(ax.nJ (l.drop (i+1))++t::v::r))):=by
    rw[e1]at h;simpa only[append_assoc]using h
   exact this.app
  generalize hP:p+(ax.nJ (l.take i)).length=P at*
  obtain⟨v1,r1,hv1⟩:∃v1 r1,ax.nJ (l.drop (i+1))++t::v::r=v1::r1:=by
   cases ax.nJ (l.drop (i+1))with
   |nil=>exact⟨_,_,rfl⟩
   |cons a b=>exact⟨_,_,rfl⟩
  rw[hv1]at h1
  have f1:ae ax.cs (l.take (i+1))= .l ((l.take i).map (fun x=>Sc.l x.cs)++[.l x.cs]):=by
   rw[<-fN hx];simp[ae]
  have f2:((((l.take i).map (fun x=>Sc.l x.cs)++[Sc.l x.cs]).length:Nat):Int)<=451081693446:=by simp;omega
  have f3:((p+(ax.nJ (l.take (i+1))).length:Nat):Int)=((P+x.tk.length:Nat):Int):=by
   rw[e2,length_append];omega
  rw[f1,f3]
  rw[ax.aA x]at f2⊢
  have jW:1<=x.tk.length:=by
   rw[ax.QI]
   unfold aeU afp
   repeat' split
   all_goals simp
  by_cases h34:x.op=3\/x.op=4
  ·obtain⟨n1,n2⟩:=aoX hC x o1 (k:=k) (ih x.body b1 k (by omega) (by omega) o2) (ih x.fG b2 k (by omega) (by omega) o3) h34 h1
   have n3:=fJ n2
   rw[ax.aA x]at n1
   simp only[cons_append,nil_append]at n1
   rw[show P+x.tk.length-1+1=P+x.tk.length by omega]at n3
   simp only[n1,n3,eM,f2,av,Nat.reduceAdd]
  ·have h3:x.op≠3:=fun e=>h34 (.inl e)
   have h4:x.op≠4:=fun e=>h34 (.inr e)
   have et:x.tk=stT x.op x.nm x.pm x.e x.f x.args x.d x.flag++[dS]:=by
    rw[ax.QI];unfold aeU;rw[if_neg h3,if_neg h4]
   have h2:cF L P (stT x.op x.nm x.pm x.e x.f x.args x.d x.flag++dS::v1::r1):=by
    rw[et]at h1;simpa using h1
   have hlen:x.tk.length=(stT x.op x.nm x.pm x.e x.f x.args x.d x.flag).length+1:=by rw[et];simp
   obtain⟨t0,q0,ht0,i1,i2⟩:=alY x o1 h3 h4
   have h5:=h2
   rw[ht0]at h5
   have g0:=acQ (k:=k) h5 i1 i2
   have g3:=fJ h2.app
   rw[show P+(stT x.op x.nm x.pm x.e x.f x.args x.d x.flag).length+1=P+x.tk.length by omega]at g3
   unfold noS at g0
   rcases asF hC x o1 h3 h4 h2 with g1|⟨g1,g2⟩
   ·rw[ax.aA x]at g1
    simp only[cons_append,nil_append]at g1
    simp only[g0,mK,g1,g3,eM,f2,av,Nat.reduceAdd]
   ·unfold noS at g1
    rw[ax.aA x]at g2
    simp only[cons_append,nil_append]at g2
    simp only[g0,mK,ut,g1,g2,g3,eM,f2,av,Nat.reduceAdd]
 ·rw[take_length]
  obtain⟨e1,e2,e3,e4⟩:=ht.no
  have h1:=h.app
  have g0:=acQ (k:=k) h1 e3 e4
  have g1:=xO h1 e1
  have g2:=axz h1 e2
  unfold noS at g0 g1 g2
  simp only[g0,mK,ut,g1,g2,av,Nat.reduceAdd]
theorem apY (hC:xi L){l:kb} (hb:ax.im l<10000) (dI:ax.R1 l){p:Nat}{t v:ff}{r:ba} (ht:aqT t) (h:cF L p (ax.nJ l++t::v::r)):jZ.F [TK L,.i (p:Int)]=some [ae ax.cs l,.i ((p+(ax.nJ l).length:Nat):Int)]:=by
 rw[KC]
 exact asM hC l _ (by unfold aF;omega) hb dI p t v r ht h
end
end
end Go.Proofs.YtlklkgdaegncaaaGreatDoor
