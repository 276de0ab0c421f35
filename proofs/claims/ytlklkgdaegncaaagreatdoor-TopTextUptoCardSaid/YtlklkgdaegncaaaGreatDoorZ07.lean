/-
  A part of the proof of TopText: SymX4, SymX5, OpT, Kt0, Bdt, Att, Shelf, KtG, KtJ, KtC.
-/
import Derived.Test.YtlklkgdaegncaaaGreatDoorZ06
import Derived.Lib.SmallJoins
import Derived.DataShut
import Derived.OpenShut
import Derived.Deep.Slices
import Derived.Test.YtlklkgdaegncaaaGreatDoorProg
import Derived.KernelRfl
import Derived.Shelf.RegionOpenPlain
import Derived.Lib.Builder
import Derived.Lib.UnsafeStr
import Derived.Lib.MakeNoZero
import Derived.WalkKit
import Derived.Laws.Externs
import Derived.Tactics
import Derived.Tactics2
import Derived.Defers
import Derived.Recover
import Derived.Laws.Pointers
import Derived.Shelf.Strconv.Itoa3
import Derived.Shelf.Strconv.AtoiAll
import Derived.Shelf.Small.Strs
import Derived.Room.Shelf.Join48
import Derived.Shelf.Strings.Repeat
import Derived.Ground.NamesProg
import Derived.Ground.SlgnProg
import Derived.Shelf.SlicesE.Clone
namespace Go.Proofs.YtlklkgdaegncaaaGreatDoor
set_option linter.unusedVariables false
set_option linter.unusedSimpArgs false
open List
open Nat
open Int
section
open Go.RowKit
section
variable {P:Program}{B:mC}{w0:World}{σ:St}{c:Ct}{a:Act}{w w':World}
def VT:H0->dm->dm
 | .rd _::ss,v::vs=>v::VT ss vs
 | .ck _::ss,v::vs=>v::VT ss vs
 |_::ss,_::vs=>VT ss vs
 |_,_=>[]
theorem BI {ok:lU}{n:Nat}:∀{ss:H0}{cs:dm}{xs:aP}{us:dm}{ys:aP},WS P w ok n ss cs xs us ys->
 tT P w ok (ss.filterMap PS.agz) us xs/\mD P w ok ((ss.filterMap PS.in?).map AS.ck) (VT ss cs) ys
 |[],[],_,_,_,⟨rfl,rfl,rfl⟩=>⟨trivial,trivial⟩
 | .rd _::ss,_::_,_,_,_,⟨_,_,rfl,h0,h⟩=>by obtain⟨i,j⟩:=BI h;exact⟨i,h0,j⟩
 | .ck _::ss,_::_,_,_,_,⟨_,_,rfl,h0,h⟩=>by obtain⟨i,j⟩:=BI h;exact⟨i,h0,j⟩
 | .own _::ss,_::_,_,_,_,⟨_,_,_,rfl,rfl,h0,h⟩=>by obtain⟨i,j⟩:=BI h;exact⟨⟨h0,i⟩,j⟩
 | .sp::ss,_::_,_,_,_,h=>BI (ss:=ss) h.2
 |[],_::_,_,_,_,h=>h.elim
 | .rd _::_,[],_,_,_,h=>h.elim
 | .ck _::_,[],_,_,_,h=>h.elim
 | .own _::_,[],_,_,_,h=>h.elim
 | .sp::_,[],_,_,_,h=>h.elim
theorem xC {ok:lU}{n b U:Nat} (hb:c.β b=some n):∀{ss:H0}{cs:dm}{xs:aP}{us:dm}{ys:aP}{cells:qE}{Y:qE}{V:dm}{nr:Nat},WS P w ok n ss cs xs us ys->
 (∀j u,us[j]? =some u->c.R (nr+j)=some u)->fp c Y (VT ss cs++V)->(∀y∈Y,y.under U=true)->
 fp c (dN false b nr ss cells Y).1 cs/\(dN false b nr ss cells Y).2.1=nr+us.length/\fp c (dN false b nr ss cells Y).2.2 V/\(∀y∈(dN false b nr ss cells Y).1,y.under U=true)/\(∀y∈(dN false b nr ss cells Y).2.2,y.under U=true)
 |[],[],_,_,_,cells,Y,V,nr,⟨rfl,rfl,rfl⟩,_,hY,hU=>⟨trivial,rfl,hY,(fun y h=>by cases h),hU⟩
 | .rd _::ss,v::cs,_,_,_,cells,y::Y,V,nr,⟨_,_,rfl,_,h⟩,hR,hY,hU=>by
   obtain⟨i,j,k,l,m⟩:=xC (cells:=cells.tail) (V:=V) hb h hR hY.2 (fun y hy=>hU y (mem_cons_of_mem _ hy))
   refine⟨⟨hY.1,i⟩,j,k,fun z hz=> ?_,m⟩
   rcases mem_cons.1 hz with rfl|hz
   ·exact hU _ (mem_cons_self ..)
   ·exact l z hz
 | .ck _::ss,v::cs,_,_,_,cells,y::Y,V,nr,⟨_,_,rfl,_,h⟩,hR,hY,hU=>by
   obtain⟨i,j,k,l,m⟩:=xC (cells:=cells.tail) (V:=V) hb h hR hY.2 (fun y hy=>hU y (mem_cons_of_mem _ hy))
   refine⟨⟨hY.1,i⟩,j,k,fun z hz=> ?_,m⟩
   rcases mem_cons.1 hz with rfl|hz
   ·exact hU _ (mem_cons_self ..)
   ·exact l z hz
 | .own _::ss,v::cs,_,_,_,cells,Y,V,nr,⟨_,_,us,rfl,rfl,ho,h⟩,hR,hY,hU=>by
   obtain⟨i,j,k,l,m⟩:=xC (cells:=cells.tail) (nr:=nr+1) hb h (fun j u hj=>by have:=hR (j+1) u (by simpa using hj);rw[show nr+1+j=nr+(j+1)by omega];exact this) hY hU
   refine⟨⟨⟨by simpa using hR 0 v rfl,DT ho⟩,i⟩,by rw[show(dN false b nr (.own _::ss) cells Y).2.1=(dN false b (nr+1) ss cells.tail Y).2.1 from rfl,j];simp;omega,k,fun z hz=> ?_,m⟩
   rcases mem_cons.1 hz with rfl|hz
   ·rfl
   ·exact l z hz
 | .sp::ss,v::cs,xs,us,ys,cells,Y,V,nr,h,hR,hY,hU=>by
   obtain⟨i,j,k,l,m⟩:=xC (cells:=cells.tail) hb h.2 hR hY hU
   refine⟨⟨h.1.imp id fun e=>⟨n,hb,e⟩,i⟩,j,k,fun z hz=> ?_,m⟩
   rcases mem_cons.1 hz with rfl|hz
   ·rfl
   ·exact l z hz
 | .rd _::_,_::_,_,_,_,_,[],_,_,_,_,hY,_=>hY.elim
 | .ck _::_,_::_,_,_,_,_,[],_,_,_,_,hY,_=>hY.elim
 |[],_::_,_,_,_,_,_,_,_,h,_,_,_=>h.elim
 | .rd _::_,[],_,_,_,_,_,_,_,h,_,_,_=>h.elim
 | .ck _::_,[],_,_,_,_,_,_,_,h,_,_,_=>h.elim
 | .own _::_,[],_,_,_,_,_,_,_,h,_,_,_=>h.elim
 | .sp::_,[],_,_,_,_,_,_,_,h,_,_,_=>h.elim
def YC (w:World) (c:Ct) (U:Nat):List (TypeId×H0)->jl->List (Nat×Option Bk)->Prop
 |[],[],[]=>True
 |(ty,_)::ls,n::ns,(b,k0)::bs=>(∃cells cs,k0=some ⟨cells,ty,0⟩/\c.β b=some n/\w.heap[n]? =some (.cells cs.toArray ty (0,0))/\fp c cells cs/\∀x∈cells,x.under U=true)/\YC w c U ls ns bs
 |_,_,_=>False
theorem SL {ok:lU}:∀{ls:List (TypeId×H0)}{ns:jl}{xs:aP}{us:dm}{ys:aP},adt P w ok ls ns xs us ys->
 tT P w ok (oX ls) us xs/\∃V,mD P w ok ((TJ ls).map AS.ck) V ys/\∀{c:Ct}{U:Nat}{bs:jl}{blk:Nat->Option Bk}{Y:qE}{nr:Nat},bs.map c.β=ns.map some->(∀j u,us[j]? =some u->c.R (nr+j)=some u)->∀W,fp c Y (V++W)->(∀y∈Y,y.under U=true)->
  (iy false blk nr ls bs Y).map (·.1)=bs/\YC w c U ls ns (iy false blk nr ls bs Y)
 |[],[],_,_,_,⟨rfl,rfl,rfl⟩=>⟨trivial,[],trivial,fun{c U bs blk Y nr} hb _ _ _ _=>by
  cases bs with
  |nil=>exact⟨rfl,trivial⟩
  |cons=>simp at hb⟩
 |(ty,ss)::ls,n::ns,_,_,_,⟨cs,x1,x2,u1,u2,y1,y2,rfl,rfl,rfl,h2,h3,h4⟩=>by
  obtain⟨i,j⟩:=BI h3
  obtain⟨k,V,l,m⟩:=SL h4
  refine⟨yy i k,VT ss cs++V,by
   show mD P w ok ((ss.filterMap PS.in? ++TJ ls).map AS.ck) _ _
   rw[map_append];exact GE j l,fun{c U bs blk Y nr} hb hR W hY hU=> ?_⟩
  cases bs with
  |nil=>simp at hb
  |cons b bs=>
   simp only[map_cons,List.cons.injEq]at hb
   rw[append_assoc]at hY
   obtain⟨q1,q2,q3,q4,q5⟩:=xC (U:=U) (cells:=match blk b with|some k=>k.cells|none=>[]) hb.1 h3 (fun j u hj=>hR j u (by rw[getElem?_append_left (List.getElem?_eq_some_iff.1 hj).1];exact hj)) hY hU
   obtain⟨p1,p2⟩:=m (c:=c) (U:=U) (bs:=bs) (blk:=blk) (nr:=nr+u1.length) hb.2 (fun j u hj=>by
    have:=hR (u1.length+j) u (by rw[getElem?_append_right (by omega),Nat.add_sub_cancel_left];exact hj)
    rw[Nat.add_assoc];exact this) W q3 q5
   generalize hC:(match blk b with|some k=>k.cells|none=>[])=C at q1 q2 q3 q4 q5 p1 p2
   have hB:iy false blk nr ((ty,ss)::ls) (b::bs) Y=(b,some ⟨(dN false b nr ss C Y).1,ty,0⟩)::iy false blk (dN false b nr ss C Y).2.1 ls bs (dN false b nr ss C Y).2.2:=by rw[<-hC];rfl
   rw[hB,q2]
   exact⟨by rw[map_cons,p1],⟨_,cs,rfl,hb.1,h2,q1,q4⟩,p2⟩
 |[],_::_,_,_,_,h=>h.elim
 |_::_,[],_,_,_,h=>h.elim
theorem Gn {U:Nat}:∀{ls:List (TypeId×H0)}{ns:jl}{bs:List (Nat×Option Bk)},YC w c U ls ns bs->∀b k2,(b,k2)∈bs->∃k n cs,k2=some k/\k.kd=0/\n∈ns/\c.β b=some n/\w.heap[n]? =some (.cells cs.toArray k.ty (0,0))/\fp c k.cells cs
 |[],[],[],_,b,k2,h=>by cases h
 |(ty,_)::ls,n::ns,(b,k0)::bs,hh,b',k2,hm=>by
  obtain⟨⟨cells,cs,rfl,h1,h2,h3,_⟩,hr⟩:=hh
  rcases mem_cons.1 hm with e|hm
  ·cases e;exact⟨_,n,cs,rfl,rfl,mem_cons_self ..,h1,h2,h3⟩
  ·obtain⟨k,n',R0,q1,q2,q3,q4⟩:=Gn hr b' k2 hm
   exact⟨k,n',R0,q1,q2,mem_cons_of_mem _ q3,q4⟩
 |[],[],_::_,h,_,_,_=>h.elim
 |[],_::_,_,h,_,_,_=>h.elim
 |_::_,[],_,h,_,_,_=>h.elim
 |_::_,_::_,[],h,_,_,_=>h.elim
theorem acy (s:CS) (nv nr nb:Nat):nr<=(mE P nv nr nb s).2.2.2.1/\∀i,i∈(mE P nv nr nb s).2.1.map (·.1)↔nr<=i/\i<(mE P nv nr nb s).2.2.2.1:=by
 cases s with
 |a s=>exact Jx (.a s) nv nr
 |g ss=>exact Jx (.g ss) nv nr
 |p _ _=>exact⟨Nat.le_refl _,fun i=>by first|(simp[mE];omega)|simp[mE]⟩
 |f _ _=>exact⟨Nat.le_refl _,fun i=>by first|(simp[mE];omega)|simp[mE]⟩
theorem QZ:∀(ss:LCs) (nv nr nb:Nat),nr<=(uf P nv nr nb ss).2.2.2.1/\∀i,i∈(uf P nv nr nb ss).2.1.map (·.1)↔nr<=i/\i<(uf P nv nr nb ss).2.2.2.1
 |[],_,nr,_=>⟨Nat.le_refl _,fun i=>by simp[uf]⟩
 |s::ss,nv,nr,nb=>by
  have h1:=acy (P:=P) s nv nr nb
  have h2:=QZ ss (mE P nv nr nb s).2.2.1 (mE P nv nr nb s).2.2.2.1 (nb+(mE P nv nr nb s).2.2.2.2.length)
  refine⟨Nat.le_trans h1.1 h2.1,fun i=> ?_⟩
  show i∈((mE P nv nr nb s).2.1++(uf P (mE P nv nr nb s).2.2.1 (mE P nv nr nb s).2.2.2.1 (nb+(mE P nv nr nb s).2.2.2.2.length) ss).2.1).map (·.1)↔nr<=i/\i<(uf P (mE P nv nr nb s).2.2.1 (mE P nv nr nb s).2.2.2.1 (nb+(mE P nv nr nb s).2.2.2.2.length) ss).2.2.2.1
  rw[map_append,mem_append,h1.2,h2.2]
  have:=h1.1
  have:=h2.1
  omega
theorem aau {nb:Nat}:∀{ns:jl}{nb:Nat},(∀j n,ns[j]? =some n->c.β (nb+j)=some n)->(range' nb ns.length).map c.β=ns.map some
 |[],_,_=>rfl
 |n::ns,nb,h=>by
  simp only[length_cons,range'_succ,map_cons]
  have h0:=h 0 n rfl
  rw[Nat.add_zero]at h0
  rw[h0,aau (nb:=nb+1) (ns:=ns) (fun j m hj=>by have:=h (j+1) m (by simpa using hj);rw[show nb+1+j=nb+(j+1)by omega];exact this)]
theorem akZ {s:CS}{nv nr nb:Nat}{v:Value}{ys:aP}{ns:jl}{ok:lU} (g:aX P B w0 σ c a w) (dI:∀p,ok p->fg B σ c p) (hy:∀i,i<ys.length->c.ρ.getD (nv+i) (.i 0)=ys.getD i (.i 0))
 (hr:amK P w ok s v ys ns) (hβ:∀j n,ns[j]? =some n->c.β (nb+j)=some n) (hR:∀i,nr<=i->i<(mE P nv nr nb s).2.2.2.1->c.R i=none):
 (∃c',c'.β=c.β/\(∀i,i<nr\/(mE P nv nr nb s).2.2.2.1<=i->c'.R i=c.R i)/\(mE P nv nr nb s).1.rel c' v/\
   aX P B w0 {σ with rows:=aH σ.rows (mE P nv nr nb s).2.1} c' a w/\Ext σ {σ with rows:=aH σ.rows (mE P nv nr nb s).2.1} c c')/\
   (mE P nv nr nb s).2.2.1=nv+ys.length/\(mE P nv nr nb s).2.2.2.2=range' nb ns.length:=by
 cases s with
 |a s=>
  obtain⟨rfl,hr⟩:=hr
  exact⟨OS (s:= .a s) g dI hy hr hR,by rw[Ax hr];rfl,rfl⟩
 |g ss=>
  obtain⟨rfl,hr⟩:=hr
  exact⟨OS (s:= .g ss) g dI hy hr hR,by rw[Ax hr];rfl,rfl⟩
 |p ty ss=>
  obtain⟨rfl,n,rfl,rfl⟩:=hr
  exact⟨⟨c,rfl,fun _ _=>rfl,⟨n,by simpa using hβ 0 n rfl,rfl⟩,g,.refl c,fun _ _ h=>h⟩,rfl,rfl⟩
 |f gg ls=>
  obtain⟨rfl,hl,rfl⟩:=hr
  exact⟨⟨c,rfl,fun _ _=>rfl,⟨ns,by rw[<-hl];exact aau (nb:=nb) hβ,rfl⟩,g,.refl c,fun _ _ h=>h⟩,rfl,by rw[hl];rfl⟩
theorem Zx:∀{ss:LCs}{σ:St}{c:Ct}{nv nr nb:Nat}{vs:dm}{ys:aP}{ns:jl}{ok:lU},aX P B w0 σ c a w->(∀p,ok p->fg B σ c p)->(∀i,i<ys.length->c.ρ.getD (nv+i) (.i 0)=ys.getD i (.i 0))->
 MZ P w ok ss vs ys ns->(∀j n,ns[j]? =some n->c.β (nb+j)=some n)->(∀i,nr<=i->i<(uf P nv nr nb ss).2.2.2.1->c.R i=none)->
 (∃c',c'.β=c.β/\(∀i,i<nr\/(uf P nv nr nb ss).2.2.2.1<=i->c'.R i=c.R i)/\Pz c' (uf P nv nr nb ss).1 vs/\
   aX P B w0 {σ with rows:=aH σ.rows (uf P nv nr nb ss).2.1} c' a w/\Ext σ {σ with rows:=aH σ.rows (uf P nv nr nb ss).2.1} c c')/\
   (uf P nv nr nb ss).2.2.1=nv+ys.length/\(uf P nv nr nb ss).2.2.2.2=range' nb ns.length
 |[],σ,c,nv,nr,nb,[],ys,ns,ok,g,_,_,hr,_,_=>by
  obtain⟨rfl,rfl⟩:=hr
  exact⟨⟨c,rfl,fun _ _=>rfl,trivial,g,.refl c,fun _ _ h=>h⟩,rfl,rfl⟩
 |s::ss,σ,c,nv,nr,nb,v::vs,ys,ns,ok,g,dI,hy,hr,hβ,hR=>by
  obtain⟨l1,l2,n1,n2,rfl,rfl,r1,r2⟩:=hr
  have m1:=(acy (P:=P) s nv nr nb).1
  have m2:=(QZ (P:=P) ss (mE P nv nr nb s).2.2.1 (mE P nv nr nb s).2.2.2.1 (nb+(mE P nv nr nb s).2.2.2.2.length)).1
  have Pl:∀i,nr<=i->i<(uf P (mE P nv nr nb s).2.2.1 (mE P nv nr nb s).2.2.2.1 (nb+(mE P nv nr nb s).2.2.2.2.length) ss).2.2.2.1->c.R i=none:=hR
  obtain⟨⟨c1,a1,a2,a5,a6,a7⟩,a8,a9⟩:=akZ (nv:=nv) (nr:=nr) (nb:=nb) g dI (fun i hi=>by
   have:=hy i (by simp;omega)
   rw[this];exact bj _ _ _ _ hi) r1 (fun j n hj=>hβ j n (by rw[getElem?_append_left (List.getElem?_eq_some_iff.1 hj).1];exact hj)) (fun i h1 h2=>Pl i h1 (by omega))
  have hbl:(mE P nv nr nb s).2.2.2.2.length=n1.length:=by rw[a9];simp
  obtain⟨⟨c2,d1,d2,d4,d5,d6⟩,d7,d8⟩:=Zx (ss:=ss) (nv:=(mE P nv nr nb s).2.2.1) (nr:=(mE P nv nr nb s).2.2.2.1) (nb:=nb+(mE P nv nr nb s).2.2.2.2.length) (vs:=vs) (ys:=l2) (ns:=n2) (ok:=ok) a6
   (fun p hp=>⟨fun x hx=>(dI p hp).1 x (a7.owns x p hx),by rw[a7.le.K];exact(dI p hp).2⟩) (fun i hi=>by
     have:=hy (l1.length+i) (by simp;omega)
     rw[a7.le.ρ,a8,Nat.add_assoc,this]
     rw[getD_eq_getElem?_getD,getElem?_append_right (by omega),Nat.add_sub_cancel_left,<-getD_eq_getElem?_getD]) r2 (fun j n hj=>by
     rw[a1,hbl,Nat.add_assoc]
     exact hβ (n1.length+j) n (by rw[getElem?_append_right (by omega),Nat.add_sub_cancel_left];exact hj)) (fun i h1 h2=>by rw[a2 i (.inr h1)];exact Pl i (by omega) h2)
  refine⟨⟨c2,d1.trans a1,fun i hi=> ?_,⟨SC.v7 d6.le a5,d4⟩,?_,a7.le.trans d6.le,fun x p h=>a7.owns x p (d6.owns x p ?_)⟩,?_,?_⟩
  ·have bN:i<nr\/(uf P (mE P nv nr nb s).2.2.1 (mE P nv nr nb s).2.2.2.1 (nb+(mE P nv nr nb s).2.2.2.2.length) ss).2.2.2.1<=i:=hi
   rw[d2 i (by omega),a2 i (by omega)]
  ·simp only[uf];rw[eI];exact d5
  ·simp only[uf]at h;rw[eI]at h;exact h
  ·show(uf P (mE P nv nr nb s).2.2.1 (mE P nv nr nb s).2.2.2.1 (nb+(mE P nv nr nb s).2.2.2.2.length) ss).2.2.1=_
   rw[d7,a8];simp;omega
  ·show(mE P nv nr nb s).2.2.2.2++(uf P (mE P nv nr nb s).2.2.1 (mE P nv nr nb s).2.2.2.1 (nb+(mE P nv nr nb s).2.2.2.2.length) ss).2.2.2.2=_
   rw[d8,hbl,a9,length_append,range'_append_1]
 |[],_,_,_,_,_,_::_,_,_,_,_,_,_,hr,_,_=>hr.elim
 |_::_,_,_,_,_,_,[],_,_,_,_,_,_,hr,_,_=>hr.elim
def aw7 (c:Ct):qE->dm->Prop
 |[],[]=>True
 |x::xs,v::vs=>(x.fixed=true->x.rel c v)/\aw7 c xs vs
 |_,_=>False
theorem akj {c':Ct}{U:Nat} (hs:c.sub c') (hρ:∀i,i<U->c'.ρ.getD i (.i 0)=c.ρ.getD i (.i 0)):∀{xs:qE}{vs:dm},fp c xs vs->(∀x∈xs,x.under U=true)->aw7 c' xs vs
 |[],[],_,_=>trivial
 |x::xs,v::vs,h,hu=>by
  refine⟨fun hf=> ?_,akj hs hρ h.2 (fun y hy=>hu y (mem_cons_of_mem _ hy))⟩
  have h1:=h.1
  have hux:=hu x (mem_cons_self ..)
  cases x<;>simp only[At.fixed]at hf<;>simp only[At.rel,At.under]at h1 hux⊢
  case int k e=>rw[Ex.cg hρ hux];exact h1
  case bool e=>rw[Ex.cg hρ hux];exact h1
  case str e=>rw[Ex.cg hρ hux];exact h1
  case vec r=>exact⟨hs.R _ _ h1.1,h1.2⟩
  all_goals cases hf
 |[],_::_,h,_=>h.elim
 |_::_,[],h,_=>h.elim
theorem anr {x:At} (hf:x.fixed=true){u v:Value} (h:x.rel c u) (k:x.rel c v):v=u:=by
 cases x<;>simp only[At.fixed]at hf<;>simp only[At.rel]at h k
 case int=>rw[h,k]
 case bool=>rw[h,k]
 case str=>rw[h,k]
 case vec r=>have:=h.1;rw[k.1]at this;exact Option.some.inj this
 all_goals cases hf
theorem apo {row:tB}{b:Nat}{s:PS}{x y:At}{l:uF} (h:akg P row b s x y=some l):xe row l.fr:=by
 unfold akg at h
 split at h
 ·split at h
  ·cases h;exact .nil
  ·cases h
 ·exact akf h
theorem aaj {row:tB}{b:Nat}:∀{ss:H0}{xs ys:qE}{l:uF},nU P row b ss xs ys=some l->xe row l.fr
 |[],[],[],l,h=>by simp[nU]at h;subst h;exact .nil
 |s::ss,x::xs,y::ys,l,h=>by
  simp only[nU]at h
  split at h
  ·rename_i h1 h2;cases h;exact uF.fz (apo h1) (aaj h2)
  ·cases h
 |[],[],_::_,_,h=>by simp[nU]at h
 |[],_::_,_,_,h=>by simp[nU]at h
 |_::_,[],_,_,h=>by simp[nU]at h
 |_::_,_::_,[],_,h=>by simp[nU]at h
theorem Xc {row:tB}{blk:Nat->Option Bk}:∀{ls:List (TypeId×H0)}{bs:List (Nat×Option Bk)}{l:uF},qe P row blk ls bs=some l->xe row l.fr
 |[],[],l,h=>by simp[qe]at h;subst h;exact .nil
 |(ty,ss)::ls,(b,k0)::bs,l,h=>by
  simp only[qe]at h
  split at h
  ·split at h
   ·split at h
    ·rename_i h1 h2;cases h;exact uF.fz (aaj h1) (Xc h2)
    ·cases h
   ·cases h
  ·cases h
 |[],_::_,_,h=>by simp[qe]at h
 |_::_,[],_,h=>by simp[qe]at h
theorem TP (g:aX P B w0 σ c a w){row:tB}{b n:Nat} (hb:c.β b=some n):∀{ss:H0}{xs0 xs:qE}{l:uF},nU P row b ss xs0 xs=some l->Fz row σ l.fr->(∀r∈l.rs,∀k,row r=some k->σ.row r=some k)->
 ∀{vs0 vs:dm},fp c xs vs->aw7 c xs0 vs0->∃us HU,Es P w (fg B σ c) n ss vs0 vs (l.os.map (Ex.ev c.ρ)) us (l.es.map (Ex.ev c.ρ))/\us.filterMap dG=HU.filterMap dG/\CF σ c l.rs HU
 |[],[],[],l,h,_,_,vs0,vs,hv,h0=>by
  simp[nU]at h
  subst h
  cases vs with
  |nil=>
   cases vs0 with
   |nil=>exact⟨[],[],⟨rfl,rfl,rfl⟩,rfl,trivial⟩
   |cons=>exact h0.elim
  |cons=>exact hv.elim
 |s::ss,x0::xs0,x::xs,l,h,hf,Yx,vs0,vs,hv,h0=>by
  match vs,hv,vs0,h0 with
  |v::vs,hv,v0::vs0,h0=>
   simp only[nU]at h
   split at h
   rotate_left
   ·cases h
   rename_i y ys h1 h2
   cases h
   obtain⟨us,HU,i1,i2,i3⟩:=TP g hb h2 hf.right (fun r hr=>Yx r (mem_append_right _ hr)) hv.2 h0.2
   unfold akg at h1
   split at h1
   ·split at h1
    ·rename_i hc
     cases h1
     simp only[Bool.and_eq_true]at hc
     have hx:=At.fX hc.2
     subst hx
     exact⟨us,HU,⟨anr hc.1 (h0.1 hc.1) hv.1,i1⟩,i2,i3⟩
    ·cases h1
   ·rename_i hnr
    unfold aca at h1
    split at h1
    ·exact(hnr _ rfl).elim
    ·obtain⟨⟨e,f⟩,q1,rfl⟩:=Option.map_eq_some_iff.1 h1
     exact⟨us,HU,⟨_,_,rfl,oR g q1 hf.left hv.1,i1⟩,i2,i3⟩
    ·rename_i el r hv
     split at h1
     ·rename_i k agg ks hk hT
      split at h1
      ·rename_i hc
       cases h1
       simp only[Bool.and_eq_true]at hc
       have mi:=Yx r (by simp[uF.app]) k hk
       obtain⟨u,e,q⟩:=aeL g mi hc.1.1 hT hc.2 hc.1.2
       have e2:c.R r=some v:=hv.1.1
       rw[e]at e2;cases e2
       exact⟨v::us,v::HU,⟨_,_,_,rfl,rfl,q,i1⟩,by rw[filterMap_cons,filterMap_cons,i2],⟨⟨k,mi,hc.1.1⟩,e,i3⟩⟩
      ·cases h1
     ·cases h1
    ·rename_i el
     split at h1
     ·rename_i agg ks hT
      split at h1
      ·rename_i EJ
       cases h1
       obtain⟨ad,rfl⟩:=hv.1
       have Yv:dG (.slice ad 0 0)=none:=by cases ad<;>rfl
       exact⟨.slice ad 0 0::us,HU,⟨_,_,_,rfl,rfl,⟨agg,ks,[],ad,0,0,hT,EJ,rfl,by simp[Ex.ev,Sc.er],rfl,Nat.le_refl _,zero_le _,.inl rfl,fun x hx=>by cases hx⟩,i1⟩,by rw[filterMap_cons,Yv,i2],i3⟩
      ·cases h1
     ·cases h1
    ·split at h1
     ·rename_i hsp
      cases h1
      exact⟨us,HU,⟨agU hb hsp hv.1,i1⟩,i2,i3⟩
     ·cases h1
    ·cases h1
 |[],[],_::_,_,h,_,_,_,_,_,_=>by simp[nU]at h
 |[],_::_,_,_,h,_,_,_,_,_,_=>by simp[nU]at h
 |_::_,[],_,_,h,_,_,_,_,_,_=>by simp[nU]at h
 |_::_,_::_,[],_,h,_,_,_,_,_,_=>by simp[nU]at h
theorem Qs {w1:World}{c1:Ct}{U:Nat} (g:aX P B w0 σ c a w) (hs:c1.sub c) (hρ:∀i,i<U->c.ρ.getD i (.i 0)=c1.ρ.getD i (.i 0)){row:tB}{blk:Nat->Option Bk} (qM:∀b k,blk b=some k->σ.blk b=some k):∀{ls:List (TypeId×H0)}{bs:List (Nat×Option Bk)}{ns:jl}{l:uF},qe P row blk ls bs=some l->YC w1 c1 U ls ns bs->Fz row σ l.fr->
 (∀r∈l.rs,∀k,row r=some k->σ.row r=some k)->(∃us HU,F4 P w1 w (fg B σ c) ls ns (l.os.map (Ex.ev c.ρ)) us (l.es.map (Ex.ev c.ρ))/\us.filterMap dG=HU.filterMap dG/\CF σ c l.rs HU)/\(∀p∈ns,∃b∈bs.map (·.1),σ.owns c (false,b) p)/\(bs.map (·.1)).map c.β=ns.map some/\∀b∈bs.map (·.1),∃k,σ.blk b=some k
 |[],[],ns,l,h,hn,_,_=>by
  simp[qe]at h
  subst h
  cases ns with
  |nil=>exact⟨⟨[],[],⟨rfl,rfl,rfl⟩,rfl,trivial⟩,(fun p hp=>by cases hp),rfl,(fun b hb=>by cases hb)⟩
  |cons=>exact hn.elim
 |(ty,ss)::ls,(b,k0)::bs,ns,l,h,hn,hf,Yx=>by
  cases ns with
  |nil=>exact hn.elim
  |cons n ns=>
   obtain⟨⟨cells,cs0,rfl,n1,n2,n3,n4⟩,hn⟩:=hn
   simp only[qe]at h
   split at h
   rotate_left
   ·cases h
   rename_i k0 k hk0 hk
   cases hk0
   split at h
   rotate_left
   ·cases h
   rename_i hc
   simp only[Bool.and_eq_true]at hc
   split at h
   rotate_left
   ·cases h
   rename_i y ys h1 h2
   cases h
   have Z9:=eq_of_beq_eq_true hc.1
   have UE:=eq_of_beq_eq_true hc.2
   have hβ:=hs.β _ _ n1
   obtain⟨m,cs,e,_,q2,q3⟩:=g.aO b k (qM b k hk)
   rw[hβ]at e;cases e
   rw[dY UE,Z9]at q2
   obtain⟨u1,u1',i1,i2,i3⟩:=TP g hβ h1 hf.left (fun r hr=>Yx r (mem_append_left _ hr)) q3 (akj hs hρ n3 n4)
   obtain⟨⟨u2,u2',j1,j2,j3⟩,j4,j5,j6⟩:=Qs g hs hρ qM h2 hn hf.right (fun r hr=>Yx r (mem_append_right _ hr))
   refine⟨⟨u1++u2,u1'++u2',⟨cs0,cs,_,_,u1,u2,_,_,by simp[uF.app],rfl,by simp[uF.app],n2,q2,i1,j1⟩,by rw[filterMap_append,filterMap_append,i2,j2],Bg i3 j3⟩,fun p hp=> ?_,?_,fun b' Ml=> ?_⟩
   ·rcases mem_cons.1 hp with rfl|hp
    ·exact⟨b,mem_cons_self ..,⟨k,qM b k hk⟩,hβ⟩
    ·obtain⟨b',h1,h2⟩:=j4 p hp
     exact⟨b',mem_cons_of_mem _ h1,h2⟩
   ·simp only[map_cons];rw[hβ,j5]
   ·rcases mem_cons.1 Ml with rfl|Ml
    ·exact⟨k,qM _ k hk⟩
    ·exact j6 b' Ml
 |[],_::_,_,_,h,_,_,_=>by simp[qe]at h
 |_::_,[],_,_,h,_,_,_=>by simp[qe]at h
theorem N0 {ok ok':lU} (h:∀p,ok p->ok' p){el:TypeId}{v:Value}{x:Sc} (hr:EV P w ok el v x):EV P w ok' el v x:=by
 obtain⟨agg,ks,D,ad,n,cap,q1,q2,q3,q4,q5,q6,q7,q8,q9⟩:=hr
 exact⟨agg,ks,D,ad,n,cap,q1,q2,q3,q4,q5,q6,q7,q8,fun x hx=>WW (fun p _ _ hp hu=>⟨h p hp,hu⟩) (q9 x hx)⟩
theorem BJ {ok ok':lU} (h:∀p,ok p->ok' p){n:Nat}:∀{ss:H0}{c0 cs:dm}{xs:aP}{us:dm}{ys:aP},Es P w ok n ss c0 cs xs us ys->Es P w ok' n ss c0 cs xs us ys
 |[],[],[],_,_,_,hr=>hr
 | .rd _::ss,_::_,_::_,_,_,_,hr=>⟨hr.1,BJ h (ss:=ss) hr.2⟩
 | .ck _::ss,_::_,_::_,_,_,_,⟨y,ys',e,h0,hr⟩=>⟨y,ys',e,JU (fun p _ _ hp hu=>⟨h p hp,hu⟩) h0,BJ h hr⟩
 | .own _::ss,_::_,_::_,_,_,_,⟨x,xs',HU,e1,e2,h0,hr⟩=>⟨x,xs',HU,e1,e2,N0 h h0,BJ h hr⟩
 | .sp::ss,_::_,_::_,_,_,_,hr=>⟨hr.1,BJ h (ss:=ss) hr.2⟩
 |[],_::_,_,_,_,_,h=>h.elim
 |[],[],_::_,_,_,_,h=>h.elim
 | .rd _::_,[],_,_,_,_,h=>h.elim
 | .rd _::_,_::_,[],_,_,_,h=>h.elim
 | .ck _::_,[],_,_,_,_,h=>h.elim
 | .ck _::_,_::_,[],_,_,_,h=>h.elim
 | .own _::_,[],_,_,_,_,h=>h.elim
 | .own _::_,_::_,[],_,_,_,h=>h.elim
 | .sp::_,[],_,_,_,_,h=>h.elim
 | .sp::_,_::_,[],_,_,_,h=>h.elim
theorem SM {ok ok':lU}{w1:World} (h:∀p,ok p->ok' p):∀{ls:List (TypeId×H0)}{ns:jl}{xs:aP}{us:dm}{ys:aP},F4 P w1 w ok ls ns xs us ys->F4 P w1 w ok' ls ns xs us ys
 |[],[],_,_,_,hr=>hr
 |(ty,ss)::ls,n::ns,_,_,_,⟨c0,cs,x1,x2,u1,u2,y1,y2,e1,e2,e3,h1,h2,h3,h4⟩=>⟨c0,cs,x1,x2,u1,u2,y1,y2,e1,e2,e3,h1,h2,BJ h h3,SM h h4⟩
 |[],_::_,_,_,_,h=>h.elim
 |_::_,[],_,_,_,h=>h.elim
theorem aiO {ok ok':lU} (h:∀p,ok p->ok' p){s:RS}{v:Value}{xs:aP}{us:dm}{l:aP} (hr:Ul P w ok s v xs us l):Ul P w ok' s v xs us l:=by
 have hm:∀p o u,ok p->w.cell? ⟨p,o,none⟩=some u->ok' p/\w.cell? ⟨p,o,none⟩=some u:=fun p _ _ hp hu=>⟨h p hp,hu⟩
 cases s with
 |c s=>exact⟨hr.1,hr.2.1,Zq hm hr.2.2⟩
 |t ss=>obtain⟨e1,e2,vs,e3,r⟩:=hr;exact⟨e1,e2,vs,e3,M3 hm r⟩
 |o el=>obtain⟨e1,x,e2,e3,r⟩:=hr;exact⟨e1,x,e2,e3,N0 h r⟩
 |ot el ss=>obtain⟨x,u,vs,e1,e2,e3,r1,r2⟩:=hr;exact⟨x,u,vs,e1,e2,e3,N0 h r1,M3 hm r2⟩
theorem asf {X:Cx}{s:RS}{sv:SV}{es:mA}{fr:eJ} (h:ao9 X σ s sv=some (es,fr)):xe σ.row fr:=by
 unfold ao9 at h
 split at h
 ·exact adr h
 ·exact Y9 h
 ·cases h;exact .nil
 ·exact Y9 h
 ·cases h
theorem Xh {σ1:St} (g1:aX P B w0 σ1 c a w){el:TypeId}{x:At}{l:uF} (h:aca P σ.row 0 (.own el) x=some l) (Yx:∀r∈l.rs,∀k,σ.row r=some k->σ1.row r=some k){v:Value} (hv:x.rel c v):
 ∃y HU,l.os.map (Ex.ev c.ρ)=[y]/\EV P w (fg B σ1 c) el v y/\[v].filterMap dG=HU.filterMap dG/\CF σ1 c l.rs HU:=by
 unfold aca at h
 split at h
 ·rename_i hh;cases hh
 ·rename_i hh;cases hh
 ·rename_i el' r NK
  cases NK
  split at h
  ·rename_i k agg ks hk hT
   split at h
   ·rename_i hc
    cases h
    simp only[Bool.and_eq_true]at hc
    have mi:=Yx r (by simp) k hk
    obtain⟨u,e,q⟩:=aeL g1 mi hc.1.1 hT hc.2 hc.1.2
    have e2:c.R r=some v:=hv.1
    rw[e]at e2;cases e2
    exact⟨_,[v],rfl,q,rfl,⟨k,mi,hc.1.1⟩,e,trivial⟩
   ·cases h
  ·cases h
 ·rename_i el' NK
  cases NK
  split at h
  ·rename_i agg ks hT
   split at h
   ·rename_i EJ
    cases h
    obtain⟨ad,rfl⟩:=hv
    have Yv:dG (.slice ad 0 0)=none:=by cases ad<;>rfl
    exact⟨_,[],rfl,⟨agg,ks,[],ad,0,0,hT,EJ,rfl,by simp[Ex.ev,Sc.er],rfl,Nat.le_refl _,zero_le _,.inl rfl,fun x hx=>by cases hx⟩,by rw[filterMap_cons,Yv],trivial⟩
   ·cases h
  ·cases h
 ·rename_i hh;cases hh
 ·cases h
theorem apa {X:Cx}{σ1:St} (g1:aX X.P B w0 σ1 c a w){s:RS}{sv:SV}{es eo:mA}{fr:eJ}{ro:jl} (h:ao9 X σ s sv=some (es,fr)) (hO:ase X σ s sv=some (eo,ro)) (hfz:Fz σ.row σ1 fr) (Yx:∀r∈ro,∀k,σ.row r=some k->σ1.row r=some k){v:Value} (hv:sv.rel c v):
 ∃us HU,Ul X.P w (fg B σ1 c) s v (eo.map (Ex.ev c.ρ)) us (es.map (Ex.ev c.ρ))/\us.filterMap dG=HU.filterMap dG/\CF σ1 c ro HU:=by
 have aAb:∀{ss:LCs}{xs:List SC}{es:mA}{fr:eJ}{vs:dm},F2 X.P σ.row ss (xs.map .c)=some (es,fr)->Fz σ.row σ1 fr->Pz c xs vs->J1 X.P w (fg B σ1 c) ss vs (es.map (Ex.ev c.ρ)):=fun{ss xs es fr vs} h1 hf hr=>
  Za g1 h1 hf (by simp[N5 hr]) (fun i h1 h2=>by
   simp only[getElem_map]
   have h3:i<xs.length:=by simpa using h1
   obtain⟨u,e,q⟩:=Uk hr (getElem?_eq_getElem h3)
   rw[getElem?_eq_getElem h2]at e
   cases e;exact q)
 unfold ao9 at h
 split at h
 ·cases hO
  exact⟨[],[],⟨rfl,rfl,US g1 h hfz hv⟩,rfl,trivial⟩
 ·cases hO
  obtain⟨vs,rfl,hr⟩:=hv
  exact⟨[],[],⟨rfl,rfl,vs,rfl,aAb h hfz hr⟩,rfl,trivial⟩
 ·cases h
  unfold ase at hO
  split at hO
  ·rename_i el x NK
   cases NK
   obtain⟨l,h1,h2⟩:=Option.map_eq_some_iff.1 hO
   simp only[Prod.mk.injEq]at h2
   obtain⟨rfl,rfl⟩:=h2
   obtain⟨y,HU,q1,q2,q3,q4⟩:=Xh g1 h1 Yx hv
   exact⟨[v],HU,⟨rfl,y,q1,rfl,q2⟩,q3,q4⟩
  ·rename_i hh;cases hh
  ·rename_i hh;cases hh
  ·rename_i hh;cases hh
  ·cases hO
 ·rename_i el ss x xs
  unfold ase at hO
  split at hO
  ·rename_i hh _;cases hh
  ·rename_i el' ss' y ys h1 h2
   cases h1;cases h2
   obtain⟨l,h1,h2⟩:=Option.map_eq_some_iff.1 hO
   simp only[Prod.mk.injEq]at h2
   obtain⟨rfl,rfl⟩:=h2
   obtain⟨vs,rfl,hr⟩:=hv
   cases vs with
   |nil=>exact hr.elim
   |cons u vs=>
    obtain⟨z,HU,q1,q2,q3,q4⟩:=Xh g1 h1 Yx hr.1
    exact⟨[u],HU,⟨z,u,vs,q1,rfl,rfl,q2,aAb h hfz hr.2⟩,q3,q4⟩
  ·rename_i hh;cases hh
  ·rename_i hh;cases hh
  ·cases hO
 ·cases h
end
end
section
open Go.RowKit
def CS.lens (l:LCs):Nat:=(l.map CS.len).sum
def nK.width (dr:nK):Nat:=(oX (fS dr.args)).length+(TJ (fS dr.args)).length+CS.lens dr.args
theorem Ze {P:Program}{w:World}{ok:lU}:∀{s:LCs}{v:dm}{l:aP}{ns:jl},MZ P w ok s v l ns->l.length=CS.lens s/\v.length=s.length
 |[],[],_,_,h=>by obtain⟨rfl,_⟩:=h;exact⟨rfl,rfl⟩
 |s::ss,_::_,_,_,⟨l1,l2,n1,n2,e,e2,r1,r2⟩=>by
  obtain⟨i1,i2⟩:=Ze r2
  subst e
  have:l1.length=s.len:=by
   cases s with
   |a s=>exact Ax r1.2
   |g ss=>exact Ax r1.2
   |p _ _=>rw[r1.1];rfl
   |f _ _=>rw[r1.1];rfl
  exact⟨by simp[CS.lens,this,i1],by simp[i2]⟩
 |[],_::_,_,_,h=>h.elim
 |_::_,[],_,_,h=>h.elim
theorem agy {P:Program}{nr U:Nat}{e:Ex} (h:e.under U=true):∀k,(ES P nr e k).1.under U=true
 | .sl el=>by cases hT:qg P el<;>simp[ES,hT,At.under]
 | .int _=>h
 | .bool=>h
 | .str=>h
theorem Xg {P:Program}{U:Nat}:∀{ps:List (AS×Ex)}{nr:Nat},(∀p∈ps,p.2.under U=true)->∀x∈(lO P nr ps).1,x.under U=true
 |[],_,_,x,hx=>by cases hx
 |(.ck k,e)::ps,nr,h,x,hx=>by
  have hx:x∈(ES P nr e k).1::(lO P (ES P nr e k).2.2 ps).1:=hx
  rcases mem_cons.1 hx with rfl|hx
  ·exact agy (h (.ck k,e) (mem_cons_self ..)) k
  ·exact Xg (fun p hp=>h p (mem_cons_of_mem _ hp)) x hx
theorem Ot {U:Nat}:∀{ss:LAs}{nv:Nat},nv+ss.length<=U->∀p∈fw nv ss,p.2.under U=true
 |[],_,_,p,hp=>by cases hp
 |s::ss,nv,h,p,hp=>by
  rcases mem_cons.1 hp with rfl|hp
  ·simp at h
   simp[Ex.under];omega
  ·exact Ot (ss:=ss) (by simp at h;omega) p hp
theorem apv {c:Ct}:∀(vs:dm),fp c (vs.map fun _=>At.top) vs
 |[]=>trivial
 |_::vs=>⟨trivial,apv vs⟩
theorem N4 {l:List (Nat×Option Bk)}{p:Nat}{k:Bk} (h:(di [] l).getD p none=some k):(p,some k)∈l:=by
 by_cases hm:∃x∈l,x.1=p
 ·obtain⟨v,h1,h2⟩:=AL l [] p hm
  rw[h2]at h;subst h;exact h1
 ·rw[sR l [] p (fun x hx e=>hm ⟨x,hx,e⟩)]at h
  simp at h
theorem agF {l:List (Nat×Option Bk)}{p:Nat} (h:p∈l.map (·.1)):∃v,(p,v)∈l/\(di [] l).getD p none=v:=by
 obtain⟨x,hx,e⟩:=mem_map.1 h
 exact AL l [] p ⟨x,hx,e⟩
theorem Ex.qj {m n:Nat} (hmn:m<=n):∀{x:Ex},x.under m=true->x.under n=true
 | .v p,h=>by
   have h1:p<m:=Cp h
   have:p<n:=Nat.lt_of_lt_of_le h1 hmn
   show blt p n=true
   simpa[blt]using succ_le_of_lt this
 | .i _,_| .b _,_| .s _,_| .nil,_=>rfl
 | .u f x,h=>Ex.qj (x:=x) hmn h
 | .o f x y,h=>by
   simp only[Ex.under,Bool.and_eq_true]at h⊢
   exact⟨Ex.qj hmn h.1,Ex.qj hmn h.2⟩
 | .t f x y z,h=>by
   simp only[Ex.under,Bool.and_eq_true]at h⊢
   exact⟨⟨Ex.qj hmn h.1.1,Ex.qj hmn h.1.2⟩,Ex.qj hmn h.2⟩
theorem Q7 {e:Ex}{b:Bool}:∀{fs:List (Ex×Bool)},ad5 fs e=some b->(e,b)∈fs
 |[],h=>by cases h
 |(x,y)::r,h=>by
  unfold ad5 at h
  cases hs:x.same e with
  |true=>rw[hs]at h;cases h;rw[Ex.fX hs];exact mem_cons_self ..
  |false=>rw[hs]at h;exact mem_cons_of_mem _ (Q7 h)
theorem vn {Γ:Nat->fF}{L:Type}:∀{t:T L}{fs:List (Ex×Bool)}{n:Nat}{ρ:aP}{N:Nx}{Φ:L->aP->Nx->Prop},(t.LR fs n).wp Γ ρ N Φ->ρ.length=n->
 (∀x∈fs,x.1.under n=true/\(x.1.ev ρ).bool=x.2)->t.wp Γ ρ N Φ
 | .aa x,_,_,_,_,_,h,_,_=>h
 | .fail _,_,_,_,_,_,h,_,_=>h
 | .next _ _,_,_,_,_,_,h,_,_=>h
 | .ag c k,fs,n,ρ,N,Φ,h,hn,hf=>⟨h.1,vn h.2 hn hf⟩
 | .call f es m k,fs,n,ρ,N,Φ,h,hn,hf=>by
   obtain⟨rs,h1,h2,h3⟩:=h
   refine⟨rs,h1,h2,vn h3 (by simp[hn,h2]) (fun x hx=> ?_)⟩
   obtain⟨a,b⟩:=hf x hx
   exact⟨Ex.qj (le_add_right _ _) a,by rw[Ex.cg (fun i hi=>bj _ _ _ _ (by omega)) a];exact b⟩
 | .loop NL k,fs,n,ρ,N,Φ,h,hn,hf=>by
   obtain⟨I,μ,h1,h2⟩:=h
   refine⟨I,μ,h1,fun fY hl hI=>vn (h2 fY hl hI) (by simp[hn,hl]) (fun x hx=> ?_)⟩
   obtain⟨a,b⟩:=hf x hx
   exact⟨Ex.qj (le_add_right _ _) a,by rw[Ex.cg (fun i hi=>bj _ _ _ _ (by omega)) a];exact b⟩
 | .ite c a b,fs,n,ρ,N,Φ,h,hn,hf=>by
   unfold T.LR at h
   simp only[T.wp]
   split at h
   ·rename_i hc
    rw[if_pos (hf _ (Q7 hc)).2]
    exact vn h hn hf
   ·rename_i hc
    rw[if_neg (by rw[(hf _ (Q7 hc)).2];simp)]
    exact vn h hn hf
   ·cases hu:c.under n with
    |true=>
     rw[hu]at h
     simp only[cond_true,T.wp]at h
     split
     ·rename_i hb
      rw[if_pos hb]at h
      exact vn h hn (fun x hx=>by
       rcases mem_cons.1 hx with rfl|hx
       ·exact⟨hu,hb⟩
       ·exact hf x hx)
     ·rename_i hb
      rw[if_neg hb]at h
      exact vn h hn (fun x hx=>by
       rcases mem_cons.1 hx with rfl|hx
       ·exact⟨hu,by simpa using hb⟩
       ·exact hf x hx)
    |false=>
     rw[hu]at h
     simp only[cond_false,T.wp]at h
     split
     ·rename_i hb;rw[if_pos hb]at h;exact vn h hn hf
     ·rename_i hb;rw[if_neg hb]at h;exact vn h hn hf
theorem ajb {X:Cx} [xj X.P]{Γ:Nat->fF} (hX:∀w,xj.G X.P w->∀B:mC,B.n=w.heap.size->B.lim=xj.lim X.P->X.ok Γ B w){dr:nK}{F:fF} (d:Nat) (dU:∀args w,(callFunc dr.f args).run X.P w= .ok (.enter dr.f args) w)
 (h:∀l rs,l.length=dr.width->F l=some rs->(tree X d dr).wp Γ l [] fun es ρ' _=>es.map (Ex.ev ρ')=rs):dr.holds X.P F:=by
 refine fun w hG ok vs ns xs us ys l rs kY ME hnd aek hF=> .inl ⟨dU _ _,?_⟩
 obtain⟨hlen,hvl⟩:=Ze kY
 obtain⟨cv,V,hV,atY⟩:=SL ME
 obtain⟨hol,hxl⟩:=Gk cv
 have hil:=QX hV
 simp only[length_map]at hil
 generalize hL:xs++ys++l=L at hF
 have hLl:L.length=dr.width:=by rw[<-hL];unfold nK.width;simp;omega
 have ht:=h L rs hLl hF
 have hLn:L.length=(oX (fS dr.args)).length+(TJ (fS dr.args)).length+l.length:=by rw[<-hL];simp;omega
 replace ht:(aky X d dr).wp Γ L [] fun es ρ' _=>es.map (Ex.ev ρ')=rs:=by
  unfold tree at ht
  cases hp:oQ X.pr dr.f with
  |true=>
   rw[hp]at ht
   exact vn ht (by rw[hLl];unfold nK.width CS.lens;congr 3) (fun x hx=>by cases hx)
  |false=>rw[hp]at ht;exact ht
 unfold aky at ht
 generalize hls:fS dr.args=ls at*
 simp only at ht
 generalize hm:(oX ls).length=m at*
 generalize hop:lO X.P m (fw m ((TJ ls).map AS.ck))=O at ht
 obtain⟨Y,rs1,OP⟩:=O
 simp only at ht
 generalize hen:uf X.P (m+(TJ ls).length) OP 0 dr.args=E at ht
 obtain⟨xsv,rs2,nv,nr2,bs⟩:=E
 simp only at ht
 have ht:=T.wp_bind ht
 let B:mC:=⟨w.heap.size,(·∈eH ns us),xj.lim X.P,xj.size w hG,fun p hp=>(aek p hp).1⟩
 let c00:Ct:=⟨L,fun _=>none,fun _=>none,ok⟩
 let c0:Ct:=⟨L,fun i=>ns[i]?,fun i=>us[i]?,ok⟩
 have avS:c00.le c0:=⟨rfl,rfl,(fun _ _ e=>by cases e),(fun _ _ e=>by cases e)⟩
 have Yv:∀x p,¬St.owns ⟨nv,0,[],[],[]⟩ c00 x p:=by
  rintro⟨t,q⟩ p h
  cases t
  ·obtain⟨⟨k,hk⟩,_⟩:=h;cases hk
  ·obtain⟨⟨k,hk,_⟩,_⟩:=h;cases hk
 have g0:aX X.P B w ⟨nv,0,[],[],[]⟩ c00 ⟨#[],[]⟩ w:=
  ⟨.refl _ _ _,Nat.le_refl _,rfl,zero_le _,fun t=>trivial,fun p k h=>(by cases h),fun r k h=>(by cases h),fun x y p hx _=>(Yv x p hx).elim⟩
 have ay9:(range' 0 ns.length).map c0.β=ns.map some:=aau (nb:=0) (fun j n hj=>by rw[Nat.zero_add];exact hj)
 obtain⟨anV,aob⟩:=atY (c:=c0) (U:=L.length) (bs:=range' 0 ns.length) (blk:=fun _=>none) (Y:=V.map fun _=>At.top) (nr:=0) ay9 (fun j u hj=>by rw[Nat.zero_add];exact hj) [] (by rw[append_nil];exact apv V) (fun y hy=>by
  obtain⟨_,_,rfl⟩:=mem_map.1 hy;rfl)
 generalize aC4:iy false (fun _=>none) 0 ls (range' 0 ns.length) (V.map fun _=>At.top)=atL at anV aob
 have ael:=nodup_append.1 hnd
 let σt:St:=⟨nv,0,[],di [] atL,aH [] (fu X.P 0 0 (oX ls))⟩
 let Nn:Bool×Nat->lU:=fun x p=>(x.1=false/\ns[x.2]? =some p)\/(x.1=true/\∃u,us[x.2]? =some u/\dG u=some p)
 have hNm:∀x p,Nn x p->p∈eH ns us:=by
  rintro x p (⟨_,h⟩|⟨_,u,h1,h2⟩)
  ·exact mem_append_left _ (mem_of_getElem? h)
  ·exact mem_append_right _ (mem_filterMap.2 ⟨u,mem_of_getElem? h1,h2⟩)
 have aud:∀x p,σt.owns c0 x p->p∈eH ns us:=by
  rintro⟨t,q⟩ p h
  cases t
  ·obtain⟨_,e⟩:=h
   exact mem_append_left _ (mem_of_getElem? e)
  ·obtain⟨_,u,e,e2⟩:=h
   exact mem_append_right _ (mem_filterMap.2 ⟨u,mem_of_getElem? e,e2⟩)
 have g1:aX X.P B w σt c0 ⟨#[],[]⟩ w:=by
  refine g0.aus (σ2:=σt) (c2:=c0) (·∈eH ns us) (.refl _ _ _) (fun p hp _=> .inr hp) Nn (fun _=>False) ?_ (fun x p h=> .inl (hNm x p h)) (fun x p h=> .inr (hNm x p h)) (fun _ _ h=>h.elim) avS rfl ?_ (ok':=ok) ?_ (fun p hp=>⟨fun x hx=>(aek p (aud x p hx)).2.2 hp,.inr (.inl hp)⟩) (fun p _ hr=>by
   obtain⟨r,k,hk⟩:=hr
   cases hk)
  ·rintro⟨x1,x2⟩ ⟨y1,y2⟩ p (⟨a1,a2⟩|⟨a1,u,a2,a3⟩) (⟨b1,b2⟩|⟨b1,u',b2,b3⟩)
   ·simp only at a1 a2 b1 b2
    subst a1;subst b1
    have:x2=y2:=(getElem?_inj (List.getElem?_eq_some_iff.1 a2).1 ael.1).1 (a2.trans b2.symm)
    rw[this]
   ·exact(ael.2.2 p (mem_of_getElem? a2) p (mem_filterMap.2 ⟨u',mem_of_getElem? b2,b3⟩) rfl).elim
   ·exact(ael.2.2 p (mem_of_getElem? b2) p (mem_filterMap.2 ⟨u,mem_of_getElem? a2,a3⟩) rfl).elim
   ·simp only at a1 a2 b1 b2
    subst a1;subst b1
    rw[V6 ael.2.1 a2 b2 a3 b3]
  ·intro p k hk
   obtain⟨k',n,cs,e,e1,e2,e3,e4,e5⟩:=Gn aob p _ (N4 hk)
   cases e
   exact .inr ⟨n,cs,e3,.inl ⟨rfl,e3⟩,by rw[dY e1];exact e4,e5⟩
  ·intro r k hk
   have hk:(aH [] (fu X.P 0 0 (oX ls))).getD r none=some k:=hk
   rcases N1 0 0 [] r cv with⟨j,el,agg,ks,rfl,h2,h3,h4⟩|⟨h1,h2⟩
   ·rw[h4]at hk
    cases hk
    obtain⟨u,y,q1,q2,aqX,OL,D,ad,n,cap,p1,p2,rfl,p4,p5,p6,p7,p8,p9⟩:=NZ cv h2
    rw[h3]at p1;cases p1
    refine .inr ⟨rfl,rfl,D,ad,n,cap,by show us[0+j]? =_;rw[Nat.zero_add];exact q1,?_,p5,p6,p7,p8,fun p hp=> .inr ⟨rfl,_,by show us[0+j]? =_;rw[Nat.zero_add];exact q1,hp⟩,p9⟩
    show(L.getD (0+j) (.i 0)).er=_
    have hjX:=(List.getElem?_eq_some_iff.1 q2).1
    rw[Nat.zero_add,<-hL,append_assoc,bj _ _ _ _ hjX,getD_eq_getElem?_getD,q2]
    exact p4
   ·rw[h2]at hk;simp at hk
 have avZ:∀p,ok p->fg B σt c0 p:=fun p hp=>⟨fun x hx=>(aek p (aud x p hx)).2.2 hp,.inr (.inl hp)⟩
 have hRm:∀i,m<=i->c0.R i=none:=fun i hi=>getElem?_eq_none (by omega)
 have ajT:=v6 (P:=X.P) (fw m ((TJ ls).map AS.ck)) m
 obtain⟨c1,a1,a2,a3,a4,a5⟩:=ET (ps:=fw m ((TJ ls).map AS.ck)) (nr:=m) (vs:=V) (ok:=ok) g1 avZ (DY (nv:=m) (ys:=ys) (fun i hi=>by
  show L.getD (m+i) (.i 0)=_
  rw[<-hL,append_assoc,getD_eq_getElem?_getD,getElem?_append_right (by omega),hxl,Nat.add_sub_cancel_left,getElem?_append_left hi,<-getD_eq_getElem?_getD]) hV) (fun i h1 _=>hRm i h1)
 rw[hop]at a2 a3 a4 a5 ajT
 simp only at a2 a3 a4 a5 ajT
 have Z7:=QZ (P:=X.P) dr.args (m+(TJ ls).length) OP 0
 obtain⟨⟨c2,d1,d2,d3,d4,d5⟩,d6,d7⟩:=Zx (ss:=dr.args) (nv:=m+(TJ ls).length) (nr:=OP) (nb:=0) (vs:=vs) (ys:=l) (ns:=ns) (ok:=ok) a4 (fun p hp=>⟨fun x hx=>(avZ p hp).1 x (a5.owns x p hx),by rw[a5.le.K];exact(avZ p hp).2⟩) (fun i hi=>by
  rw[a5.le.ρ]
  show L.getD _ (.i 0)=_
  rw[<-hL,getD_eq_getElem?_getD,getElem?_append_right (by simp;omega)]
  rw[getD_eq_getElem?_getD]
  congr 2
  simp;omega) kY (fun j n hj=>by rw[Nat.zero_add,a1];exact hj) (fun i h1 _=>by rw[a2 i (.inr h1)];exact hRm i (by omega))
 rw[hen]at d2 d3 d4 d5 d6 d7 Z7
 simp only at d2 d3 d4 d5 d6 d7 Z7
 have arU:c2.β=c0.β:=d1.trans a1
 have X6:c0.le c2:=a5.le.trans d5.le
 have aoq:c2.ρ=L:=X6.ρ
 obtain⟨af1,aoc⟩:=atY (c:=c2) (U:=L.length) (bs:=bs) (blk:=fun _=>none) (Y:=Y) (nr:=0) (by rw[arU,d7];exact ay9) (fun j u hj=>by rw[Nat.zero_add];exact X6.R _ _ hj) [] (by rw[append_nil];exact yG d5.le a3) (fun y hy=>by
  have:=Xg (P:=X.P) (U:=L.length) (ps:=fw m ((TJ ls).map AS.ck)) (nr:=m) (Ot (by simp;omega)) y (by rw[hop];exact hy)
  exact this)
 generalize aFI:iy false (fun _=>none) 0 ls bs Y=aO at af1 aoc ht
 have g2:=d4.akh (σ2:=⟨nv,0,[],di [] aO,aH [] (fu X.P 0 0 (oX ls)++rs1++rs2)⟩) rfl (fun r=>by
  show(aH [] (fu X.P 0 0 (oX ls)++rs1++rs2)).getD r none=(aH (aH (aH [] (fu X.P 0 0 (oX ls))) rs1) rs2).getD r none
  rw[eI,eI]) (fun p k2 pJ=>by
  obtain⟨k,n,cs,e,e1,e2,e3,e4,e5⟩:=Gn aoc p _ (N4 pJ)
  cases e
  have hp0:p∈atL.map (·.1):=by
   rw[anV,<-d7,<-af1]
   exact mem_map_of_mem (f:=(·.1)) (N4 pJ)
  obtain⟨v0,z1,z2⟩:=agF hp0
  obtain⟨k',n',R0,f,f1,f2,f3,f4,f5⟩:=Gn aob p _ z1
  subst f
  have e3':=e3
  rw[arU,f3]at e3';cases e3'
  have e4':=e4
  rw[f4]at e4'
  obtain⟨h1,h2⟩:=Aw e4'
  refine⟨k',z2,h2.symm,by rw[e1,f1],fun n2 cs2 q1 q2 _=> ?_⟩
  rw[arU,f3]at q1;cases q1
  rw[dY f1,f4]at q2
  obtain⟨h3,_⟩:=Aw q2
  rw[<-h3,h1];exact e5)
 refine(RM (B:=B) (w0:=w) (hX w hG B rfl rfl) d dr.f (xsv.map .c) _ L [] _ c2 c2 ⟨#[],[]⟩ w vs ht ⟨.refl _,aoq,g2,⟨fun p hp=> ?_,fun r hr=> ?_⟩,by rw[d6,hLn],rfl⟩ (by simp[N5 d3]) (fun i h1 h2=> ?_)).mono ?_
 ·have hp:(di [] aO).length<=p:=hp
  rw[arU]
  show ns[p]? =none
  refine getElem?_eq_none (Nat.le_of_not_lt fun fU=> ?_)
  have hm:p∈aO.map (·.1):=by rw[af1,d7];simp[mem_range'_1,fU]
  obtain⟨x,hx,e⟩:=mem_map.1 hm
  have:=(sS aO []).2 x hx
  omega
 ·have hr:(aH [] (fu X.P 0 0 (oX ls)++rs1++rs2)).length<=r:=hr
  have hge:nr2<=r:=Nat.le_of_not_lt fun fU=>by
   have hm:r∈(fu X.P 0 0 (oX ls)++rs1++rs2).map (·.1):=by
    rw[map_append,map_append,mem_append,mem_append,ajT.2,Z7.2,DU 0 0 r cv]
    omega
   obtain⟨x,hx,e⟩:=mem_map.1 hm
   have:=(dP _ []).2 x hx
   omega
  have:=ajT.1
  have:=Z7.1
  rw[d2 r (.inr hge),a2 r (.inr (by omega))]
  exact hRm r (by omega)
 ·simp only[getElem_map]
  have h3:i<xsv.length:=by simpa using h1
  obtain⟨u,e,q⟩:=Uk d3 (getElem?_eq_getElem h3)
  rw[getElem?_eq_getElem h2]at e
  cases e;exact q
 ·rintro e w' ⟨v,sv,σ',r,n,c',rfl,hΦ,i8,uS⟩
  have hi:=uS ⟨#[],[]⟩ rfl
  simp only at hΦ
  split at hΦ
  rotate_left
  ·exact hΦ.elim
  rename_i es fr eo ro lt hes heo hlo
  split at hΦ
  rotate_left
  ·exact hΦ.elim
  rename_i hc
  simp only[Bool.and_eq_true,all_eq_true]at hc
  obtain⟨anK,hnf⟩:=hc
  have anK:=wF anK
  have hΦ:(lt.os++eo++(es++lt.es)).map (Ex.ev (L++r))=rs:=hΦ
  obtain⟨g5,hfz⟩:=AA (σ:={σ' with aZ:=[]}) hi.dD (row:=σ'.row) (fun _ _ e=>e) ((asf hes).append (Xc hlo))
  have arP:∀r∈lt.rs++ro,∀k,σ'.row r=some k->St.row {({σ' with aZ:=[]}:St)with rows:=aH σ'.rows (fr++lt.fr)} r=some k:=fun r hr k hk=>by
   show(aH σ'.rows (fr++lt.fr)).getD r none=some k
   rw[Gm _ _ _ (fun x hx e=>by
    have:=hnf r hr x hx
    rw[e,beq_refl]at this;cases this)]
   exact hk
  obtain⟨⟨u1,u1',b1,b2,b3⟩,b4,b5,b6⟩:=Qs (w1:=w) (c1:=c2) (U:=L.length) g5 hi.sub (fun i bN=>by rw[hi.env,aoq,bj _ _ _ _ bN]) (fun _ _ e=>e) hlo aoc hfz.right (fun r hr=>arP r (mem_append_left _ hr))
  obtain⟨u2,u2',o1,o2,o3⟩:=apa g5 hes heo hfz.left (fun r hr=>arP r (mem_append_right _ hr)) i8
  have hro:=Bg b3 o3
  have hfm:(u1++u2).filterMap dG=(u1'++u2').filterMap dG:=by rw[filterMap_append,filterMap_append,b2,o2]
  have Hn:∀p∈eH ns (u1++u2),∃x,St.owns {({σ' with aZ:=[]}:St)with rows:=aH σ'.rows (fr++lt.fr)} c' x p:=fun p hp=>by
   rcases mem_append.1 hp with hp|hp
   ·obtain⟨b,_,h2⟩:=b4 p hp
    exact⟨_,h2⟩
   ·rw[hfm]at hp
    obtain⟨r,_,h2⟩:=wc hro p hp
    exact⟨_,h2⟩
  have at8:∀p,fg B {({σ' with aZ:=[]}:St)with rows:=aH σ'.rows (fr++lt.fr)} c' p->okX w.heap.size ok (eH ns us) (eH ns (u1++u2)) p:=fun p hp=>by
   refine⟨?_,fun hm=> ?_⟩
   ·have hK:c'.K=ok:=by rw[hi.sub.K,X6.K]
    have:=hp.2
    rw[hK]at this
    exact this
   ·obtain⟨x,hx⟩:=Hn p hm
    exact hp.1 x hx
  refine⟨v,rfl,hi.dD.below,lt.os.map (Ex.ev c'.ρ),eo.map (Ex.ev c'.ρ),es.map (Ex.ev c'.ρ),lt.es.map (Ex.ev c'.ρ),u1,u2,?_,?_,fun p hp=> ?_,SM at8 b1,aiO at8 o1⟩
  ·rw[<-hΦ,hi.env];simp
  ·unfold eH
   rw[hfm]
   refine nodup_append.2 ⟨ael.1,KU g5 hro anK,fun x hx y hy e=> ?_⟩
   subst e
   obtain⟨b,_,h2⟩:=b4 x hx
   obtain⟨r,_,h4⟩:=wc hro x hy
   have:=g5.apart _ _ x h2 h4
   cases this
  ·obtain⟨x,hx⟩:=Hn p hp
   rcases(g5.sI hx).1 with h|h
   ·exact .inr h
   ·exact .inl h
open Go.RowKit
def dz (g:fF->fF):Nat->fF
 |0,_=>none
 |n+1,v=>g (dz g n) v
def aF:Nat:=2^200
def T.bR (Γ:Nat->fF):T mA->aP->List fF->Option aP
 | .aa es,ρ,_=>some (es.map (Ex.ev ρ))
 | .fail _,_,_=>none
 | .ite c p q,ρ,K=>if(c.ev ρ).bool=true then p.bR Γ ρ K else q.bR Γ ρ K
 | .ag c k,ρ,K=>if(c.ev ρ).bool=true then k.bR Γ ρ K else none
 | .call f es n k,ρ,K=>match Γ f (es.map (Ex.ev ρ))with
   |some rs=>if rs.length=n then k.bR Γ (ρ++rs) K else none
   |none=>none
 | .loop NL body,ρ,K=>dz (fun rec v=>body.bR Γ (ρ++v) (K++[rec])) aF (NL.map (Ex.ev ρ))
 | .next l vs,ρ,K=>match K[l]? with
   |some k=>k (vs.map (Ex.ev ρ))
   |none=>none
theorem UX {Γ:Nat->fF}{rs:aP}:∀(t:T mA) (ρ:aP) (K:List fF) (N:Nx),t.bR Γ ρ K=some rs->K.length=N.length->
 (∀(l:Nat) (k:fF) (J:aP->Prop),K[l]? =some k->N[l]? =some J->∀v,k v=some rs->J v)->t.wp Γ ρ N fun es ρ' _=>es.map (Ex.ev ρ')=rs
 | .aa es,ρ,K,N,h,_,_=>by simp only[T.bR,Option.some.injEq]at h;exact h
 | .fail _,ρ,K,N,h,_,_=>by simp[T.bR]at h
 | .ite c p q,ρ,K,N,h,hl,hk=>by
   simp only[T.bR]at h
   simp only[T.wp]
   split
   ·rename_i hc;rw[if_pos hc]at h;exact UX p ρ K N h hl hk
   ·rename_i hc;rw[if_neg hc]at h;exact UX q ρ K N h hl hk
 | .ag c k,ρ,K,N,h,hl,hk=>by
   simp only[T.bR]at h
   by_cases hc:(c.ev ρ).bool=true
   ·rw[if_pos hc]at h;exact⟨hc,UX k ρ K N h hl hk⟩
   ·rw[if_neg hc]at h;cases h
 | .call f es n k,ρ,K,N,h,hl,hk=>by
   simp only[T.bR]at h
   cases hg:Γ f (es.map (Ex.ev ρ))with
   |none=>simp[hg]at h
   |some r=>
    simp only[hg]at h
    by_cases hn:r.length=n
    ·rw[if_pos hn]at h;exact⟨r,hg,hn,UX k _ K N h hl hk⟩
    ·rw[if_neg hn]at h;cases h
 | .loop NL body,ρ,K,N,h,hl,hk=>by
   simp only[T.bR]at h
   generalize hgg:(fun(rec:fF) (v:aP)=>body.bR Γ (ρ++v) (K++[rec]))=g at h
   have hI:∃n,dz g n (NL.map (Ex.ev ρ))=some rs:=⟨_,h⟩
   refine⟨fun v=>∃n,dz g n v=some rs,fun v=>leastOf (fun n=>dz g n v=some rs),hI,fun v _ hv=> ?_⟩
   obtain⟨h1,h2⟩:=leastOf_spec hv
   generalize hm:leastOf (fun n=>dz g n v=some rs)=m at*
   cases m with
   |zero=>simp[dz]at h1
   |succ m=>
    have h1:g (dz g m) v=some rs:=h1
    rw[<-hgg]at h1
    refine UX body _ _ _ h1 (by simp[hl]) ?_
    intro l k J hkl hNl u hu
    rcases Nat.lt_trichotomy l K.length with fU|heq|hgt
    ·rw[getElem?_append_left fU]at hkl
     rw[getElem?_append_left (by omega)]at hNl
     exact hk l k J hkl hNl u hu
    ·subst heq
     rw[getElem?_append_right (Nat.le_refl _),Nat.sub_self]at hkl
     rw[hl,getElem?_append_right (Nat.le_refl _),Nat.sub_self]at hNl
     simp only[getElem?_cons_zero,Option.some.injEq]at hkl hNl
     subst hkl;subst hNl
     have hu:dz g m u=some rs:=by rw[<-hgg];exact hu
     exact⟨⟨m,hu⟩,by rw[hm];exact lt_succ_of_le ((leastOf_spec (p:=fun n=>dz g n u=some rs) ⟨m,hu⟩).2 m hu)⟩
    ·rw[getElem?_eq_none (by simp;omega)]at hkl;cases hkl
 | .next l vs,ρ,K,N,h,hl,hk=>by
   simp only[T.bR]at h
   simp only[T.wp]
   cases hK:K[l]? with
   |none=>simp[hK]at h
   |some k=>
    simp only[hK]at h
    have fU:l<N.length:=by rw[<-hl];exact(List.getElem?_eq_some_iff.1 hK).1
    rw[getElem?_eq_getElem fU]
    exact hk l k _ hK (getElem?_eq_getElem fU) _ h
structure rj (P:Program) [xj P] where
 dr:nK
 F:fF
 holds:dr.holds P F
def dl {P:Program} [xj P]:List (rj P)->Nat->fF
 |[],_,_=>none
 |k::r,f,l=>if k.dr.key=f then k.F l else dl r f l
theorem ad9 {P:Program} [xj P]:∀{L:List (rj P)},(L.map (·.dr.key)).Nodup->∀k∈L,dl L k.dr.key=k.F
 |[],_,_,h=>by cases h
 |k::L,hd,x,hx=>by
  simp only[map_cons,nodup_cons]at hd
  funext l
  simp only[dl]
  rcases mem_cons.1 hx with rfl|hx
  ·rw[if_pos rfl]
  ·rw[if_neg (fun e=>hd.1 (mem_map.2 ⟨x,hx,e.symm⟩)),ad9 hd.2 x hx]
class Mrg (P:Program) where
 mg:List FuncId
 pr:List FuncId
instance (priority:=low) aGb {P:Program}:Mrg P:=⟨[],[]⟩
class Bld (P:Program) where
 bd:Option Bd
 ok:∀b,bd=some b->b.ok P
instance (priority:=low) aGa {P:Program}:Bld P:=⟨none,fun _ h=>by cases h⟩
class Att (P:Program) where
 att:Option (FuncId×TypeId)
 ok:∀f ty,att=some (f,ty)->amv P f ty
instance (priority:=low) aF9 {P:Program}:Att P:=⟨none,fun _ _ h=>by cases h⟩
def akW (P:Program) [Bld P] [Mrg P] [Att P] (cons:nw) (hs:List As) (pl:uE) (ins:List FuncId):Cx:=⟨P,cons,hs,pl,ins,Bld.bd P,Mrg.mg P,Att.att P,Mrg.pr P⟩
def known {P:Program} [xj P] [ib:Bld P] [Mrg P] [ia:Att P] (mixed:P.follows .mixedOrders=true) (L:List (rj P)) (hd:(L.map (·.dr.key)).Nodup) (hs:List As) (pl:uE) (pK:DC P pl) (ins:List FuncId) (Ru:∀f,oQ ins f=true->∀args w,(callFunc f args).run P w= .ok (.enter f args) w)
 (d:Nat) (dr:nK) (dU:∀args w,(callFunc dr.f args).run P w= .ok (.enter dr.f args) w) (t:T mA) (ht:tree (akW P (L.map (·.dr)) hs pl ins) d dr=t):rj P where
 dr:=dr
 F l:=if l.length=dr.width then t.bR (dl L) l []else none
 holds:=by
  refine@ajb (akW P (L.map (·.dr)) hs pl ins) ‹xj P› (dl L) (fun w0 hG B hn aek=> ?_) dr _ d dU fun l rs hl hF=> ?_
  ·refine⟨mixed,pK,fun c hc w hb=> ?_,Ru,fun b hb=>ib.ok b hb,fun f ty h=>ia.ok f ty h⟩
   obtain⟨k,hk,rfl⟩:=mem_map.1 hc
   rw[ad9 hd k hk,aek]
   exact k.holds w (xj.aoB w0 w B.X hG (fun p hp=>by have:=B.hX p hp;rw[aek]at this;exact this) (by rw[<-hn];exact hb))
  ·rw[ht]
   rw[if_pos hl]at hF
   exact UX t l [] [] hF rfl (fun l k J h=>by simp at h)
def nothing {P:Program} [xj P] (dr:nK):rj P:=⟨dr,fun _=>none,fun _ _ _ _ _ _ _ _ _ _ _ _ _ _ h=>by cases h⟩
structure Mem (P:Program) [Bld P] [Mrg P] [Att P] (cons:nw) where
 dr:nK
 hs:List As
 pl:uE
 pK:DC P pl
 ins:List FuncId
 Ru:∀f,oQ ins f=true->∀args w,(callFunc f args).run P w= .ok (.enter f args) w
 d:Nat
 dU:∀args w,(callFunc dr.f args).run P w= .ok (.enter dr.f args) w
 t:T mA
 ht:tree (akW P cons hs pl ins) d dr=t
noncomputable def XI {P:Program} [xj P] [Bld P] [Mrg P] [Att P] (mixed:P.follows .mixedOrders=true) (L:List (rj P)) (cs:nw) (hd:((cs++L.map (·.dr)).map nK.key).Nodup) (ms:List (Mem P (cs++L.map (·.dr)))) (hm:ms.map (·.dr)=cs):Nat->{K:List (rj P)//K.map (·.dr)=cs}
 |0=>⟨cs.map nothing,by rw[map_map];exact(map_congr_left fun _ _=>rfl).trans (map_id _)⟩
 |n+1=>⟨ms.map fun m=>known mixed ((XI mixed L cs hd ms hm n).1++L) (by
   have:((XI mixed L cs hd ms hm n).1++L).map (·.dr.key)=(cs++L.map (·.dr)).map nK.key:=by
    have e:(XI mixed L cs hd ms hm n).1.map (·.dr.key)=cs.map nK.key:=by
     have:=congrArg (List.map nK.key) (XI mixed L cs hd ms hm n).2
     rw[map_map]at this
     exact this
    rw[map_append,map_append,e];simp
   rw[this];exact hd) m.hs m.pl m.pK m.ins m.Ru m.d m.dr m.dU m.t (by
   have:((XI mixed L cs hd ms hm n).1++L).map (·.dr)=cs++L.map (·.dr):=by
    rw[map_append,(XI mixed L cs hd ms hm n).2]
   rw[this];exact m.ht),by rw[map_map];exact(map_congr_left fun _ _=>rfl).trans hm⟩
end
section
open Go.ChangeShapes Go.WideShapes Go.ChangeAt Go.RowKit
def aoG (sh:TypeId->Option tE) (cells:TypeId->Nat):List Field->Nat->Option tE
 |[],_=>some []
 |f::fs,n=>match sh f.type with
  |some ks=>if f.offset=n/\cells f.type=ks.length then(aoG sh cells fs (n+ks.length)).map (ks++·)else none
  |none=>none
def ksT (P:Program):Nat->TypeId->Option tE
 |0,_=>none
 |d+1,t=>match P.underlying t with
  |some (.int k)=>some [.int k]
  |some .bool=>some [.bool]
  |some .string=>some [.str]
  |some (.slice e)=>some [.sl e]
  |some (.struct fs)=>match aoG (ksT P d) P.cellsOf fs.toList 0 with
   |some ks=>if P.cellsOf t=ks.length then some ks else none
   |none=>none
  |_=>none
def H6 (P:Program) (e:TypeId):Bool:=match P.underlying e with|some (.struct _)=>true|some (.array _ _)=>true|_=>false
def Qq (S:uE) (ks:tE):Bool:=ks.all fun k=>match k with| .sl e=>S.contains e|_=>true
def arm (P:Program) (S:uE):Bool:=S.all fun e=>match ksT P 8 e with
 |some ks=>decide (qg P e=some (H6 P e,ks))&&(decide (P.cellsOf e=ks.length)&&(dC (H6 P e) ks&&Qq S ks))
 |none=>false
theorem avs {P:Program}{S:uE} (h:arm P S=true){e:TypeId} (he:S.contains e=true):∃ks,ksT P 8 e=some ks/\qg P e=some (H6 P e,ks)/\P.cellsOf e=ks.length/\dC (H6 P e) ks=true/\Qq S ks=true:=by
 have:=all_eq_true.1 h e (by simpa using he)
 split at this
 ·rename_i ks hk
  simp only[Bool.and_eq_true,decide_eq_true_eq]at this
  exact⟨ks,hk,this.1,this.2.1,this.2.2.1,this.2.2.2⟩
 ·cases this
theorem alj {S:uE}{a b:tE}:Qq S (a++b)=true↔Qq S a=true/\Qq S b=true:=by
 unfold Qq;rw[all_append,Bool.and_eq_true]
def Xx (agg:Bool) (ys:aP):Sc:=if agg then .l ys else ys.getD 0 (.i 0)
theorem Zu:∀(ks:tE) (ys zs:aP),ys.length=ks.length->qH (.l (zs++ys)) ks zs.length=zipWith CK.val ks ys
 |[],[],_,_=>rfl
 |k::ks,y::ys,zs,h=>by
  have ih:=Zu ks ys (zs++[y]) (by simpa using h)
  rw[append_assoc,singleton_append,length_append,length_singleton]at ih
  simp[qH,ih]
 |[],_::_,_,h=>by simp at h
 |_::_,[],_,h=>by simp at h
theorem afB {agg:Bool}{ks:tE}{ys:aP} (dI:AJ agg ks) (h:ys.length=ks.length):cY agg ks (Xx agg ys)=zipWith CK.val ks ys:=by
 cases agg with
 |true=>exact Zu ks ys [] h
 |false=>
  rcases dI with h1|h1
  ·cases h1
  ·match ks,ys,h1,h with
   |[k],[y],_,_=>rfl
theorem art {agg:Bool}{ks:tE} (dI:AJ agg ks) (jW:0<ks.length){l:aP}{j:Nat}{u:Value} (h:(aE agg ks l)[j]? =some u):
 j/ks.length<l.length/\(cY agg ks (l.getD (j/ks.length) (.i 0)))[j%ks.length]? =some u:=by
 have fU:j<l.length*ks.length:=by rw[<-bS dI];exact(List.getElem?_eq_some_iff.1 h).1
 have h1:j/ks.length<l.length:=by rw[div_lt_iff_lt_mul jW];exact fU
 refine⟨h1,?_⟩
 have hm:j%ks.length<(cY agg ks (l.getD (j/ks.length) (.i 0))).length:=by rw[eC dI];exact mod_lt _ jW
 have:=flat_get dI l (j/ks.length) (j%ks.length) _ h1 (getElem?_eq_getElem hm)
 rw[Nat.mul_comm,div_add_mod]at this
 rw[this]at h
 rw[getElem?_eq_getElem hm];exact h
theorem ani:∀z:Sc,z.er.er=z.er
 | .i _| .b _| .s _=>by simp[Sc.er]
 | .l xs=>by
   simp only[Sc.er,map_map,Sc.l.injEq]
   exact map_congr_left fun x hx=>ani x
 | .r _ _ _ xs=>by
   simp only[Sc.er,map_map,Sc.l.injEq]
   exact map_congr_left fun x hx=>ani x
def ij {H:Type}:DataW H->Bool| .agg _=>true|_=>false
mutual
def iJ {H:Type}:DataW H->aP
 | .lit (.int _ n)=>[.i n]
 | .lit (.bool b)=>[.b b]
 | .lit (.string s)=>[.s ⟨s.toArray⟩]
 | .slice elems _=>[.l (Xi elems)]
 | .agg parts=>vr parts
 |_=>[.l []]
def vr {H:Type}:List (DataW H)->aP
 |[]=>[]
 |d::r=>iJ d++vr r
def Xi {H:Type}:List (DataW H)->aP
 |[]=>[]
 |d::r=>Xx (ij d) (iJ d)::Xi r
end
theorem acY {H:Type}:∀l:List (DataW H),Xi l=l.map fun d=>Xx (ij d) (iJ d)
 |[]=>by rw[Xi];rfl
 |d::r=>by rw[Xi,acY r];rfl
section
variable {P:Program}{w:World}{base:Nat}{H:Type}{enc:TypeId×Value->H}{spare:Nat->Bool}{held:Bool}
structure Lie (P:Program) (w:World) (ks:tE) (cs:dm) (zs:aP):Prop where
 len:zs.length=ks.length
 val:cs=zipWith CK.val ks zs
 fits:∀i k,ks[i]? =some k->Fits P w (fun _=>True) k (zs.getD i (.i 0))
theorem Lie.one {k:CK}{z:Sc} (h:Fits P w (fun _=>True) k z):Lie P w [k] [k.val z] [z]:=⟨rfl,rfl,fun i k' hk=>by
 cases i with
 |zero=>cases hk;exact h
 |succ i=>simp at hk⟩
theorem Lie.app {k1 k2:tE}{c1 c2:dm}{z1 z2:aP} (h1:Lie P w k1 c1 z1) (h2:Lie P w k2 c2 z2):Lie P w (k1++k2) (c1++c2) (z1++z2):=by
 refine⟨by simp[h1.len,h2.len],?_,fun i k hk=> ?_⟩
 ·rw[zipWith_append (by rw[h1.len]),h1.val,h2.val]
 ·rcases Nat.lt_or_ge i k1.length with hi|hi
  ·rw[getElem?_append_left hi]at hk
   rw[bj _ _ _ _ (by rw[h1.len];exact hi)]
   exact h1.fits i k hk
  ·rw[getElem?_append_right hi]at hk
   rw[getD_eq_getElem?_getD,getElem?_append_right (by rw[h1.len];exact hi),h1.len,<-getD_eq_getElem?_getD]
   exact h2.fits _ k hk
theorem Lie.nil:Lie P w [] [] []:=⟨rfl,rfl,fun i k hk=>by simp at hk⟩
theorem alX {a:Addr}{n:Nat}{cs:dm} (h:w.cells? base a n=some cs) (hn:0<n):a.spot=none:=by
 obtain⟨_,h2,h3⟩:=World.cells?_some h
 have:=h3 0 hn
 have e:a.add 0=a:=by unfold Addr.add;rw[if_pos rfl]
 rw[e,getElem?_eq_getElem (by omega)]at this
 unfold World.cell? at this
 split at this
 ·cases hs:a.spot with
  |none=>rfl
  |some x=>rw[hs]at this;simp at this
 ·cases this
theorem aql {S:uE} (hS:arm P S=true):∀(fuel d:Nat) (t:TypeId) (ks:tE) (cs:dm) (x:DataW H×List MemPlace),ksT P d t=some ks->Qq S ks=true->DataW.trod enc P w base spare held fuel t cs=some x->
 ∃zs,Lie P w ks cs zs/\mS zs=iJ x.1/\ij x.1=H6 P t:=by
 intro fuel
 induction fuel with
 |zero=>intro d t ks cs x _ _ hx;simp[DataW.trod]at hx
 |succ fuel ih=>
  intro d t ks cs x h ME hx
  cases d with
  |zero=>simp[ksT]at h
  |succ d=>
  simp only[ksT]at h
  split at h
  ·rename_i k hu
   cases h
   obtain⟨n,rfl,e,hw⟩:=DataW.trod_int hu hx
   subst e
   exact⟨[.i n],.one (k:= .int k) (z:= .i n) (.int ..),by simp[iJ,mS],by simp[ij,H6,hu]⟩
  ·rename_i hu
   cases h
   obtain⟨b,rfl,e⟩:=DataW.trod_bool hu hx
   subst e
   exact⟨[.b b],.one (k:= .bool) (z:= .b b) (.bool ..),by simp[iJ,mS,Sc.er],by simp[ij,H6,hu]⟩
  ·rename_i hu
   cases h
   obtain⟨s,rfl,e,hs⟩:=DataW.trod_string hu hx
   subst e
   exact⟨[.s s],.one (k:= .str) (z:= .s s) (.str ..),by simp[iJ,mS,Sc.er],by simp[ij,H6,hu]⟩
  ·rename_i e hu
   cases h
   have he:S.contains e=true:=by
    unfold Qq at ME
    simpa using ME
   obtain⟨ks,hk,hT,hc,hf,aDu⟩:=avs hS he
   obtain⟨dI,jW⟩:=jp hf
   have hag:H6 P t=false:=by simp[H6,hu]
   rcases DataW.trod_slice hu hx with⟨h0,rfl⟩|⟨a,len,cap,elems,rest,n,hn,h0,rfl,hb,hl,hm,hlen,NK,_,_⟩
   ·subst h0
    exact⟨[.r none 0 0 []],.one (k:= .sl e) (z:= .r none 0 0 []) (.sl hT rfl (Nat.le_refl _) (by simp[maxLen]) (fun j u hj=>by simp[aE]at hj) (fun x hx=>by cases hx)),by simp[iJ,mS,Sc.er],by simp[ij,hag]⟩
   ·subst h0
    cases hn
    have Rp:∀i,i<len->∃zs:aP,(∃R0,w.cells? base (a.add (i*P.cellsOf e)) (P.cellsOf e)=some R0/\Lie P w ks R0 zs)/\(∃y,elems[i]? =some y/\mS zs=iJ y.1/\ij y.1=H6 P e):=by
     intro i hi
     have:=NK i hi
     rw[getElem?_eq_getElem (by omega)]at this
     obtain⟨R0,h1,h2⟩:=Option.bind_eq_some_iff.1 this
     obtain⟨zs,q1,q2,q3⟩:=ih 8 e ks R0 _ hk aDu h2
     exact⟨zs,⟨R0,h1,q1⟩,_,getElem?_eq_getElem (by omega),q2,q3⟩
    obtain⟨Z,hZ⟩:=Go.Deep.choose_lt (α:=aP) (n:=len) (p:=fun i zs=>(∃R0,w.cells? base (a.add (i*P.cellsOf e)) (P.cellsOf e)=some R0/\Lie P w ks R0 zs)/\(∃y,elems[i]? =some y/\mS zs=iJ y.1/\ij y.1=H6 P e)) Rp
    refine⟨[.r (some a) len cap ((range len).map fun i=>Xx (H6 P e) (Z i))],.one (k:= .sl e) (z:= .r (some a) len cap ((range len).map fun i=>Xx (H6 P e) (Z i))) (.sl hT (by simp) hl hm (fun j u hj=> ?_) (fun x hx i k hki=> ?_)),?_,by simp[ij,hag]⟩
    ·obtain⟨j1,j2⟩:=art dI jW hj
     simp only[length_map,length_range]at j1
     obtain⟨⟨R0,c1,c2⟩,_⟩:=hZ _ j1
     have h00:0<len:=Nat.lt_of_le_of_lt (zero_le _) j1
     obtain⟨⟨cs0,d1,_⟩,_⟩:=hZ 0 h00
     have auf:a.spot=none:=by
      rw[Nat.zero_mul]at d1
      have e0:a.add 0=a:=by unfold Addr.add;rw[if_pos rfl]
      rw[e0]at d1
      exact alX d1 (by rw[hc];exact jW)
     have he':((range len).map fun i=>Xx (H6 P e) (Z i)).getD (j/ks.length) (.i 0)=Xx (H6 P e) (Z (j/ks.length)):=by
      simp[getD_eq_getElem?_getD,j1]
     rw[he',afB dI c2.len,<-c2.val]at j2
     have hcell:=(World.cells?_some c1).2.2 (j%ks.length) (by rw[hc];exact mod_lt _ jW)
     obtain⟨blk,off,spot⟩:=a
     simp only at auf
     subst auf
     refine⟨blk,off,rfl,?_,trivial⟩
     rw[add_lit,add_lit,hc]at hcell
     have ej:off+j/ks.length*ks.length+j%ks.length=off+j:=by rw[Nat.add_assoc,Nat.mul_comm,div_add_mod]
     rw[ej]at hcell
     rw[hcell];exact j2
    ·obtain⟨q,hq,rfl⟩:=mem_map.1 hx
     obtain⟨⟨R0,_,c2⟩,_⟩:=hZ q (mem_range.1 hq)
     have:=c2.fits i k hki
     cases aCX:H6 P e with
     |true=>exact this
     |false=>
      rw[aCX]at dI
      rcases dI with h1|h1
      ·cases h1
      ·have:i=0:=by have:=(List.getElem?_eq_some_iff.1 hki).1;omega
       subst this
       exact this
    ·have e1:mS [Sc.r (some a) len cap ((range len).map fun i=>Xx (H6 P e) (Z i))]=[.l (mS ((range len).map fun i=>Xx (H6 P e) (Z i)))]:=by simp[mS,Sc.er]
     rw[e1,iJ,acY]
     congr 2
     apply ext_getElem?
     intro i
     by_cases hi:i<len
     ·obtain⟨_,y,y1,y2,y3⟩:=hZ i hi
      simp only[mS,getElem?_map,y1,Option.map_some,map_map]
      rw[getElem?_range hi]
      simp only[Option.map_some,Function.comp,Option.some.injEq]
      rw[<-y2,<-y3]
      cases ij y.1 with
      |true=>simp[Xx,Sc.er,mS]
      |false=>
       simp only[Xx,Bool.false_eq_true,if_false,mS,getD_eq_getElem?_getD,getElem?_map]
       cases(Z i)[0]? <;>simp[]
     ·rw[getElem?_eq_none (by simp[mS];omega),getElem?_eq_none (by simp;omega)]
  ·rename_i fs hu
   split at h
   ·rename_i OL hks
    split at h
    ·rename_i hc
     cases h
     obtain⟨xs,n,hn,e,hl,hlen,hf⟩:=DataW.trod_struct hu hx
     cases hn
     subst e
     have hfs:∀(l:List Field) (m:Nat) (ks:tE) (i:Nat),aoG (ksT P d) P.cellsOf l m=some ks->Qq S ks=true->(∀j f,l[j]? =some f->fs[i+j]? =some f)->i+l.length=fs.size->
      ∃zs,Lie P w ks ((cs.drop m).take ks.length) zs/\(m+ks.length<=cs.length\/ks=[])/\mS zs=vr ((xs.drop i).map (·.1)):=by
      intro l
      induction l with
      |nil=>
       intro m ks i hk _ _ hi
       simp only[aoG,Option.some.injEq]at hk
       subst hk
       refine⟨[],by simpa using Lie.nil,.inr rfl,?_⟩
       rw[drop_eq_nil_of_le (by simp at hi;omega)]
       simp[vr,mS]
      |cons f l ih2=>
       intro m ks i hk ME hi kZ
       simp only[aoG]at hk
       split at hk
       ·rename_i k1 hk1
        split at hk
        ·rename_i ab2
         obtain⟨k2,pJ,rfl⟩:=Option.map_eq_some_iff.1 hk
         have hfi:=hi 0 f rfl
         rw[Nat.add_zero]at hfi
         have fU:i<fs.size:=(Array.getElem?_eq_some_iff.1 hfi).1
         have:=hf i f hfi
         rw[getElem?_eq_getElem (by omega)]at this
         obtain⟨aDv,aDw⟩:=alj.1 ME
         obtain⟨z1,e1,g1,_⟩:=ih d f.type k1 _ _ hk1 aDv this
         simp only[length_cons]at kZ
         obtain⟨z2,e2,b2,g2⟩:=ih2 (m+k1.length) k2 (i+1) pJ aDw (fun j g hj=>by
          have:=hi (j+1) g (by simpa using hj)
          rw[show i+1+j=i+(j+1)by omega];exact this) (by omega)
         rw[ab2.1,ab2.2]at e1
         have l1:((cs.drop m).take k1.length).length=k1.length:=by rw[e1.val];simp[e1.len]
         have hb:k1.length<=(cs.drop m).length:=by rw[length_take]at l1;omega
         refine⟨z1++z2,?_,?_,?_⟩
         ·rw[length_append,take_add,drop_drop]
          exact e1.app e2
         ·by_cases h0:k1++k2=[]
          ·exact .inr h0
          ·left
           rw[length_append]
           rcases b2 with h|h
           ·omega
           ·subst h
            simp only[append_nil]at h0
            have:0<k1.length:=length_pos_iff.2 h0
            rw[length_drop]at hb
            simp;omega
         ·rw[Q1,g1,g2,drop_eq_getElem_cons (by omega:i<xs.length),map_cons,vr]
        ·cases hk
       ·cases hk
     obtain⟨zs,e1,_,g1⟩:=hfs fs.toList 0 ks 0 hks ME (fun j f hj=>by simpa using hj) (by simp)
     refine⟨zs,?_,?_,by simp[ij,H6,hu]⟩
     ·rw[drop_zero,take_of_length_le (by omega)]at e1
      exact e1
     ·rw[g1,drop_zero,iJ]
    ·cases h
   ·cases h
  ·cases h
theorem Zc:∀{ks:tE}{cs:dm}{zs:aP},Lie P w ks cs zs->mD P w (fun _=>True) (ks.map .ck) cs (mS zs)
 |[],cs,zs,h=>by
  have:=h.len;have e:=h.val
  cases zs with
  |nil=>simp at e;subst e;trivial
  |cons=>simp at this
 |k::ks,cs,zs,h=>by
  cases zs with
  |nil=>have:=h.len;simp at this
  |cons z zs=>
   have e:=h.val
   simp only[zipWith_cons_cons]at e
   subst e
   exact⟨⟨z,(ani z).symm,rfl,h.fits 0 k rfl⟩,Zc ⟨by have:=h.len;simpa using this,rfl,fun i k' hk=>h.fits (i+1) k' hk⟩⟩
theorem awH {S:uE} (hS:arm P S=true){r:Reach}{b0:Nat}{t:TypeId}{v:Value}{d:DataW H}{p:List MemPlace}{ks:tE}{fs:Array Field} (hu:P.underlying t=some (.struct fs)) (hk:ksT P 8 t=some ks) (ME:Qq S ks=true) (ok:Value.okWide P w r b0 t v) (h:DataW.Trod enc P w base spare held t v d p):
 MZ P w (fun _=>True) [.g (ks.map .ck)] [v] (iJ d) []:=by
 obtain⟨cs,rfl,_⟩:=okWide_struct hu ok
 obtain⟨fuel,hf⟩:=h
 obtain⟨zs,h1,h2,_⟩:=aql hS fuel 8 t ks _ _ hk ME hf
 have h2:mS zs=iJ d:=h2
 have h1:Lie P w ks cs.toList zs:=h1
 rw[<-h2]
 exact⟨_,[],[],[],by simp,rfl,⟨rfl,cs.toList,by simp,Zc h1⟩,rfl,rfl⟩
end
section
variable {P:Program}{w:World}{base:Nat}{H:Type}{enc:TypeId×Value->H}{spare:Nat->Bool}{held:Bool}
def Rd1 (enc:TypeId×Value->H) (P:Program) (w:World) (base:Nat) (spare:Nat->Bool) (held:Bool) (n:Nat) (t:TypeId) (d:DataW H):Prop:=∃cs pl,DataW.trod enc P w base spare held n t cs=some (d,pl)
def RdL (enc:TypeId×Value->H) (P:Program) (w:World) (base:Nat) (spare:Nat->Bool) (held:Bool) (n:Nat):uE->List (DataW H)->Prop
 |[],[]=>True
 |t::ts,d::ds=>Rd1 enc P w base spare held n t d/\RdL enc P w base spare held n ts ds
 |_,_=>False
variable {n:Nat}{t e:TypeId}{d:DataW H}
theorem Rd1.int {k:IntKind} (h:Rd1 enc P w base spare held n t d) (hu:P.underlying t=some (.int k)):∃z,d= .lit (.int k z):=by
 obtain⟨cs,pl,h⟩:=h
 obtain⟨z,_,e,_⟩:=DataW.trod_int hu h
 exact⟨z,congrArg Prod.fst e⟩
theorem Rd1.bool (h:Rd1 enc P w base spare held n t d) (hu:P.underlying t=some .bool):∃b,d= .lit (.bool b):=by
 obtain⟨cs,pl,h⟩:=h
 obtain⟨z,_,e⟩:=DataW.trod_bool hu h
 exact⟨z,congrArg Prod.fst e⟩
theorem Rd1.str (h:Rd1 enc P w base spare held n t d) (hu:P.underlying t=some .string):∃b:List UInt8,d= .lit (.string b):=by
 obtain⟨cs,pl,h⟩:=h
 obtain⟨z,_,e,_⟩:=DataW.trod_string hu h
 exact⟨_,congrArg Prod.fst e⟩
theorem Rd1.slice (h:Rd1 enc P w base spare held n t d) (hu:P.underlying t=some (.slice e)):d= .nil\/∃m elems sp,n=m+1/\d= .slice elems sp/\∀x∈elems,Rd1 enc P w base spare held m e x:=by
 obtain⟨cs,pl,h⟩:=h
 rcases DataW.trod_slice hu h with⟨_,e⟩|⟨a,len,cap,elems,rest,m,hn,_,e,_,_,_,hlen,NK,_,_⟩
 ·exact .inl (congrArg Prod.fst e)
 ·refine .inr ⟨m,_,_,hn,congrArg Prod.fst e,fun x hx=> ?_⟩
  obtain⟨y,hy,rfl⟩:=mem_map.1 hx
  obtain⟨i,hi⟩:=mem_iff_getElem?.1 hy
  have:=NK i (by have:=(List.getElem?_eq_some_iff.1 hi).1;omega)
  rw[hi]at this
  obtain⟨R0,_,h2⟩:=Option.bind_eq_some_iff.1 this
  exact⟨R0,y.2,h2⟩
theorem apq {m:Nat}{fs:Array Field}{cs:dm}{xs:List (DataW H×List MemPlace)} (hf:∀(i:Nat) (f:Field),fs[i]? =some f->DataW.trod enc P w base spare held m f.type ((cs.drop f.offset).take (P.cellsOf f.type))=xs[i]?) (hl:xs.length=fs.size):
 ∀(l:List Field) (i:Nat),(∀j f,l[j]? =some f->fs[i+j]? =some f)->i+l.length=fs.size->RdL enc P w base spare held m (l.map (·.type)) ((xs.drop i).map (·.1))
 |[],i,_,h=>by rw[drop_eq_nil_of_le (by simp at h;omega)];trivial
 |f::l,i,hi,h=>by
  simp only[length_cons]at h
  have hfi:=hi 0 f rfl
  rw[Nat.add_zero]at hfi
  have:=hf i f hfi
  rw[getElem?_eq_getElem (by omega)]at this
  rw[drop_eq_getElem_cons (by omega:i<xs.length),map_cons]
  exact⟨⟨_,_,this⟩,apq hf hl l (i+1) (fun j g hj=>by
   have:=hi (j+1) g (by simpa using hj)
   rw[show i+1+j=i+(j+1)by omega];exact this) (by omega)⟩
theorem Rd1.struct {fs:Array Field}{ts:uE} (h:Rd1 enc P w base spare held n t d) (hu:P.underlying t=some (.struct fs)) (ht:fs.toList.map (·.type)=ts):∃m ds,n=m+1/\d= .agg ds/\RdL enc P w base spare held m ts ds:=by
 obtain⟨cs,pl,h⟩:=h
 obtain⟨xs,m,hn,e,_,hl,hf⟩:=DataW.trod_struct hu h
 refine⟨m,_,hn,congrArg Prod.fst e,?_⟩
 have:=apq hf hl fs.toList 0 (fun j f hj=>by simpa using hj) (by simp)
 rw[ht]at this
 simpa using this
theorem RdL.cons {m:Nat}{ts:uE}:∀{ds:List (DataW H)},RdL enc P w base spare held m (t::ts) ds->∃x r,ds=x::r/\Rd1 enc P w base spare held m t x/\RdL enc P w base spare held m ts r
 |[],h=>h.elim
 |x::r,h=>⟨x,r,rfl,h.1,h.2⟩
theorem RdL.nil {m:Nat}:∀{ds:List (DataW H)},RdL enc P w base spare held m [] ds->ds=[]
 |[],_=>rfl
 |_::_,h=>h.elim
end
theorem aoH {P:Program} [xj P] (k:rj P){w:World}{vs:dm}{l:aP} (dU:(callFunc k.dr.f vs.toArray).run P w= .ok (.enter k.dr.f vs.toArray) w) (hl:fS k.dr.args=[]) (kY:MZ P w (fun _=>True) k.dr.args vs l []) (hF:k.F l=some [.b true]) (af6:k.dr.res= .c (.a (.ck .bool))) (hG:xj.G P w):
 Calls P k.dr.f vs.toArray w fun e w'=>e= .returned (.bool true)/\Below w.heap.size w w':=by
 rcases k.holds w hG (fun _=>True) vs [] [] [] [] l _ kY (by rw[hl];exact⟨rfl,rfl,rfl⟩) (by simp[eH]) (fun p hp=>by simp[eH]at hp) hF with⟨_,h⟩|⟨v,w',h,_⟩
 rotate_left
 ·rw[dU]at h;cases h
 refine h.mono ?_
 rintro e w' ⟨v,rfl,hb,x1,x2,r,ys',u1,u2,e1,_,_,ho,hr⟩
 rw[af6]at hr
 rw[hl]at ho
 obtain⟨rfl,rfl,rfl⟩:=ho
 obtain⟨rfl,rfl,x,rfl,dd,hd,hx,_⟩:=hr
 simp only[nil_append,append_nil,List.cons.injEq,and_true]at e1
 subst e1
 have hx:v= .bool dd.bool:=hx
 have:dd= .b true:=by cases dd<;>simp_all [Sc.er]
 subst this
 exact⟨by rw[hx];rfl,⟨hb.os,hb.tape,hb.output,hb.size,fun k hk=>hb.block k hk (by simp[eH])⟩⟩
end
section
open Go.RowKit
def KM:jl:=[7,8,25,26,37,38,49,50,53,54,58,59,61,62,67,68,69,70,74,75,85,86,96,97,104,105,108,109,110,111,113,114,115,116,132,133,134,135,138,139,141,142,147,148,155,156,157,158,179,180,186,187,221,222,228,229,232,233,260,261,262,263,304,305,352,353,374,375,380,382,432,433]
theorem awM:DC Tryz.prog KM:=by
 intro t ht
 have:=pV.1 ht
 simp only[KM,mem_cons,not_mem_nil,or_false]at this
 rcases this with rfl|rfl|rfl|rfl|rfl|rfl|rfl|rfl|rfl|rfl|rfl|rfl|rfl|rfl|rfl|rfl|rfl|rfl|rfl|rfl|rfl|rfl|rfl|rfl|rfl|rfl|rfl|rfl|rfl|rfl|rfl|rfl|rfl|rfl|rfl|rfl|rfl|rfl|rfl|rfl|rfl|rfl|rfl|rfl|rfl|rfl|rfl|rfl|rfl|rfl|rfl|rfl|rfl|rfl|rfl|rfl|rfl|rfl|rfl|rfl|rfl|rfl|rfl|rfl|rfl|rfl|rfl|rfl|rfl|rfl|rfl|rfl
 ·exact⟨Tryz.stoodInHeld7,Tryz.eqGuardType7⟩
 ·exact⟨Tryz.stoodInHeld8,Tryz.eqGuardType8⟩
 ·exact⟨Tryz.stoodInHeld25,Tryz.eqGuardType25⟩
 ·exact⟨Tryz.stoodInHeld26,Tryz.eqGuardType26⟩
 ·exact⟨Tryz.stoodInHeld37,Tryz.eqGuardType37⟩
 ·exact⟨Tryz.stoodInHeld38,Tryz.eqGuardType38⟩
 ·exact⟨Tryz.stoodInHeld49,Tryz.eqGuardType49⟩
 ·exact⟨Tryz.stoodInHeld50,Tryz.eqGuardType50⟩
 ·exact⟨Tryz.stoodInHeld53,Tryz.eqGuardType53⟩
 ·exact⟨Tryz.stoodInHeld54,Tryz.eqGuardType54⟩
 ·exact⟨Tryz.stoodInHeld58,Tryz.eqGuardType58⟩
 ·exact⟨Tryz.stoodInHeld59,Tryz.eqGuardType59⟩
 ·exact⟨Tryz.stoodInHeld61,Tryz.eqGuardType61⟩
 ·exact⟨Tryz.stoodInHeld62,Tryz.eqGuardType62⟩
 ·exact⟨Tryz.stoodInHeld67,Tryz.eqGuardType67⟩
 ·exact⟨Tryz.stoodInHeld68,Tryz.eqGuardType68⟩
 ·exact⟨Tryz.stoodInHeld69,Tryz.eqGuardType69⟩
 ·exact⟨Tryz.stoodInHeld70,Tryz.eqGuardType70⟩
 ·exact⟨Tryz.stoodInHeld74,Tryz.eqGuardType74⟩
 ·exact⟨Tryz.stoodInHeld75,Tryz.eqGuardType75⟩
 ·exact⟨Tryz.stoodInHeld85,Tryz.eqGuardType85⟩
 ·exact⟨Tryz.stoodInHeld86,Tryz.eqGuardType86⟩
 ·exact⟨Tryz.stoodInHeld96,Tryz.eqGuardType96⟩
 ·exact⟨Tryz.stoodInHeld97,Tryz.eqGuardType97⟩
 ·exact⟨Tryz.stoodInHeld104,Tryz.eqGuardType104⟩
 ·exact⟨Tryz.stoodInHeld105,Tryz.eqGuardType105⟩
 ·exact⟨Tryz.stoodInHeld108,Tryz.eqGuardType108⟩
 ·exact⟨Tryz.stoodInHeld109,Tryz.eqGuardType109⟩
 ·exact⟨Tryz.stoodInHeld110,Tryz.eqGuardType110⟩
 ·exact⟨Tryz.stoodInHeld111,Tryz.eqGuardType111⟩
 ·exact⟨Tryz.stoodInHeld113,Tryz.eqGuardType113⟩
 ·exact⟨Tryz.stoodInHeld114,Tryz.eqGuardType114⟩
 ·exact⟨Tryz.stoodInHeld115,Tryz.eqGuardType115⟩
 ·exact⟨Tryz.stoodInHeld116,Tryz.eqGuardType116⟩
 ·exact⟨Tryz.stoodInHeld132,Tryz.eqGuardType132⟩
 ·exact⟨Tryz.stoodInHeld133,Tryz.eqGuardType133⟩
 ·exact⟨Tryz.stoodInHeld134,Tryz.eqGuardType134⟩
 ·exact⟨Tryz.stoodInHeld135,Tryz.eqGuardType135⟩
 ·exact⟨Tryz.stoodInHeld138,Tryz.eqGuardType138⟩
 ·exact⟨Tryz.stoodInHeld139,Tryz.eqGuardType139⟩
 ·exact⟨Tryz.stoodInHeld141,Tryz.eqGuardType141⟩
 ·exact⟨Tryz.stoodInHeld142,Tryz.eqGuardType142⟩
 ·exact⟨Tryz.stoodInHeld147,Tryz.eqGuardType147⟩
 ·exact⟨Tryz.stoodInHeld148,Tryz.eqGuardType148⟩
 ·exact⟨Tryz.stoodInHeld155,Tryz.eqGuardType155⟩
 ·exact⟨Tryz.stoodInHeld156,Tryz.eqGuardType156⟩
 ·exact⟨Tryz.stoodInHeld157,Tryz.eqGuardType157⟩
 ·exact⟨Tryz.stoodInHeld158,Tryz.eqGuardType158⟩
 ·exact⟨Tryz.stoodInHeld179,Tryz.eqGuardType179⟩
 ·exact⟨Tryz.stoodInHeld180,Tryz.eqGuardType180⟩
 ·exact⟨Tryz.stoodInHeld186,Tryz.eqGuardType186⟩
 ·exact⟨Tryz.stoodInHeld187,Tryz.eqGuardType187⟩
 ·exact⟨Tryz.stoodInHeld221,Tryz.eqGuardType221⟩
 ·exact⟨Tryz.stoodInHeld222,Tryz.eqGuardType222⟩
 ·exact⟨Tryz.stoodInHeld228,Tryz.eqGuardType228⟩
 ·exact⟨Tryz.stoodInHeld229,Tryz.eqGuardType229⟩
 ·exact⟨Tryz.stoodInHeld232,Tryz.eqGuardType232⟩
 ·exact⟨Tryz.stoodInHeld233,Tryz.eqGuardType233⟩
 ·exact⟨Tryz.stoodInHeld260,Tryz.eqGuardType260⟩
 ·exact⟨Tryz.stoodInHeld261,Tryz.eqGuardType261⟩
 ·exact⟨Tryz.stoodInHeld262,Tryz.eqGuardType262⟩
 ·exact⟨Tryz.stoodInHeld263,Tryz.eqGuardType263⟩
 ·exact⟨Tryz.stoodInHeld304,Tryz.eqGuardType304⟩
 ·exact⟨Tryz.stoodInHeld305,Tryz.eqGuardType305⟩
 ·exact⟨Tryz.stoodInHeld352,Tryz.eqGuardType352⟩
 ·exact⟨Tryz.stoodInHeld353,Tryz.eqGuardType353⟩
 ·exact⟨Tryz.stoodInHeld374,Tryz.eqGuardType374⟩
 ·exact⟨Tryz.stoodInHeld375,Tryz.eqGuardType375⟩
 ·exact⟨Tryz.stoodInHeld380,Tryz.eqGuardType380⟩
 ·exact⟨Tryz.stoodInHeld382,Tryz.eqGuardType382⟩
 ·exact⟨Tryz.stoodInHeld432,Tryz.eqGuardType432⟩
 ·exact⟨Tryz.stoodInHeld433,Tryz.eqGuardType433⟩
def aar:jl:=999999999::KM
theorem aAV:DC Tryz.prog aar:=by
 intro t ht
 rcases mem_cons.1 (pV.1 ht)with rfl|h
 ·exact⟨by kernel_rfl,by kernel_rfl⟩
 ·exact awM t (pV.2 h)
def Gb:jl:=[15,16,20,21,22,23,26,27,33,38,39,40,41,44,50,57,58,60,70,75,77,79,87,88,89,93,94,95,96,97,98,99,100,101,105,106,107,108,109,110,111,112,113,114,115,116,117,118,120,121,122,124,126,127,128,131,135,136,137,140,151,152,161,163,164,165,168,170,177,178,179,180,187,189,191,192,194,204,205,207,208,214,221,222,233,234,236,237,240,244,245,246,247,248,249,250,263,264,276,277,278,279,281,295,298,299,303,304,307,318,319,320,321,322,323,324,325,337,339,342]
theorem aow:∀f,oQ Gb f=true->∀args w,(callFunc f args).run Tryz.prog w= .ok (.enter f args) w:=by
 intro f hf
 have:=pV.1 hf
 simp only[Gb,mem_cons,not_mem_nil,or_false]at this
 rcases this with rfl|rfl|rfl|rfl|rfl|rfl|rfl|rfl|rfl|rfl|rfl|rfl|rfl|rfl|rfl|rfl|rfl|rfl|rfl|rfl|rfl|rfl|rfl|rfl|rfl|rfl|rfl|rfl|rfl|rfl|rfl|rfl|rfl|rfl|rfl|rfl|rfl|rfl|rfl|rfl|rfl|rfl|rfl|rfl|rfl|rfl|rfl|rfl|rfl|rfl|rfl|rfl|rfl|rfl|rfl|rfl|rfl|rfl|rfl|rfl|rfl|rfl|rfl|rfl|rfl|rfl|rfl|rfl|rfl|rfl|rfl|rfl|rfl|rfl|rfl|rfl|rfl|rfl|rfl|rfl|rfl|rfl|rfl|rfl|rfl|rfl|rfl|rfl|rfl|rfl|rfl|rfl|rfl|rfl|rfl|rfl|rfl|rfl|rfl|rfl|rfl|rfl|rfl|rfl|rfl|rfl|rfl|rfl|rfl|rfl|rfl|rfl|rfl|rfl|rfl|rfl|rfl|rfl|rfl|rfl
 ·exact fun args w=>Tryz.call15 args w
 ·exact fun args w=>Tryz.call16 args w
 ·exact fun args w=>Tryz.call20 args w
 ·exact fun args w=>Tryz.call21 args w
 ·exact fun args w=>Tryz.call22 args w
 ·exact fun args w=>Tryz.call23 args w
 ·exact fun args w=>Tryz.call26 args w
 ·exact fun args w=>Tryz.call27 args w
 ·exact fun args w=>Tryz.call33 args w
 ·exact fun args w=>Tryz.call38 args w
 ·exact fun args w=>Tryz.call39 args w
 ·exact fun args w=>Tryz.call40 args w
 ·exact fun args w=>Tryz.call41 args w
 ·exact fun args w=>Tryz.call44 args w
 ·exact fun args w=>Tryz.call50 args w
 ·exact fun args w=>Tryz.call57 args w
 ·exact fun args w=>Tryz.call58 args w
 ·exact fun args w=>Tryz.call60 args w
 ·exact fun args w=>Tryz.call70 args w
 ·exact fun args w=>Tryz.call75 args w
 ·exact fun args w=>Tryz.call77 args w
 ·exact fun args w=>Tryz.call79 args w
 ·exact fun args w=>Tryz.call87 args w
 ·exact fun args w=>Tryz.call88 args w
 ·exact fun args w=>Tryz.call89 args w
 ·exact fun args w=>Tryz.call93 args w
 ·exact fun args w=>Tryz.call94 args w
 ·exact fun args w=>Tryz.call95 args w
 ·exact fun args w=>Tryz.call96 args w
 ·exact fun args w=>Tryz.call97 args w
 ·exact fun args w=>Tryz.call98 args w
 ·exact fun args w=>Tryz.call99 args w
 ·exact fun args w=>Tryz.call100 args w
 ·exact fun args w=>Tryz.call101 args w
 ·exact fun args w=>Tryz.call105 args w
 ·exact fun args w=>Tryz.call106 args w
 ·exact fun args w=>Tryz.call107 args w
 ·exact fun args w=>Tryz.call108 args w
 ·exact fun args w=>Tryz.call109 args w
 ·exact fun args w=>Tryz.call110 args w
 ·exact fun args w=>Tryz.call111 args w
 ·exact fun args w=>Tryz.call112 args w
 ·exact fun args w=>Tryz.call113 args w
 ·exact fun args w=>Tryz.call114 args w
 ·exact fun args w=>Tryz.call115 args w
 ·exact fun args w=>Tryz.call116 args w
 ·exact fun args w=>Tryz.call117 args w
 ·exact fun args w=>Tryz.call118 args w
 ·exact fun args w=>Tryz.call120 args w
 ·exact fun args w=>Tryz.call121 args w
 ·exact fun args w=>Tryz.call122 args w
 ·exact fun args w=>Tryz.call124 args w
 ·exact fun args w=>Tryz.call126 args w
 ·exact fun args w=>Tryz.call127 args w
 ·exact fun args w=>Tryz.call128 args w
 ·exact fun args w=>Tryz.call131 args w
 ·exact fun args w=>Tryz.call135 args w
 ·exact fun args w=>Tryz.call136 args w
 ·exact fun args w=>Tryz.call137 args w
 ·exact fun args w=>Tryz.call140 args w
 ·exact fun args w=>Tryz.call151 args w
 ·exact fun args w=>Tryz.call152 args w
 ·exact fun args w=>Tryz.call161 args w
 ·exact fun args w=>Tryz.call163 args w
 ·exact fun args w=>Tryz.call164 args w
 ·exact fun args w=>Tryz.call165 args w
 ·exact fun args w=>Tryz.call168 args w
 ·exact fun args w=>Tryz.call170 args w
 ·exact fun args w=>Tryz.call177 args w
 ·exact fun args w=>Tryz.call178 args w
 ·exact fun args w=>Tryz.call179 args w
 ·exact fun args w=>Tryz.call180 args w
 ·exact fun args w=>Tryz.call187 args w
 ·exact fun args w=>Tryz.call189 args w
 ·exact fun args w=>Tryz.call191 args w
 ·exact fun args w=>Tryz.call192 args w
 ·exact fun args w=>Tryz.call194 args w
 ·exact fun args w=>Tryz.call204 args w
 ·exact fun args w=>Tryz.call205 args w
 ·exact fun args w=>Tryz.call207 args w
 ·exact fun args w=>Tryz.call208 args w
 ·exact fun args w=>Tryz.call214 args w
 ·exact fun args w=>Tryz.call221 args w
 ·exact fun args w=>Tryz.call222 args w
 ·exact fun args w=>Tryz.call233 args w
 ·exact fun args w=>Tryz.call234 args w
 ·exact fun args w=>Tryz.call236 args w
 ·exact fun args w=>Tryz.call237 args w
 ·exact fun args w=>Tryz.call240 args w
 ·exact fun args w=>Tryz.call244 args w
 ·exact fun args w=>Tryz.call245 args w
 ·exact fun args w=>Tryz.call246 args w
 ·exact fun args w=>Tryz.call247 args w
 ·exact fun args w=>Tryz.call248 args w
 ·exact fun args w=>Tryz.call249 args w
 ·exact fun args w=>Tryz.call250 args w
 ·exact fun args w=>Tryz.call263 args w
 ·exact fun args w=>Tryz.call264 args w
 ·exact fun args w=>Tryz.call276 args w
 ·exact fun args w=>Tryz.call277 args w
 ·exact fun args w=>Tryz.call278 args w
 ·exact fun args w=>Tryz.call279 args w
 ·exact fun args w=>Tryz.call281 args w
 ·exact fun args w=>Tryz.call295 args w
 ·exact fun args w=>Tryz.call298 args w
 ·exact fun args w=>Tryz.call299 args w
 ·exact fun args w=>Tryz.call303 args w
 ·exact fun args w=>Tryz.call304 args w
 ·exact fun args w=>Tryz.call307 args w
 ·exact fun args w=>Tryz.call318 args w
 ·exact fun args w=>Tryz.call319 args w
 ·exact fun args w=>Tryz.call320 args w
 ·exact fun args w=>Tryz.call321 args w
 ·exact fun args w=>Tryz.call322 args w
 ·exact fun args w=>Tryz.call323 args w
 ·exact fun args w=>Tryz.call324 args w
 ·exact fun args w=>Tryz.call325 args w
 ·exact fun args w=>Tryz.call337 args w
 ·exact fun args w=>Tryz.call339 args w
 ·exact fun args w=>Tryz.call342 args w
theorem ym:Tryz.prog.follows .mixedOrders=true:=by kernel_rfl
end
section
open Go.RowKit Go.Shelf
theorem aAt:liesAt Tryz.prog Tryz.prog.depth 68 (2/Tryz.prog.cellsOf 68) 0 68 1=true:=by kernel_rfl
theorem aAu:liesAt Tryz.prog Tryz.prog.depth 70 (3/Tryz.prog.cellsOf 70) 0 68 1=true:=by kernel_rfl
theorem apQ:(Tryz.prog.info? 68).map (·.size)=some 2:=by kernel_rfl
set_option maxHeartbeats 1000000 in
set_option maxRecDepth 100000 in
theorem ara (b:Nat) (w:World) (h0:w.cell? ⟨b,0,none⟩=some (.pointer (some ⟨b,0,none⟩))):
 Calls Tryz.prog 128 #[.pointer (some ⟨b,0,none⟩)] w fun e w'=>e= .returned (.tuple #[])/\w'=w:=by
 obtain⟨j,hj,_⟩:=Option.map_eq_some_iff.1 apQ
 have mixed:Tryz.prog.follows .mixedOrders=true:=by kernel_rfl
 have tb:=Tryz.underlying68;have ab:=Tryz.isAgg68;have zb:=Tryz.sizeOf68;have ub:=run_underlying Tryz.underlying68
 have tp:=Tryz.underlying65;have ap:=Tryz.isAgg65;have zp:=Tryz.sizeOf65;have up:=run_underlying Tryz.underlying65
 go_enter Tryz.func128,Tryz.ntmps128
 go_wp2
 rw[Lib.run_neq_ptr_same w _ tp hj]
 go_wp2
 go_end0
 exact⟨rfl,rfl⟩
set_option maxHeartbeats 1000000 in
set_option maxRecDepth 100000 in
theorem amW (b:Nat) (w:World) (h0:w.cell? ⟨b,0,none⟩=some (.pointer none)){ty m:Nat} (hsh:w.shape? b=some (ty,m)) (hm:0<m) (anZ:liesAt Tryz.prog Tryz.prog.depth ty (m/Tryz.prog.cellsOf ty) 0 68 1=true) (hfz:w.frozen? ⟨b,0,none⟩=false):
 Calls Tryz.prog 128 #[.pointer (some ⟨b,0,none⟩)] w fun e w'=>e= .returned (.tuple #[])/\w'=w.setCell ⟨b,0,none⟩ (.pointer (some ⟨b,0,none⟩)):=by
 obtain⟨j,hj,hjs⟩:=Option.map_eq_some_iff.1 apQ
 have mixed:Tryz.prog.follows .mixedOrders=true:=by kernel_rfl
 have tb:=Tryz.underlying68;have ab:=Tryz.isAgg68;have zb:=Tryz.sizeOf68;have ub:=run_underlying Tryz.underlying68
 have tp:=Tryz.underlying65;have ap:=Tryz.isAgg65;have zp:=Tryz.sizeOf65;have up:=run_underlying Tryz.underlying65
 have tu:=Tryz.underlying279;have au:=Tryz.isAgg279;have zu:=Tryz.sizeOf279;have uu:=run_underlying Tryz.underlying279
 go_enter Tryz.func128,Tryz.ntmps128
 go_wp2
 rw[Lib.run_to_unsafe w ⟨b,0,none⟩ tp tu hj (by rw[hjs];decide) hsh hm]
 simp only[Result.andThen]
 rw[Oper.upon_value]
 go_wp2
 rw[run_callFunc_extern Tryz.func183 (by kernel_rfl) (by kernel_rfl) (by kernel_rfl) (e:=Extern.AbiNoEscape.same) (by kernel_rfl)]
 rw[Lib.run_noEscape]
 simp only[Result.andThen]
 rw[Oper.upon_value]
 go_wp2
 rw[Lib.run_from_unsafe w ⟨b,0,none⟩ tu tp hj hsh anZ]
 simp only[Result.andThen]
 rw[Oper.upon_value]
 go_wp2
 go_end0
 exact⟨rfl,rfl⟩
theorem arb:Tryz.prog.cellsOf 5=1:=by kernel_rfl
set_option maxHeartbeats 1000000 in
set_option maxRecDepth 100000 in
theorem axh (n g cap:Nat) (p:Value) (zs:dm) (ty:TypeId) (l:List UInt8) (cur:Array Value) (w:World) (h0:l≠[]) (hbk:w.heap[n]? =some (.cells (p:: .slice (some ⟨g,0,none⟩) l.length cap::zs).toArray ty (0,0)))
 (hg:w.heap[g]? =some (.cells cur 5 (0,0))) (hnc:l.length<=cap) (OG:cap<=maxLen) (MD:cur.size=cap) (TG:cur.toList.take l.length=Lib.byteCells l):
 Calls Tryz.prog 58 #[.pointer (some ⟨n,0,none⟩)] w fun e w'=>e= .returned (.string ⟨l.toArray⟩)/\w'=w.drew.freeze ⟨g,0,none⟩ l.length:=by
 have X5:l.length≠0:=by simpa using h0
 have c1:w.drew.cell? ⟨n,1,none⟩=some (.slice (some ⟨g,0,none⟩) l.length cap):=by
  have:w.drew.heap[n]? =some (.cells (p:: .slice (some ⟨g,0,none⟩) l.length cap::zs).toArray ty (0,0)):=hbk
  rw[Lib.cell_of_heap this];rfl
 have hSD:(Builtin.unsafeSliceData_ #[66] 230 #[.slice (some ⟨g,0,none⟩) l.length cap]).run Tryz.prog w.drew= .ok (.pointer (some ⟨g,0,none⟩)) w.drew:=
  Lib.run_unsafeSliceData_row _ _ _ _ _ _ (by omega)
 have hUS:(Builtin.unsafeString_ #[230,3] 9 #[.pointer (some ⟨g,0,none⟩),.int .i64 l.length]).run Tryz.prog w.drew= .ok (.string ⟨l.toArray⟩) (w.drew.freeze ⟨g,0,none⟩ l.length):=by
  refine Lib.run_unsafeString_row w.drew 230 3 9 5 Tryz.underlying230 arb g cur.size (by have hg':w.drew.heap[g]? =some (.cells cur 5 (0,0)):=hg;simp[World.shape?,hg']) l h0 (by omega) (by unfold maxLen at OG;omega) ?_
  intro j x hx
  have hg':w.drew.heap[g]? =some (.cells cur 5 (0,0)):=hg
  have h1:(Lib.byteCells l)[j]? =some (.int .u8 x.toNat):=by simp[Lib.byteCells,hx]
  rw[<-TG]at h1
  have h2:cur.toList[j]? =some (.int .u8 x.toNat):=by
   rw[getElem?_take]at h1
   split at h1
   ·exact h1
   ·cases h1
  have h3:(⟨g,0,none⟩:Addr).add j=⟨g,j,none⟩:=by simp[Addr.add];exact fun e=>e.symm
  rw[h3,Lib.cell_of_heap hg']
  simpa using h2
 have mixed:Tryz.prog.follows .mixedOrders=true:=by kernel_rfl
 have tb:=Tryz.underlying68;have ab:=Tryz.isAgg68;have zb:=Tryz.sizeOf68;have ub:=run_underlying Tryz.underlying68
 have tp:=Tryz.underlying65;have ap:=Tryz.isAgg65;have zp:=Tryz.sizeOf65;have up:=run_underlying Tryz.underlying65
 have ts:=Tryz.underlying66;have a_s:=Tryz.isAgg66;have zs:=Tryz.sizeOf66;have us:=run_underlying Tryz.underlying66
 have tq:=Tryz.underlying230;have aq:=Tryz.isAgg230;have zq:=Tryz.sizeOf230;have uq:=run_underlying Tryz.underlying230
 have ti:=Tryz.underlying3;have ai:=Tryz.isAgg3;have zi:=Tryz.sizeOf3;have ui:=run_underlying Tryz.underlying3
 have tz:=Tryz.underlying9;have az:=Tryz.isAgg9;have zz:=Tryz.sizeOf9;have uz:=run_underlying Tryz.underlying9
 go_enter Tryz.func58,Tryz.ntmps58
 go_wp2
 go_region_o
 all_goals(go_wp2;go_ret;exact⟨rfl,rfl⟩)
def bdT:Bd:=⟨128,58,5,[(68,2),(70,3)]⟩
theorem aq3 {ty m:Nat} (h:bdT.has ty m=true):0<m/\liesAt Tryz.prog Tryz.prog.depth ty (m/Tryz.prog.cellsOf ty) 0 68 1=true:=by
 simp only[Bd.has,bdT,any_cons,any_nil,Bool.or_false,Bool.or_eq_true,Bool.and_eq_true]at h
 rcases h with⟨h1,h2⟩|⟨h1,h2⟩
 ·have h1:=eq_of_beq_eq_true h1
  have h2:=eq_of_beq_eq_true h2
  subst h1;subst h2
  exact⟨by decide,aAt⟩
 ·have h1:=eq_of_beq_eq_true h1
  have h2:=eq_of_beq_eq_true h2
  subst h1;subst h2
  exact⟨by decide,aAu⟩
theorem aCl:bdT.ok Tryz.prog where
 cc n p y zs ty w hh h hp:=by
  have fU:n<w.heap.size:=(Array.getElem?_eq_some_iff.1 h).1
  have c0:w.cell? ⟨n,0,none⟩=some p:=by rw[Lib.cell_of_heap h];rfl
  obtain⟨hm,anZ⟩:=aq3 hh
  rcases hp with rfl|rfl
  ·refine(amW n w c0 (ty:=ty) (m:=zs.length+2) (by simp[World.shape?,h]) hm anZ (Lib.frozen_of_heap h 0)).mono ?_
   rintro e w' ⟨rfl,rfl⟩
   refine⟨rfl,by simp[World.setCell],?_,fun m hm=>Below.heap_setCell _ _ _ _ (fun e=>hm (by simp[e])),fun B w0 hb hB=>hb.setCell (p:=⟨n,0,none⟩) hB _⟩
   simp[World.setCell,Array.getElem?_modify,h]
  ·refine(ara n w c0).mono ?_
   rintro e w' ⟨rfl,rfl⟩
   exact⟨rfl,rfl,h,fun _ _=>rfl,fun _ _ hb _=>hb⟩
 sf n g cap p zs ty l cur w hh h0 hbk hg hnc OG MD ht:=by
  refine(axh n g cap p zs ty l cur w h0 hbk hg hnc OG MD ht).mono ?_
  rintro e w' ⟨rfl,rfl⟩
  refine⟨rfl,?_,fun m hm=> ?_,fun B w0 hb hB=>Lib.below_freeze (Below.drew hb) (p:=⟨g,0,none⟩) hB _⟩
  ·unfold World.freeze;split
   ·rfl
   ·exact Array.size_modify
  ·unfold World.freeze;split
   ·rfl
   ·simp only[Array.getElem?_modify]
    rw[if_neg (fun e=>hm e.symm)];rfl
instance:Bld Tryz.prog:=⟨some bdT,fun b hb=>by cases hb;exact aCl⟩
end
section
open Go.RowKit
theorem amI (p:Addr) (w:World):
 CallsD Tryz.prog 60 #[.pointer (some p)] .returning w fun e u' w'=>e= .returned (.tuple #[])/\u'= .returning/\w'=w:=by
 refine callsD_of_wpS Tryz.func60 rfl fun c₀ cs hu=> ?_
 apply wpS_seq
 apply wpS_region
 simp[wpOpsS,go_sem,recoverD,hu,Tryz.ntmps60,Exit.thenS]
 apply wpS_seq
 apply wpS_seq
 apply wpS_region
 simp[wpOpsS,go_sem,Exit.thenS]
 refine wpS_cond (t:=true) (by simp[Act.eval,Array.replicate]) ?_
 simp only[if_true]
 refine wpS_of_wp (wp_ret ?_)
 cases c₀
 simp_all [bodyPostS,results,Tryz.results60,Exit.thenS]
theorem ax9:amv Tryz.prog 22 3:=by
 intro g mR w R aDm dU
 have hmf:∀(fn:Fn) (first cap:Array Value) (w:World),(Instr.makeFunc fn first cap).run Tryz.prog w= .ok (.func fn first cap) w:=fun _ _ _ _=>rfl
 go_enter_defers Tryz.func22,Tryz.ntmps22
 go_wp2
 refine Calls.mono (show Calls Tryz.prog g mR (w.alloc (Obj.cells #[Value.int IntKind.i64 0] 3)) _ from dU) ?_
 rintro e w' ⟨⟨v,rfl⟩,⟨x,hx⟩,hR⟩
 have hc:w'.cell? ⟨w.heap.size,0,none⟩=some x:=by rw[Lib.cell_of_heap hx];rfl
 have hz:w'.frozen? ⟨w.heap.size,0,none⟩=false:=Lib.frozen_of_heap hx 0
 go_wp2
 have fU:w.heap.size<w'.heap.size:=(Array.getElem?_eq_some_iff.1 hx).1
 have Pw:w'.setCell ⟨w.heap.size,0,none⟩ (Value.int IntKind.i64 0)={w' with heap:=w'.heap.setIfInBounds w.heap.size (.cells #[.int .i64 0] 3 (0,0))}:=by
  unfold World.setCell
  congr 1
  apply Array.ext_getElem?
  intro j
  rw[Array.getElem?_modify,Array.getElem?_setIfInBounds]
  by_cases hj:w.heap.size=j
  ·subst hj
   have hg:=(Array.getElem?_eq_some_iff.1 hx).2
   simp[fU,hg]
  ·simp[hj]
 have hcell:(w'.setCell ⟨w.heap.size,0,none⟩ (Value.int IntKind.i64 0)).cell? ⟨w.heap.size,0,none⟩=some (.int .i64 0):=by
  rw[Pw]
  have hh:(w'.heap.setIfInBounds w.heap.size (.cells #[.int .i64 0] 3 (0,0)))[w.heap.size]? =some (.cells #[.int .i64 0] 3 (0,0)):=by rw[Array.getElem?_setIfInBounds,if_pos rfl,if_pos fU]
  rw[Lib.cell_of_heap (w:={w' with heap:=w'.heap.setIfInBounds w.heap.size (.cells #[.int .i64 0] 3 (0,0))}) hh];rfl
 refine leaves_cons (f:=60) (args:= #[.pointer (some ⟨w.heap.size,0,none⟩)]) (by simp) (by simp[go_sem]) ?_
 refine(amI ⟨w.heap.size,0,none⟩ _).mono ?_
 rintro e u' w2 ⟨rfl,rfl,rfl⟩
 refine⟨.int .i64 0,?_,w',hR,rfl,Pw⟩
 simp[settle,results,Tryz.results22,go_sem,hcell]
instance:Att Tryz.prog:=⟨some (22,3),fun f ty h=>by cases h;exact ax9⟩
end
section
open Go.Shelf
def laysItoa_ren:Ren:=⟨fun|171=>49|243=>133|246=>188|283=>224|284=>225|285=>226|286=>227|129=>269|317=>268|318=>270|319=>271|320=>272|337=>300|338=>301|n=>n,fun|3=>3|9=>9|2=>2|4=>4|171=>323|0=>0|53=>284|37=>66|5=>5|173=>326|212=>360|51=>281|20=>20|213=>361|46=>216|232=>402|233=>403|n=>n,fun|17=>1|18=>2|19=>3|n=>n⟩
theorem laysItoa:LaysM.n171 Tryz.prog laysItoa_ren:={
 mixed:=by kernel_rfl
 f129:=Tryz.func269.trans (congrArg some (by kernel_rfl))
 f171:=Tryz.func49.trans (congrArg some (by kernel_rfl))
 f243:=Tryz.func133.trans (congrArg some (by kernel_rfl))
 f246:=Tryz.func188.trans (congrArg some (by kernel_rfl))
 f283:=Tryz.func224.trans (congrArg some (by kernel_rfl))
 f284:=Tryz.func225.trans (congrArg some (by kernel_rfl))
 f285:=Tryz.func226.trans (congrArg some (by kernel_rfl))
 f286:=Tryz.func227.trans (congrArg some (by kernel_rfl))
 f317:=Tryz.func268.trans (congrArg some (by kernel_rfl))
 f318:=Tryz.func270.trans (congrArg some (by kernel_rfl))
 f319:=Tryz.func271.trans (congrArg some (by kernel_rfl))
 f320:=Tryz.func272.trans (congrArg some (by kernel_rfl))
 f337:=Tryz.func300.trans (congrArg some (by kernel_rfl))
 f338:=Tryz.func301.trans (congrArg some (by kernel_rfl))
 t0:=Tryz.underlying0
 a0:=Tryz.isAgg0
 z0:=Tryz.sizeOf0
 v0:=Tryz.zeroValue0
 t2:=Tryz.underlying2
 a2:=Tryz.isAgg2
 z2:=Tryz.sizeOf2
 v2:=Tryz.zeroValue2
 t3:=Tryz.underlying3
 a3:=Tryz.isAgg3
 z3:=Tryz.sizeOf3
 v3:=Tryz.zeroValue3
 t4:=Tryz.underlying4
 a4:=Tryz.isAgg4
 z4:=Tryz.sizeOf4
 v4:=Tryz.zeroValue4
 t5:=Tryz.underlying5
 a5:=Tryz.isAgg5
 z5:=Tryz.sizeOf5
 v5:=Tryz.zeroValue5
 t9:=Tryz.underlying9
 a9:=Tryz.isAgg9
 z9:=Tryz.sizeOf9
 v9:=Tryz.zeroValue9
 t20:=Tryz.underlying20
 a20:=Tryz.isAgg20
 z20:=Tryz.sizeOf20
 v20:=Tryz.zeroValue20
 t37:=Tryz.underlying66
 a37:=Tryz.isAgg66
 z37:=Tryz.sizeOf66
 v37:=Tryz.zeroValue66
 t46:=Tryz.underlying216
 a46:=Tryz.isAgg216
 z46:=Tryz.sizeOf216
 v46:=Tryz.zeroValue216
 t51:=Tryz.underlying281
 a51:=Tryz.isAgg281
 z51:=Tryz.sizeOf281
 v51:=Tryz.zeroValue281
 t53:=Tryz.underlying284
 a53:=Tryz.isAgg284
 z53:=Tryz.sizeOf284
 v53:=Tryz.zeroValue284
 t171:=Tryz.underlying323
 a171:=Tryz.isAgg323
 z171:=Tryz.sizeOf323
 v171:=Tryz.zeroValue323
 t173:=Tryz.underlying326
 a173:=Tryz.isAgg326
 z173:=Tryz.sizeOf326
 v173:=Tryz.zeroValue326
 t212:=Tryz.underlying360
 a212:=Tryz.isAgg360
 z212:=Tryz.sizeOf360
 v212:=Tryz.zeroValue360
 t213:=Tryz.underlying361
 a213:=Tryz.isAgg361
 z213:=Tryz.sizeOf361
 t232:=Tryz.underlying402
 a232:=Tryz.isAgg402
 z232:=Tryz.sizeOf402
 v232:=Tryz.zeroValue402
 t233:=Tryz.underlying403
 a233:=Tryz.isAgg403
 z233:=Tryz.sizeOf403
 v233:=Tryz.zeroValue403
 g17:=by kernel_rfl
 g18:=by kernel_rfl
 g19:=by kernel_rfl
 i0:=by kernel_rfl
 i2:=by kernel_rfl
 i3:=by kernel_rfl
 i4:=by kernel_rfl
 i5:=by kernel_rfl
 i9:=by kernel_rfl
 i20:=by kernel_rfl
 i37:=by kernel_rfl
 i46:=by kernel_rfl
 i51:=by kernel_rfl
 i53:=by kernel_rfl
 i171:=by kernel_rfl
 i173:=by kernel_rfl
 i212:=by kernel_rfl
 i232:=by kernel_rfl
 i233:=by kernel_rfl
 m17:=by kernel_rfl
 m18:=by kernel_rfl
 m19:=by kernel_rfl}
def laysAtoi_ren:Ren:=⟨fun|172=>279|244=>303|245=>304|247=>320|279=>321|280=>322|281=>323|282=>324|287=>337|316=>338|171=>49|205=>339|321=>353|322=>354|243=>133|246=>188|283=>224|284=>225|285=>226|286=>227|129=>269|317=>268|318=>270|319=>271|320=>272|337=>300|338=>301|n=>n,fun|9=>9|3=>3|75=>124|76=>125|4=>4|5=>5|167=>404|37=>66|0=>0|85=>405|2=>2|168=>407|53=>284|175=>415|46=>216|210=>419|127=>230|145=>433|143=>431|21=>21|171=>323|173=>326|212=>360|51=>281|20=>20|213=>361|232=>402|233=>403|80=>151|n=>n,fun|15=>4|16=>5|17=>1|18=>2|19=>3|n=>n⟩
theorem laysAtoi:LaysC.n172 Tryz.prog laysAtoi_ren:={
 mixed:=by kernel_rfl
 f129:=Tryz.func269.trans (congrArg some (by kernel_rfl))
 f171:=Tryz.func49.trans (congrArg some (by kernel_rfl))
 f172:=Tryz.func279.trans (congrArg some (by kernel_rfl))
 f205:=Tryz.func339.trans (congrArg some (by kernel_rfl))
 f243:=Tryz.func133.trans (congrArg some (by kernel_rfl))
 f244:=Tryz.func303.trans (congrArg some (by kernel_rfl))
 f245:=Tryz.func304.trans (congrArg some (by kernel_rfl))
 f246:=Tryz.func188.trans (congrArg some (by kernel_rfl))
 f247:=Tryz.func320.trans (congrArg some (by kernel_rfl))
 f279:=Tryz.func321.trans (congrArg some (by kernel_rfl))
 f280:=Tryz.func322.trans (congrArg some (by kernel_rfl))
 f281:=Tryz.func323.trans (congrArg some (by kernel_rfl))
 f282:=Tryz.func324.trans (congrArg some (by kernel_rfl))
 f283:=Tryz.func224.trans (congrArg some (by kernel_rfl))
 f284:=Tryz.func225.trans (congrArg some (by kernel_rfl))
 f285:=Tryz.func226.trans (congrArg some (by kernel_rfl))
 f286:=Tryz.func227.trans (congrArg some (by kernel_rfl))
 f287:=Tryz.func337.trans (congrArg some (by kernel_rfl))
 f316:=Tryz.func338.trans (congrArg some (by kernel_rfl))
 f317:=Tryz.func268.trans (congrArg some (by kernel_rfl))
 f318:=Tryz.func270.trans (congrArg some (by kernel_rfl))
 f319:=Tryz.func271.trans (congrArg some (by kernel_rfl))
 f320:=Tryz.func272.trans (congrArg some (by kernel_rfl))
 f321:=Tryz.func353.trans (congrArg some (by kernel_rfl))
 f322:=Tryz.func354.trans (congrArg some (by kernel_rfl))
 f337:=Tryz.func300.trans (congrArg some (by kernel_rfl))
 f338:=Tryz.func301.trans (congrArg some (by kernel_rfl))
 t0:=Tryz.underlying0
 a0:=Tryz.isAgg0
 z0:=Tryz.sizeOf0
 v0:=Tryz.zeroValue0
 t2:=Tryz.underlying2
 a2:=Tryz.isAgg2
 z2:=Tryz.sizeOf2
 v2:=Tryz.zeroValue2
 t3:=Tryz.underlying3
 a3:=Tryz.isAgg3
 z3:=Tryz.sizeOf3
 v3:=Tryz.zeroValue3
 t4:=Tryz.underlying4
 a4:=Tryz.isAgg4
 z4:=Tryz.sizeOf4
 v4:=Tryz.zeroValue4
 t5:=Tryz.underlying5
 a5:=Tryz.isAgg5
 z5:=Tryz.sizeOf5
 v5:=Tryz.zeroValue5
 t9:=Tryz.underlying9
 a9:=Tryz.isAgg9
 z9:=Tryz.sizeOf9
 v9:=Tryz.zeroValue9
 t20:=Tryz.underlying20
 a20:=Tryz.isAgg20
 z20:=Tryz.sizeOf20
 v20:=Tryz.zeroValue20
 t21:=Tryz.underlying21
 a21:=Tryz.isAgg21
 z21:=Tryz.sizeOf21
 v21:=Tryz.zeroValue21
 t37:=Tryz.underlying66
 a37:=Tryz.isAgg66
 z37:=Tryz.sizeOf66
 v37:=Tryz.zeroValue66
 t46:=Tryz.underlying216
 a46:=Tryz.isAgg216
 z46:=Tryz.sizeOf216
 v46:=Tryz.zeroValue216
 t51:=Tryz.underlying281
 a51:=Tryz.isAgg281
 z51:=Tryz.sizeOf281
 v51:=Tryz.zeroValue281
 t53:=Tryz.underlying284
 a53:=Tryz.isAgg284
 z53:=Tryz.sizeOf284
 v53:=Tryz.zeroValue284
 t75:=Tryz.underlying124
 a75:=Tryz.isAgg124
 z75:=Tryz.sizeOf124
 v75:=Tryz.zeroValue124
 t76:=Tryz.underlying125
 a76:=Tryz.isAgg125
 z76:=Tryz.sizeOf125
 v76:=Tryz.zeroValue125
 t85:=Tryz.underlying405
 a85:=Tryz.isAgg405
 z85:=Tryz.sizeOf405
 v85:=Tryz.zeroValue405
 t127:=Tryz.underlying230
 a127:=Tryz.isAgg230
 z127:=Tryz.sizeOf230
 v127:=Tryz.zeroValue230
 t143:=Tryz.underlying431
 a143:=Tryz.isAgg431
 z143:=Tryz.sizeOf431
 v143:=Tryz.zeroValue431
 t145:=Tryz.underlying433
 a145:=Tryz.isAgg433
 z145:=Tryz.sizeOf433
 v145:=Tryz.zeroValue433
 t167:=Tryz.underlying404
 a167:=Tryz.isAgg404
 z167:=Tryz.sizeOf404
 v167:=Tryz.zeroValue404
 t168:=Tryz.underlying407
 a168:=Tryz.isAgg407
 z168:=Tryz.sizeOf407
 v168:=Tryz.zeroValue407
 t171:=Tryz.underlying323
 a171:=Tryz.isAgg323
 z171:=Tryz.sizeOf323
 v171:=Tryz.zeroValue323
 t173:=Tryz.underlying326
 a173:=Tryz.isAgg326
 z173:=Tryz.sizeOf326
 v173:=Tryz.zeroValue326
 t175:=Tryz.underlying415
 a175:=Tryz.isAgg415
 z175:=Tryz.sizeOf415
 v175:=Tryz.zeroValue415
 t210:=Tryz.underlying419
 a210:=Tryz.isAgg419
 z210:=Tryz.sizeOf419
 v210:=Tryz.zeroValue419
 t212:=Tryz.underlying360
 a212:=Tryz.isAgg360
 z212:=Tryz.sizeOf360
 v212:=Tryz.zeroValue360
 t213:=Tryz.underlying361
 a213:=Tryz.isAgg361
 z213:=Tryz.sizeOf361
 t232:=Tryz.underlying402
 a232:=Tryz.isAgg402
 z232:=Tryz.sizeOf402
 v232:=Tryz.zeroValue402
 t233:=Tryz.underlying403
 a233:=Tryz.isAgg403
 z233:=Tryz.sizeOf403
 v233:=Tryz.zeroValue403
 g15:=by kernel_rfl
 g16:=by kernel_rfl
 g17:=by kernel_rfl
 g18:=by kernel_rfl
 g19:=by kernel_rfl
 t80:=Tryz.underlying151
 a80:=Tryz.isAgg151
 z80:=Tryz.sizeOf151
 v80:=Tryz.zeroValue151
 i0:=by kernel_rfl
 i2:=by kernel_rfl
 i3:=by kernel_rfl
 i4:=by kernel_rfl
 i5:=by kernel_rfl
 i9:=by kernel_rfl
 i20:=by kernel_rfl
 i21:=by kernel_rfl
 i37:=by kernel_rfl
 i46:=by kernel_rfl
 i51:=by kernel_rfl
 i53:=by kernel_rfl
 i75:=by kernel_rfl
 i76:=by kernel_rfl
 i80:=by kernel_rfl
 i85:=by kernel_rfl
 i127:=by kernel_rfl
 i143:=by kernel_rfl
 i145:=by kernel_rfl
 i167:=by kernel_rfl
 i168:=by kernel_rfl
 i171:=by kernel_rfl
 i173:=by kernel_rfl
 i175:=by kernel_rfl
 i210:=by kernel_rfl
 i212:=by kernel_rfl
 i232:=by kernel_rfl
 i233:=by kernel_rfl
 m15:=by kernel_rfl
 m16:=by kernel_rfl
 m17:=by kernel_rfl
 m18:=by kernel_rfl
 m19:=by kernel_rfl
 c0:=by kernel_rfl
 c2:=by kernel_rfl
 c3:=by kernel_rfl
 c4:=by kernel_rfl
 c5:=by kernel_rfl
 c9:=by kernel_rfl
 c20:=by kernel_rfl
 c21:=by kernel_rfl
 c37:=by kernel_rfl
 c46:=by kernel_rfl
 c51:=by kernel_rfl
 c53:=by kernel_rfl
 c75:=by kernel_rfl
 c76:=by kernel_rfl
 c80:=by kernel_rfl
 c85:=by kernel_rfl
 c127:=by kernel_rfl
 c143:=by kernel_rfl
 c145:=by kernel_rfl
 c167:=by kernel_rfl
 c168:=by kernel_rfl
 c171:=by kernel_rfl
 c173:=by kernel_rfl
 c175:=by kernel_rfl
 c210:=by kernel_rfl
 c212:=by kernel_rfl
 c213:=by kernel_rfl
 c232:=by kernel_rfl
 c233:=by kernel_rfl}
def laysIndex_ren:Ren:=⟨fun|137=>232|217=>280|266=>305|n=>n,fun|9=>9|5=>5|3=>3|n=>n,fun|n=>n⟩
theorem laysIndex:Lays.n137 Tryz.prog laysIndex_ren:={
 mixed:=by kernel_rfl
 f137:=Tryz.func232.trans (congrArg some (by kernel_rfl))
 f217:=Tryz.func280.trans (congrArg some (by kernel_rfl))
 f266:=Tryz.func305.trans (congrArg some (by kernel_rfl))
 t3:=Tryz.underlying3
 a3:=Tryz.isAgg3
 z3:=Tryz.sizeOf3
 v3:=Tryz.zeroValue3
 t5:=Tryz.underlying5
 a5:=Tryz.isAgg5
 z5:=Tryz.sizeOf5
 v5:=Tryz.zeroValue5
 t9:=Tryz.underlying9
 a9:=Tryz.isAgg9
 z9:=Tryz.sizeOf9
 v9:=Tryz.zeroValue9}
def laysJoin_ren:Ren:=⟨fun|156=>46|165=>131|166=>44|169=>58|240=>128|241=>187|276=>183|277=>223|n=>n,fun|31=>45|9=>9|3=>3|4=>4|0=>0|20=>20|72=>68|76=>125|70=>65|37=>66|75=>124|127=>230|164=>279|5=>5|80=>151|n=>n,fun|n=>n⟩
theorem laysJoin:Lays.n156 Tryz.prog laysJoin_ren:={
 mixed:=by kernel_rfl
 f156:=Tryz.func46.trans (congrArg some (by kernel_rfl))
 f165:=Tryz.func131.trans (congrArg some (by kernel_rfl))
 f166:=Tryz.func44.trans (congrArg some (by kernel_rfl))
 f169:=Tryz.func58.trans (congrArg some (by kernel_rfl))
 f240:=Tryz.func128.trans (congrArg some (by kernel_rfl))
 f241:=Tryz.func187.trans (congrArg some (by kernel_rfl))
 f276:=Tryz.func183.trans (congrArg some (by kernel_rfl))
 f277:=Tryz.func223.trans (congrArg some (by kernel_rfl))
 t0:=Tryz.underlying0
 a0:=Tryz.isAgg0
 z0:=Tryz.sizeOf0
 v0:=Tryz.zeroValue0
 t3:=Tryz.underlying3
 a3:=Tryz.isAgg3
 z3:=Tryz.sizeOf3
 v3:=Tryz.zeroValue3
 t4:=Tryz.underlying4
 a4:=Tryz.isAgg4
 z4:=Tryz.sizeOf4
 v4:=Tryz.zeroValue4
 t9:=Tryz.underlying9
 a9:=Tryz.isAgg9
 z9:=Tryz.sizeOf9
 v9:=Tryz.zeroValue9
 t20:=Tryz.underlying20
 a20:=Tryz.isAgg20
 z20:=Tryz.sizeOf20
 v20:=Tryz.zeroValue20
 t31:=Tryz.underlying45
 a31:=Tryz.isAgg45
 z31:=Tryz.sizeOf45
 v31:=Tryz.zeroValue45
 t37:=Tryz.underlying66
 a37:=Tryz.isAgg66
 z37:=Tryz.sizeOf66
 v37:=Tryz.zeroValue66
 t70:=Tryz.underlying65
 a70:=Tryz.isAgg65
 z70:=Tryz.sizeOf65
 v70:=Tryz.zeroValue65
 t72:=Tryz.underlying68
 a72:=Tryz.isAgg68
 z72:=Tryz.sizeOf68
 v72:=Tryz.zeroValue68
 t75:=Tryz.underlying124
 a75:=Tryz.isAgg124
 z75:=Tryz.sizeOf124
 v75:=Tryz.zeroValue124
 t76:=Tryz.underlying125
 a76:=Tryz.isAgg125
 z76:=Tryz.sizeOf125
 v76:=Tryz.zeroValue125
 t127:=Tryz.underlying230
 a127:=Tryz.isAgg230
 z127:=Tryz.sizeOf230
 v127:=Tryz.zeroValue230
 t164:=Tryz.underlying279
 a164:=Tryz.isAgg279
 z164:=Tryz.sizeOf279
 v164:=Tryz.zeroValue279}
def laysRepeat_ren:Ren:=⟨fun|105=>45|212=>129|99=>130|165=>131|166=>44|170=>57|169=>58|263=>184|264=>185|206=>186|240=>128|241=>187|276=>183|277=>223|n=>n,fun|9=>9|3=>3|4=>4|20=>20|0=>0|46=>216|109=>217|5=>5|72=>68|76=>125|51=>281|146=>282|53=>284|148=>285|70=>65|37=>66|75=>124|127=>230|164=>279|80=>151|n=>n,fun|n=>n⟩
theorem laysRepeat:Lays.n105 Tryz.prog laysRepeat_ren:={
 mixed:=by kernel_rfl
 f99:=Tryz.func130.trans (congrArg some (by kernel_rfl))
 f105:=Tryz.func45.trans (congrArg some (by kernel_rfl))
 f165:=Tryz.func131.trans (congrArg some (by kernel_rfl))
 f166:=Tryz.func44.trans (congrArg some (by kernel_rfl))
 f169:=Tryz.func58.trans (congrArg some (by kernel_rfl))
 f170:=Tryz.func57.trans (congrArg some (by kernel_rfl))
 f206:=Tryz.func186.trans (congrArg some (by kernel_rfl))
 f212:=Tryz.func129.trans (congrArg some (by kernel_rfl))
 f240:=Tryz.func128.trans (congrArg some (by kernel_rfl))
 f241:=Tryz.func187.trans (congrArg some (by kernel_rfl))
 f263:=Tryz.func184.trans (congrArg some (by kernel_rfl))
 f264:=Tryz.func185.trans (congrArg some (by kernel_rfl))
 f276:=Tryz.func183.trans (congrArg some (by kernel_rfl))
 f277:=Tryz.func223.trans (congrArg some (by kernel_rfl))
 t0:=Tryz.underlying0
 a0:=Tryz.isAgg0
 z0:=Tryz.sizeOf0
 v0:=Tryz.zeroValue0
 t3:=Tryz.underlying3
 a3:=Tryz.isAgg3
 z3:=Tryz.sizeOf3
 v3:=Tryz.zeroValue3
 t4:=Tryz.underlying4
 a4:=Tryz.isAgg4
 z4:=Tryz.sizeOf4
 v4:=Tryz.zeroValue4
 t5:=Tryz.underlying5
 a5:=Tryz.isAgg5
 z5:=Tryz.sizeOf5
 v5:=Tryz.zeroValue5
 t9:=Tryz.underlying9
 a9:=Tryz.isAgg9
 z9:=Tryz.sizeOf9
 v9:=Tryz.zeroValue9
 t20:=Tryz.underlying20
 a20:=Tryz.isAgg20
 z20:=Tryz.sizeOf20
 v20:=Tryz.zeroValue20
 t37:=Tryz.underlying66
 a37:=Tryz.isAgg66
 z37:=Tryz.sizeOf66
 v37:=Tryz.zeroValue66
 t46:=Tryz.underlying216
 a46:=Tryz.isAgg216
 z46:=Tryz.sizeOf216
 v46:=Tryz.zeroValue216
 t51:=Tryz.underlying281
 a51:=Tryz.isAgg281
 z51:=Tryz.sizeOf281
 v51:=Tryz.zeroValue281
 t53:=Tryz.underlying284
 a53:=Tryz.isAgg284
 z53:=Tryz.sizeOf284
 v53:=Tryz.zeroValue284
 t70:=Tryz.underlying65
 a70:=Tryz.isAgg65
 z70:=Tryz.sizeOf65
 v70:=Tryz.zeroValue65
 t72:=Tryz.underlying68
 a72:=Tryz.isAgg68
 z72:=Tryz.sizeOf68
 v72:=Tryz.zeroValue68
 t75:=Tryz.underlying124
 a75:=Tryz.isAgg124
 z75:=Tryz.sizeOf124
 v75:=Tryz.zeroValue124
 t76:=Tryz.underlying125
 a76:=Tryz.isAgg125
 z76:=Tryz.sizeOf125
 v76:=Tryz.zeroValue125
 t109:=Tryz.underlying217
 a109:=Tryz.isAgg217
 z109:=Tryz.sizeOf217
 v109:=Tryz.zeroValue217
 t127:=Tryz.underlying230
 a127:=Tryz.isAgg230
 z127:=Tryz.sizeOf230
 v127:=Tryz.zeroValue230
 t146:=Tryz.underlying282
 a146:=Tryz.isAgg282
 z146:=Tryz.sizeOf282
 v146:=Tryz.zeroValue282
 t148:=Tryz.underlying285
 a148:=Tryz.isAgg285
 z148:=Tryz.sizeOf285
 v148:=Tryz.zeroValue285
 t164:=Tryz.underlying279
 a164:=Tryz.isAgg279
 z164:=Tryz.sizeOf279
 v164:=Tryz.zeroValue279}
def laysClone30_ren:Ren:=⟨fun|41=>30|n=>n,fun|22=>46|23=>54|4=>4|n=>n,fun|n=>n⟩
theorem laysClone30:Go.Proofs.SlLaysE0.n41 Tryz.prog laysClone30_ren:={
 mixed:=by kernel_rfl
 f41:=⟨Tryz.f30.name,by decide,Tryz.func30.trans (congrArg some (by kernel_rfl))⟩
 t4:=Tryz.underlying4
 a4:=Tryz.isAgg4
 z4:=Tryz.sizeOf4
 v4:=Tryz.zeroValue4
 t22:=Tryz.underlying46
 a22:=Tryz.isAgg46
 z22:=Tryz.sizeOf46
 v22:=Tryz.zeroValue46}
def laysClone82_ren:Ren:=⟨fun|41=>82|n=>n,fun|22=>23|23=>50|4=>4|n=>n,fun|n=>n⟩
theorem laysClone82:Go.Proofs.SlLaysE0.n41 Tryz.prog laysClone82_ren:={
 mixed:=by kernel_rfl
 f41:=⟨Tryz.f82.name,by decide,Tryz.func82.trans (congrArg some (by kernel_rfl))⟩
 t4:=Tryz.underlying4
 a4:=Tryz.isAgg4
 z4:=Tryz.sizeOf4
 v4:=Tryz.zeroValue4
 t22:=Tryz.underlying23
 a22:=Tryz.isAgg23
 z22:=Tryz.sizeOf23
 v22:=Tryz.zeroValue23}
def laysClone162_ren:Ren:=⟨fun|41=>162|n=>n,fun|22=>22|23=>86|4=>4|n=>n,fun|n=>n⟩
theorem laysClone162:Go.Proofs.SlLaysE0.n41 Tryz.prog laysClone162_ren:={
 mixed:=by kernel_rfl
 f41:=⟨Tryz.f162.name,by decide,Tryz.func162.trans (congrArg some (by kernel_rfl))⟩
 t4:=Tryz.underlying4
 a4:=Tryz.isAgg4
 z4:=Tryz.sizeOf4
 v4:=Tryz.zeroValue4
 t22:=Tryz.underlying22
 a22:=Tryz.isAgg22
 z22:=Tryz.sizeOf22
 v22:=Tryz.zeroValue22}
def laysClone255_ren:Ren:=⟨fun|41=>255|n=>n,fun|22=>60|23=>187|4=>4|n=>n,fun|n=>n⟩
theorem laysClone255:Go.Proofs.SlLaysE0.n41 Tryz.prog laysClone255_ren:={
 mixed:=by kernel_rfl
 f41:=⟨Tryz.f255.name,by decide,Tryz.func255.trans (congrArg some (by kernel_rfl))⟩
 t4:=Tryz.underlying4
 a4:=Tryz.isAgg4
 z4:=Tryz.sizeOf4
 v4:=Tryz.zeroValue4
 t22:=Tryz.underlying60
 a22:=Tryz.isAgg60
 z22:=Tryz.sizeOf60
 v22:=Tryz.zeroValue60}
end
section
open Go.RowKit
def JY (w:World) (g:Nat):Option (Array Value):=match w.heap[g]? with
 |some (.cells cs _ _)=>some cs
 |_=>none
theorem aeX {P:Program}{w:World}{name:String}{k:IntKind}{zs:uD}{g:Nat} (hg:P.globalNamed name=some g):Lib.TabIs P w name k zs↔JY w g=some (zs.map fun z=>Value.int k z).toArray:=by
 unfold Lib.TabIs World.var? JY
 rw[hg];exact Iff.rfl
def Uc (w:World):Prop:=JY w (laysItoa_ren.g 17)=some (Lib.pow10Tab.map fun z=>Value.int .u64 z).toArray
theorem aas {w:World} (h:Uc w):laysItoa_ren.g 17<w.heap.size:=by
 unfold Uc JY at h
 rcases Nat.lt_or_ge (laysItoa_ren.g 17) w.heap.size with h2|h2
 ·exact h2
 ·rw[Array.getElem?_eq_none h2]at h;cases h
instance:xj Tryz.prog:=⟨Uc,laysItoa_ren.g 17+1,fun w h=>aas h,fun w w' X h hX hb=>by
 have fU:=aas h
 unfold Uc JY at h⊢
 rw[hb.block _ fU (fun hx=>by have:=hX _ hx;omega)];exact h⟩
instance:Mrg Tryz.prog:=⟨[266],[42]⟩
end
section
noncomputable section
open Go.RowKit
theorem aj4:∀ss:LAs,fS (ss.map CS.a)=[]
 |[]=>rfl
 |s::ss=>by
  have:=aj4 ss
  unfold fS at this⊢
  rw[map_cons,flatMap_cons,this];rfl
theorem afl {P:Program}{w:World}{ok:lU}:∀{ss:LAs}{vs:dm}{l:aP}{ns:jl},MZ P w ok (ss.map CS.a) vs l ns->ns=[]/\mD P w ok ss vs l
 |[],[],_,_,h=>by obtain⟨rfl,rfl⟩:=h;exact⟨rfl,trivial⟩
 |s::ss,v::vs,_,_,h=>by
  obtain⟨l1,l2,n1,n2,rfl,rfl,⟨rfl,hx⟩,r2⟩:=h
  obtain⟨x,rfl,h⟩:=hx
  obtain⟨rfl,h2⟩:=afl r2
  exact⟨rfl,h,h2⟩
 |[],_::_,_,_,h=>h.elim
 |_::_,[],_,_,h=>h.elim
theorem aqY {P:Program}{w:World}{ok:lU}{s:AS}{vs:dm}{l:aP} (h:mD P w ok [s] vs l):∃v x,vs=[v]/\l=[x]/\rv P w ok s v x:=by
 match vs,l,h with
 |[v],[x],h=>exact⟨v,x,rfl,rfl,h.1⟩
 |[],[],h=>exact h.elim
 |[],_::_,h=>exact h.elim
 |_::_,[],h=>exact h.elim
 |[_],_::_::_,h=>exact h.2.elim
 |_::_::_,[_],h=>exact h.2.elim
 |_::_::_,_::_::_,h=>exact h.2.elim
theorem auZ {P:Program}{w:World}{ok:lU}{s s2:AS}{vs:dm}{l:aP} (h:mD P w ok [s,s2] vs l):∃v u x y,vs=[v,u]/\l=[x,y]/\rv P w ok s v x/\rv P w ok s2 u y:=by
 match vs,l,h with
 |v::vs,x::l,h=>
  obtain⟨u,y,rfl,rfl,h2⟩:=aqY h.2
  exact⟨v,u,x,y,rfl,rfl,h.1,h2⟩
 |[],[],h=>exact h.elim
 |[],_::_,h=>exact h.elim
 |_::_,[],h=>exact h.elim
theorem Rq {P:Program} [xj P]{key:Nat}{f:FuncId}{ss:LAs}{res:RS}{F:fF}
 (h:∀(w:World) (ok:lU) (vs:dm) (l rs:aP),xj.G P w->mD P w ok ss vs l->F l=some rs->
   YR P f vs.toArray w fun v w'=>Below w.heap.size w w'/\∃(x2:aP) (u2:dm) (r:aP),rs=x2++r/\(u2.filterMap dG).Nodup/\(∀p∈u2.filterMap dG,w.heap.size<=p)/\Ul P w' (okX w.heap.size ok [] (u2.filterMap dG)) res v x2 u2 r):
 (⟨key,f,ss.map CS.a,res⟩:nK).holds P F:=by
 intro w hG ok vs ns xs us ys l rs kY ME hnd aek hF
 obtain⟨rfl,avI⟩:=afl kY
 simp only[aj4]at ME⊢
 obtain⟨rfl,rfl,rfl⟩:=ME
 simp only[nil_append]at hF
 refine(h w ok vs l rs hG avI hF).mono ?_
 rintro v w' ⟨hb,x2,u2,r,e,h1,h2,h3⟩
 exact⟨.of _ hb,[],x2,r,[],[],u2,by simpa using e,by simpa[eH]using h1,fun p hp=> .inr (h2 p (by simpa[eH]using hp)),⟨rfl,rfl,rfl⟩,h3⟩
theorem Ku {P:Program} [xj P]{key:Nat}{f:FuncId}{ss:LAs}{s:AS}{F:fF}
 (h:∀(w:World) (ok:lU) (vs:dm) (l rs:aP),xj.G P w->mD P w ok ss vs l->F l=some rs->
   YR P f vs.toArray w fun v w'=>Below w.heap.size w w'/\∃y,rs=[y]/\∀ok',rv P w' ok' s v y):
 (⟨key,f,ss.map CS.a,.c (.a s)⟩:nK).holds P F:=
 Rq fun w ok vs l rs hG kY hF=>(h w ok vs l rs hG kY hF).mono fun v w' ⟨hb,y,e,hr⟩=>⟨hb,[],[],[y],by simpa using e,nodup_nil,(fun p hp=>by cases hp),rfl,rfl,y,rfl,hr _⟩
theorem vR {P:Program}{w:World}{ok:lU}{k:CK} (hk:∀el,k≠.sl el){v:Value}{x:Sc} (h:rv P w ok (.ck k) v x):v=k.val x:=by
 obtain⟨d,h1,rfl,_⟩:=h
 exact aqr hk h1
theorem ZP (w:World) (k:Nat) (os:Array Obj):Below w.heap.size w (Sort.grow (w.drewN k) os):=
 ⟨rfl,rfl,rfl,by simp[Sort.grow,World.drewN],fun j hj=>by
   show(w.heap++os)[j]? =w.heap[j]?
   rw[Array.getElem?_append_left hj]⟩
def ajZ:fF
 |[.i n]=>if-9223372036854775808<=n/\n<=9223372036854775807 then some [.s ⟨(Lib.itoa n).toArray⟩]else none
 |_=>none
def LA:nK:=⟨49,49,[AS.ck (.int .i64)].map CS.a,.c (.a (.ck .str))⟩
theorem air:LA.holds Tryz.prog ajZ:=by
 refine Ku fun w ok vs l rs hG kY hF=> ?_
 ·obtain⟨v,x,rfl,rfl,h1⟩:=aqY kY
  have hv:=vR (fun _ h=>by cases h) h1
  unfold ajZ at hF
  split at hF
  ·rename_i n he
   cases he
   split at hF
   ·rename_i hn
    cases hF
    subst hv
    refine .inl ⟨Tryz.call49 _ _,(Any.strconv_Itoa laysItoa n hn.1 hn.2 w ((aeX laysItoa.m17).2 hG)).mono ?_⟩
    rintro e w' ⟨rfl,k,os,rfl⟩
    exact⟨_,rfl,ZP w k os,_,rfl,fun ok'=>⟨_,rfl,rfl,.str _⟩⟩
   ·cases hF
  ·cases hF
def sD:rj Tryz.prog:=⟨LA,ajZ,air⟩
def aes:fF
 |[.s s,.i c]=>some [.i (Lib.indexByte s.data.toList c.toNat.toUInt8)]
 |_=>none
def BO:nK:=⟨232,232,[AS.ck .str,AS.ck (.int .u8)].map CS.a,.c (.a (.ck (.int .i64)))⟩
theorem aga:BO.holds Tryz.prog aes:=by
 refine Ku fun w ok vs l rs hG kY hF=> ?_
 ·obtain⟨v,u,x,y,rfl,rfl,h1,h2⟩:=auZ kY
  have hv:=vR (fun _ h=>by cases h) h1
  have hu:=vR (fun _ h=>by cases h) h2
  unfold aes at hF
  split at hF
  ·rename_i s c he
   cases he
   cases hF
   subst hv hu
   refine .inl ⟨Tryz.call232 _ _,(Any.strings_IndexByte laysIndex s c w).mono ?_⟩
   rintro e w' ⟨rfl,rfl⟩
   exact⟨_,rfl,.refl _ _,_,rfl,fun ok'=>⟨_,rfl,rfl,.int _ _⟩⟩
  ·cases hF
def lc:rj Tryz.prog:=⟨BO,aes,aga⟩
theorem avr:Builder.Extra Tryz.prog laysRepeat_ren where
 sizeBuilder:=by kernel_rfl
 liesBuilder:=by kernel_rfl
 t5:=Tryz.underlying5
 a5:=Tryz.isAgg5
 z5:=Tryz.sizeOf5
 v5:=Tryz.zeroValue5
 infoByte:=by kernel_rfl
 cellsByte:=by kernel_rfl
 sizeByte:=by kernel_rfl
 neB5:=by decide
theorem ank:Builder.Extra Tryz.prog laysJoin_ren where
 sizeBuilder:=by kernel_rfl
 liesBuilder:=by kernel_rfl
 t5:=Tryz.underlying5
 a5:=Tryz.isAgg5
 z5:=Tryz.sizeOf5
 v5:=Tryz.zeroValue5
 infoByte:=by kernel_rfl
 cellsByte:=by kernel_rfl
 sizeByte:=by kernel_rfl
 neB5:=by decide
def YD:fF
 |[.s s,.i c]=>if 0<=c/\c<=9223372036854775807/\s.size*c.toNat<=140737488355328 then some [.s ⟨(Lib.repeatL s.data.toList c.toNat).toArray⟩]else none
 |_=>none
def F6:nK:=⟨45,45,[AS.ck .str,AS.ck (.int .i64)].map CS.a,.c (.a (.ck .str))⟩
theorem aeQ:F6.holds Tryz.prog YD:=by
 refine Ku fun w ok vs l rs hG kY hF=> ?_
 ·obtain⟨v,u,x,y,rfl,rfl,h1,h2⟩:=auZ kY
  have hv:=vR (fun _ h=>by cases h) h1
  have hu:=vR (fun _ h=>by cases h) h2
  unfold YD at hF
  split at hF
  ·rename_i s c he
   cases he
   split at hF
   ·rename_i hc
    cases hF
    obtain⟨c,rfl⟩:=eq_ofNat_of_zero_le hc.1
    subst hv hu
    refine .inl ⟨Tryz.call45 _ _,(Any.strings_Repeat laysRepeat avr s c w (by have:=hc.2.1;omega) hc.2.2).mono ?_⟩
    rintro e w' ⟨rfl,hb⟩
    exact⟨_,rfl,hb,_,rfl,fun ok'=>⟨_,rfl,rfl,.str _⟩⟩
   ·cases hF
  ·cases hF
def oC:rj Tryz.prog:=⟨F6,YD,aeQ⟩
def Wf:aP->Option (List ByteArray)
 |[]=>some []
 | .s s::l=>(Wf l).map (s::·)
 |_::_=>none
def agc:fF
 |[.l xs,.s sep]=>match Wf xs with
  |some ss=>if ss.length<=140737488355328/\(Lib.join (ss.map (·.data.toList)) sep.data.toList).length<=281474976710656 then some [.s ⟨(Lib.join (ss.map (·.data.toList)) sep.data.toList).toArray⟩]else none
  |none=>none
 |_=>none
def LD:nK:=⟨46,46,[AS.ck (.sl 9),AS.ck .str].map CS.a,.c (.a (.ck .str))⟩
theorem Wg:∀{xs:aP}{ss:List ByteArray},Wf xs=some ss->aE false [.str] xs=ss.map Value.string
 |[],ss,h=>by cases h;rfl
 | .s s::l,ss,h=>by
   unfold Wf at h
   obtain⟨r,h1,rfl⟩:=Option.map_eq_some_iff.1 h
   have ih:=Wg h1
   show CK.val .str (.s s)::aE false [.str] l=_
   rw[ih];rfl
 | .i _::_,_,h=>by cases h
 | .b _::_,_,h=>by cases h
 | .l _::_,_,h=>by cases h
 | .r _ _ _ _::_,_,h=>by cases h
theorem apD:qg Tryz.prog 9=some (false,[.str]):=by kernel_rfl
theorem ais:LD.holds Tryz.prog agc:=by
 refine Ku fun w ok vs l rs hG kY hF=> ?_
 obtain⟨v,u,x,y,rfl,rfl,h1,h2⟩:=auZ kY
 have hu:=vR (fun _ h=>by cases h) h2
 unfold agc at hF
 split at hF
 ·rename_i xs sep he
  cases he
  split at hF
  ·rename_i ss hss
   split at hF
   ·rename_i hc
    cases hF
    obtain⟨d,hd,rfl,vX⟩:=h1
    cases vX with
    |sl hT hl arA hm hcell ME=>
     rename_i agg ks ad n cap ys
     rw[apD]at hT;cases hT
     have he:mS ys=mS xs:=by simp only[Sc.er,Sc.l.injEq]at hd;exact hd
     rw[ad8 (fun _ h=>by cases h) he,Wg hss]at hcell
     have hlen:n=ss.length:=by
      have h1:=congrArg List.length (Wg hss)
      rw[bS (jp (agg:=false) (ks:=[.str]) rfl).1]at h1
      have h2:=o9 he
      simp at h1
      omega
     subst hu
     have fin:∀w':World,Below w.heap.size w w'->Below w.heap.size w w'/\∃y,[Sc.s ⟨(Lib.join (ss.map (·.data.toList)) sep.data.toList).toArray⟩]=[y]/\∀ok',rv Tryz.prog w' ok' (.ck .str) (.string ⟨(Lib.join (ss.map (·.data.toList)) sep.data.toList).toArray⟩) y:=fun w' hb=>
      ⟨hb,_,rfl,fun ok'=>⟨_,rfl,rfl,.str _⟩⟩
     by_cases h0:ss=[]
     ·subst h0
      simp only[length_nil]at hlen
      subst hlen
      refine .inl ⟨Tryz.call46 _ _,(Any.strings_Join_none laysJoin ank ad cap sep w).mono ?_⟩
      rintro e w' ⟨rfl,rfl⟩
      exact⟨_,rfl,fin _ (.refl _ _)⟩
     ·have jW:0<ss.length:=length_pos_iff.2 h0
      obtain⟨p,o,rfl,hp,_⟩:=hcell 0 (.string ss[0]) (by simp[getElem?_eq_getElem jW])
      have fU:=World.block_lt_of_cell? w ⟨p,o+0,none⟩ hp
      subst hlen
      refine .inl ⟨Tryz.call46 _ _,(Any.strings_Join_48 laysJoin ank p o cap ss sep w (fun j s hj=> ?_) fU hc.1 arA hc.2).mono ?_⟩
      ·obtain⟨p2,o2,e2,h2,_⟩:=hcell j (.string s) (by simp[hj])
       cases e2
       exact h2
      ·rintro e w' ⟨rfl,hb⟩
       exact⟨_,rfl,fin _ hb⟩
   ·cases hF
  ·cases hF
 ·cases hF
def dv:rj Tryz.prog:=⟨LD,agc,ais⟩
end
end
section
noncomputable section
open Go.RowKit Go.Shelf Go.Lib
set_option maxHeartbeats 2000000 in
set_option maxRecDepth 100000 in
theorem akR {P:Program}{ρ:Ren} (L:SlLaysE0.n41 P ρ) (i0:TypeInfo) (z:Value) (size bytes:Nat) (hi:P.info? (ρ.t 23)=some i0) (hz0:i0.zero=some z) (hz1:i0.size=size) (hz2:i0.bytes=bytes) (hzs:z.cells.size=size) (kZ:0<size) (z23:∀w,(Go.sizeOf (ρ.t 23)).run P w= .ok size w)
 (q:Addr) (n c:Nat) (news:dm) (w:World) (hl:news.length=n*size) (hn:n<=maxLen) (aC3:n*bytes<=140737488355328)
 (hc:∀j u,news[j]? =some u->w.cell? (q.add j)=some u) (h1:∀u∈news,u.oneCell'=true):
 Calls P (ρ.f 41) #[.slice (some q) n c] w fun e w'=>∃v',e= .returned v'/\w'.ownsRow w.heap.size (ρ.t 23) size v' n news/\Below w.heap.size w w':=by
 have mixed:=L.mixed;have t4:=L.t4;have a4:=L.a4;have z4:=L.z4;have v4:=L.v4;have t22:=L.t22;have a22:=L.a22;have z22:=L.z22;have v22:=L.v22
 have q22:∀(w:World) (a:Option Addr) (n c n' c':Nat),(binOp .eql (ρ.t 22) (.slice a n c) (.slice none n' c')).run P w= .ok (.bool a.isNone) w:=fun w a n c n' c'=>Lib.run_eql_slice_nil w _ _ a n c n' c' L.t22
 have u22:∀w,Sem.run P (underlying (ρ.t 22)) w= .ok (TypeDesc.slice (ρ.t 23)) w:=run_underlying t22
 have A:Aside (∀j u,news[j]? =some u->w.cell? (q.add j)=some u):=hc
 clear hc
 obtain⟨_,_,FG⟩:=L.f41
 go_enter FG,SlBodyN.n41_ntmps ρ
 go_wp2_with (at_builtin;refine wpList_append_own _ rfl _ _ (ρ.t 22) rfl w.heap.size (ρ.t 23) i0 z size bytes t22 hi hz0 hz1 hz2 hzs kZ _ _ _ rfl (World.ownsRow_made w #[] 0 (Nat.le_refl _) (zero_le _) (by simp)) q n c news rfl ?qc1 ?qc2 ?qc3 ?qc4 ?qc5 ?qc6 ?_)
 case qc1=>exact hl
 case qc2=>
  intro j u hj
  exact Lib.cell?_alloc_some _ (A.out j u hj)
 case qc3=>exact h1
 case qc4=>rw[Nat.zero_add];exact hn
 case qc5=>rw[Nat.zero_add];exact aC3
 case qc6=>simp
 intro v' w1 cv azG aen
 go_wp2
 go_ret
 refine⟨v',rfl,by simpa using cv,?_⟩
 exact((Below.refl _ w).alloc (Nat.le_refl _) _).grown azG (by simp) (by intro k hk;simp[Value.ownBlock]at hk;omega)
def M1 (bytes:Nat):fF
 |[.l xs]=>if xs.length<=maxLen/\xs.length*bytes<=140737488355328 then some [.l xs]else none
 |_=>none
theorem ak6 {P:Program}{w:World}{ok:lU}{agg:Bool}{ks:tE}{ys:aP} (hf:∀x∈ys,∀i k,ks[i]? =some k->Fits P w ok k (WU agg x i)):∀u∈aE agg ks ys,u.oneCell'=true:=by
 intro u hu
 have hval:∀(k:CK) (x:Sc),Fits P w ok k x->(k.val x).oneCell'=true:=fun k x h=>by cases h<;>rfl
 unfold aE at hu
 obtain⟨x,hx,hu⟩:=mem_flatMap.1 hu
 have hfx:=hf x hx
 unfold cY at hu
 split at hu
 ·have key:∀(ks2:tE) (n:Nat),(∀i k,ks2[i]? =some k->Fits P w ok k (x.list.getD (n+i) (.i 0)))->u∈qH x ks2 n->u.oneCell'=true:=by
   intro ks2
   induction ks2 with
   |nil=>intro n _ h;cases h
   |cons k ks2 ih=>
    intro n h hu
    rcases mem_cons.1 hu with rfl|hu
    ·exact hval k _ (by simpa using h 0 k rfl)
    ·exact ih (n+1) (fun i k' hk=>by have:=h (i+1) k' (by simpa using hk);rw[show n+1+i=n+(i+1)by omega];exact this) hu
  exact key _ 0 (fun i k hk=>by simpa[WU]using hfx i k hk) hu
 ·rename_i k hu
  simp only[mem_singleton]at hu
  subst hu
  exact hval k x (by simpa[WU]using hfx 0 k rfl)
 ·cases hu
theorem afx {P:Program} [xj P]{ρ:Ren}{f el:Nat} (L:SlLaysE0.n41 P ρ) (hf:ρ.f 41=f) (NK:ρ.t 23=el) (dU:∀args w,(callFunc f args).run P w= .ok (.enter f args) w){agg:Bool}{ks:tE} (hT:qg P el=some (agg,ks)) (dI:dC agg ks=true)
 (bytes:Nat) (i0:TypeInfo) (z:Value) (hi:P.info? el=some i0) (hz0:i0.zero=some z) (hz1:i0.size=ks.length) (hz2:i0.bytes=bytes) (hzs:z.cells.size=ks.length) (z23:∀w,(Go.sizeOf el).run P w= .ok ks.length w):
 (⟨f,f,[AS.ck (.sl el)].map CS.a,.o el⟩:nK).holds P (M1 bytes):=by
 subst hf NK
 refine Rq fun w ok vs l rs hG kY hF=> ?_
 obtain⟨v,x,rfl,rfl,h1⟩:=aqY kY
 obtain⟨aDL,jW⟩:=jp dI
 unfold M1 at hF
 split at hF
 ·rename_i xs he
  cases he
  split at hF
  ·rename_i hc
   cases hF
   obtain⟨d,hd,rfl,vX⟩:=h1
   cases vX with
   |sl hT' hl arA hm hcell ME=>
    rename_i aqX OL ad n cap ys
    rw[hT]at hT';cases hT'
    have he:mS ys=mS xs:=by simp only[Sc.er,Sc.l.injEq]at hd;exact hd
    have hlen:n=xs.length:=by rw[<-hl];exact o9 he
    have EI:=bS aDL ys
    rw[hl]at EI
    have ah6:∀w':World,Below w.heap.size w w'->∀p o u,ok p->w.cell? ⟨p,o,none⟩=some u->w'.cell? ⟨p,o,none⟩=some u:=fun w' hb p o u _ hu=>by
     rw[World.cell?_of_block (hb.block p (World.block_lt_of_cell? w ⟨p,o,none⟩ hu))];exact hu
    have fin:∀(v':Value) (w':World),w'.ownsRow w.heap.size (ρ.t 23) ks.length v' n (aE agg ks ys)->Below w.heap.size w w'->(∃ad n' cap,v'= .slice ad n' cap/\cap<=maxLen/\n'<=cap/\n'=n)->
     Below w.heap.size w w'/\∃(x2:aP) (u2:dm) (r:aP),[Sc.l xs]=x2++r/\(u2.filterMap dG).Nodup/\(∀p∈u2.filterMap dG,w.heap.size<=p)/\Ul P w' (okX w.heap.size ok [] (u2.filterMap dG)) (.o (ρ.t 23)) v' x2 u2 r:=by
     rintro v' w' cv hb ⟨ad',n',uI,rfl,OG,hnc,rfl⟩
     have hge:∀p∈[Value.slice ad' n' uI].filterMap dG,w.heap.size<=p:=fun p hp=>by
      simp only[filterMap_cons,filterMap_nil]at hp
      cases ho:dG (.slice ad' n' uI)with
      |none=>rw[ho]at hp;cases hp
      |some g=>
       rw[ho]at hp
       simp only[mem_singleton]at hp
       subst hp
       exact(cv.lt p (sP ho)).1
     refine⟨hb,[.l xs],[.slice ad' n' uI],[],rfl,?_,hge,rfl,.l xs,rfl,rfl,agg,ks,ys,ad',n',uI,hT,dI,rfl,?_,hl,hnc,OG,.inr ⟨cv.1,?_⟩,fun y hy i k hk=>(ME y hy i k hk).mono fun p o u hp hu=>⟨⟨.inr (.inl hp),fun hm=> ?_⟩,ah6 w' hb p o u hp hu⟩⟩
     ·simp only[filterMap_cons,filterMap_nil]
      cases dG (.slice ad' n' uI)<;>simp
     ·simp only[Sc.er,Sc.l.injEq];exact he.symm
     ·rcases cv.2 with h|⟨g,c2,cur,e1,e2,e3,e4⟩
      ·exact .inl h
      ·exact .inr ⟨g,c2,cur,e1,zero_le _,e3,e4⟩
     ·have:=hge p hm
      have:=World.block_lt_of_cell? w ⟨p,o,none⟩ hu
      simp at this;omega
    cases ad with
    |none=>
     have hn0:n=0:=by
      rcases eq_zero_or_pos n with h|h
      ·exact h
      ·obtain⟨p,o,e,_⟩:=hcell 0 _ (getElem?_eq_getElem (by rw[EI];exact Nat.mul_pos h jW))
       cases e
     refine .inl ⟨dU _ _,(AnyE.slices_Clone_nil L n cap w).mono ?_⟩
     rintro e w' ⟨rfl,rfl⟩
     subst hn0
     have hys:ys=[]:=length_eq_zero_iff.1 hl
     subst hys
     refine⟨_,rfl,fin _ _ ⟨by simp[aE],.inl ⟨rfl,rfl⟩⟩ (.refl _ _) ⟨none,0,0,rfl,zero_le _,Nat.le_refl _,rfl⟩⟩
    |some q=>
     refine .inl ⟨dU _ _,(akR L i0 z ks.length bytes hi hz0 hz1 hz2 hzs jW z23 q n cap (aE agg ks ys) w EI (by rw[hlen];exact hc.1) (by rw[hlen];exact hc.2) (fun j u hj=> ?_) (ak6 ME)).mono ?_⟩
     ·obtain⟨p,o,e,hu,_⟩:=hcell j u hj
      cases e
      rw[Addr.add_lit];exact hu
     ·rintro e w' ⟨v',rfl,cv,hb⟩
      refine⟨v',rfl,fin v' w' cv hb ?_⟩
      rcases cv.2 with⟨h,h0⟩|⟨g,c2,cur,e1,e2,e3,e4,e5,_⟩
      ·subst h
       exact⟨none,0,0,rfl,zero_le _,Nat.le_refl _,h0.symm⟩
      ·exact⟨_,_,_,e1,e5,e4,rfl⟩
  ·cases hF
 ·cases hF
def ajw (P:Program) (el:TypeId):Bool:=
 match qg P el,P.info? el with
 |some (agg,ks),some i=>dC agg ks&&Nat.beq i.size ks.length&&(match i.zero with|some z=>Nat.beq z.cells.size ks.length|none=>false)
 |_,_=>false
def xE (P:Program) (el:TypeId):Nat:=match P.info? el with|some i=>i.bytes|none=>0
theorem JZ {P:Program} [xj P]{ρ:Ren}{f el:Nat} (L:SlLaysE0.n41 P ρ) (hf:ρ.f 41=f) (NK:ρ.t 23=el) (dU:∀args w,(callFunc f args).run P w= .ok (.enter f args) w) (h:ajw P el=true):
 (⟨f,f,[AS.ck (.sl el)].map CS.a,.o el⟩:nK).holds P (M1 (xE P el)):=by
 unfold ajw at h
 split at h
 ·rename_i agg ks i0 hT hi
  simp only[Bool.and_eq_true]at h
  obtain⟨⟨h1,h2⟩,h3⟩:=h
  have h2:=eq_of_beq_eq_true h2
  split at h3
  ·rename_i z hz
   have h3:=eq_of_beq_eq_true h3
   have hb:xE P el=i0.bytes:=by unfold xE;rw[hi]
   rw[hb]
   exact afx L hf NK dU hT h1 i0.bytes i0 z hi hz h2 rfl h3 (dQ (by unfold ni;rw[hi,Option.map_some,h2]))
  ·cases h3
 ·cases h
def DD:nK:=⟨30,30,[AS.ck (.sl 54)].map CS.a,.o 54⟩
def Cs:nK:=⟨82,82,[AS.ck (.sl 50)].map CS.a,.o 50⟩
def Fj:nK:=⟨162,162,[AS.ck (.sl 86)].map CS.a,.o 86⟩
def Fi:nK:=⟨255,255,[AS.ck (.sl 187)].map CS.a,.o 187⟩
def cT:rj Tryz.prog:=⟨DD,M1 (xE Tryz.prog 54),JZ laysClone30 rfl rfl Tryz.call30 (by kernel_rfl)⟩
def gZ:rj Tryz.prog:=⟨Cs,M1 (xE Tryz.prog 50),JZ laysClone82 rfl rfl Tryz.call82 (by kernel_rfl)⟩
def jD:rj Tryz.prog:=⟨Fj,M1 (xE Tryz.prog 86),JZ laysClone162 rfl rfl Tryz.call162 (by kernel_rfl)⟩
def jC:rj Tryz.prog:=⟨Fi,M1 (xE Tryz.prog 187),JZ laysClone255 rfl rfl Tryz.call255 (by kernel_rfl)⟩
end
end
end Go.Proofs.YtlklkgdaegncaaaGreatDoor
