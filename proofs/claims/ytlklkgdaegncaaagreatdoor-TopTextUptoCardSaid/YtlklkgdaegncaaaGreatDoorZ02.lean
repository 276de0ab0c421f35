/-
  A part of the proof of TopText: SymD.
-/
import Derived.Test.YtlklkgdaegncaaaGreatDoorZ01
import Derived.Laws.AppendOwn
import Derived.Laws.OwnMore
import Derived.IntWalk
import Derived.Laws.StructEq
namespace Go.Proofs.YtlklkgdaegncaaaGreatDoor
set_option linter.unusedVariables false
set_option linter.unusedSimpArgs false
open List
open Nat
open Int
open Go.RowKit
theorem Ex.fX:∀{x y:Ex},x.same y=true->x=y:=by
 intro x
 induction x with
 |v p=>intro y h;cases y<;>simp_all [Ex.same]
 |i p=>intro y h;cases y<;>simp_all [Ex.same]
 |b p=>intro y h;cases y<;>simp_all [Ex.same]
 |s p=>intro y h;cases y<;>simp_all [Ex.same]
 |nil=>intro y h;cases y<;>simp_all [Ex.same]
 |u f x ih=>intro y h;cases y<;>simp_all [Ex.same];exact ih h.2
 |o f x y ihx ihy=>intro z h;cases z<;>simp_all [Ex.same];exact⟨ihx h.1.2,ihy h.2⟩
 |t f x y z ihx ihy ihz=>intro z h;cases z<;>simp_all [Ex.same];exact⟨ihx h.1.1.2,ihy h.1.2,ihz h.2⟩
theorem bj {α:Type} (l r:List α) (n:Nat) (d:α) (h:n<l.length):(l++r).getD n d=l.getD n d:=by
 simp[getD_eq_getElem?_getD,getElem?_append_left h]
theorem Ex.cg {n:Nat}{ρ ρ':aP} (h:∀i,i<n->ρ'.getD i (.i 0)=ρ.getD i (.i 0)):∀{x:Ex},x.under n=true->x.ev ρ'=x.ev ρ
 | .v p,hx=>h p (le_of_ble_eq_true (by simpa[Ex.under,blt]using hx))
 | .i _,_| .b _,_| .s _,_| .nil,_=>rfl
 | .u f x,hx=>by simp only[Ex.ev];rw[Ex.cg h (x:=x) hx]
 | .o f x y,hx=>by
   simp only[Ex.under,Bool.and_eq_true]at hx
   simp only[Ex.ev];rw[Ex.cg h hx.1,Ex.cg h hx.2]
 | .t f x y z,hx=>by
   simp only[Ex.under,Bool.and_eq_true]at hx
   simp only[Ex.ev];rw[Ex.cg h hx.1.1,Ex.cg h hx.1.2,Ex.cg h hx.2]
theorem OC {n:Nat}{ρ ρ':aP} (h:∀i,i<n->ρ'.getD i (.i 0)=ρ.getD i (.i 0)):∀{l:mA},l.all (·.under n)=true->l.map (Ex.ev ρ')=l.map (Ex.ev ρ)
 |[],_=>rfl
 |x::l,hx=>by
  simp only[all_cons,Bool.and_eq_true]at hx
  simp only[map_cons];rw[Ex.cg h hx.1,OC h hx.2]
theorem asa (ρ:aP):∀(x:Ex) (n:Nat) (a:Ex),aiz x n=some a->a.ev ρ=(x.ev ρ).list.getD n (.i 0):=by
 intro x
 induction x with
 |o f p q _ ihq=>
  intro n a h
  cases f<;>(try(simp[aiz]at h;done))
  cases n with
  |zero=>simp[aiz]at h;subst h;simp[Ex.ev,U2.ev]
  |succ n=>simp only[aiz]at h;simp[Ex.ev,U2.ev,ihq n a h]
 |_=>intro n a h;simp[aiz]at h
theorem kR (ρ:aP) (f:U1) (x:Ex):(CB f x).ev ρ=f.ev (x.ev ρ):=by
 unfold CB
 split<;>(try rfl)
 split
 ·rename_i a h;rw[asa ρ _ _ _ h];rfl
 ·rfl
theorem bP (ρ:aP) (f:U2) (x y:Ex):(iV f x y).ev ρ=f.ev (x.ev ρ) (y.ev ρ):=by
 unfold iV
 split
 ·split<;>rfl
 ·split
  ·split
   ·split<;>simp[Ex.ev,U2.ev,Sc.bool]
   ·simp[Ex.ev,U2.ev,Sc.bool]
  ·split
   ·simp[Ex.ev,U2.ev,Sc.bool]
   ·split<;>simp[Ex.ev,U2.ev,Sc.bool]
  ·rfl
 ·rfl
theorem Hs (ρ:aP) (f:U3) (x y z:Ex):(TV f x y z).ev ρ=f.ev (x.ev ρ) (y.ev ρ) (z.ev ρ):=rfl
theorem DF (l:aP):mS l=l.map Sc.er:=rfl
@[simp] theorem aBw:mS []=[]:=rfl
@[simp] theorem M9 (x:Sc) (l:aP):mS (x::l)=x.er::mS l:=rfl
@[simp] theorem aGJ (z:Int):(Sc.i z).er= .i z:=by simp[Sc.er]
theorem adB (x:Sc):x.er.int=x.int:=by cases x<;>simp[Sc.er,Sc.int]
theorem Yr (x:Sc):x.er.bool=x.bool:=by cases x<;>simp[Sc.er,Sc.bool]
theorem adC (x:Sc):x.er.str=x.str:=by cases x<;>simp[Sc.er,Sc.str]
theorem S6 (x:Sc):x.er.list=mS x.list:=by cases x<;>simp[Sc.er,Sc.list,mS]
theorem Zy (l:aP):(mS l).length=l.length:=by rw[DF,length_map]
theorem Q1 (l m:aP):mS (l++m)=mS l++mS m:=by simp[DF]
theorem afG (l:aP) (i:Nat):(mS l).getD i (.i 0)=(l.getD i (.i 0)).er:=by
 rw[DF,getD_eq_getElem?_getD,getD_eq_getElem?_getD,getElem?_map]
 cases l[i]? <;>simp
theorem S5 (l:aP) (i:Nat):mS (l.take i)=(mS l).take i:=by simp[DF,map_take]
theorem S4 (l:aP) (i:Nat):mS (l.drop i)=(mS l).drop i:=by simp[DF,map_drop]
theorem Yq (l:aP) (i:Nat) (x:Sc):mS (l.set i x)=(mS l).set i x.er:=by simp[DF,map_set]
theorem o9 {l m:aP} (h:mS l=mS m):l.length=m.length:=by rw[<-Zy l,h,Zy]
theorem iI {x:Sc}{D:aP} (h:x.er= .l (mS D)):mS D=mS x.list:=by
 have:=congrArg Sc.list h
 rw[S6]at this
 exact this.symm
theorem sk (D:aP):(Sc.l D).er= .l (mS D):=by simp[Sc.er,mS]
theorem ayD (ad:Option Addr) (n cap:Nat) (D:aP):(Sc.r ad n cap D).er= .l (mS D):=by simp[Sc.er,mS]
theorem Yp {l m:aP} (h:mS l=mS m) (i:Nat):(l.getD i (.i 0)).er=(m.getD i (.i 0)).er:=by rw[<-afG,h,afG]
structure Ct where
 ρ:aP
 β:Nat->Option Nat
 R:Nat->Option Value
 K:lU
structure Ct.le (c c':Ct):Prop where
 ρ:c'.ρ=c.ρ
 K:c'.K=c.K
 β:∀i n,c.β i=some n->c'.β i=some n
 R:∀i v,c.R i=some v->c'.R i=some v
theorem Ct.le.refl (c:Ct):c.le c:=⟨rfl,rfl,fun _ _ h=>h,fun _ _ h=>h⟩
theorem Ct.le.trans {a b c:Ct} (h:a.le b) (k:b.le c):a.le c:=⟨k.ρ.trans h.ρ,k.K.trans h.K,fun i n x=>k.β i n (h.β i n x),fun i n x=>k.R i n (h.R i n x)⟩
def qH (x:Sc):tE->Nat->dm
 |[],_=>[]
 |k::ks,n=>k.val (x.list.getD n (.i 0))::qH x ks (n+1)
def cY (agg:Bool) (ks:tE) (x:Sc):dm:=
 match agg,ks with
 |true,ks=>qH x ks 0
 |false,[k]=>[k.val x]
 |false,_=>[]
def aE (agg:Bool) (ks:tE) (l:aP):dm:=l.flatMap (cY agg ks)
def jH (n:Nat) (x:Sc):Value:=if n=0 then .string x.str else .agg ((range n).map fun i=>Value.string (x.list.getD i (.i 0)).str).toArray
def acU (m:Bool) (n:Nat):Value:=cond m (.map (some n)) (.pointer (some ⟨n,0,none⟩))
def At.rel (c:Ct):At->Value->Prop
 | .top,_=>True
 | .int k e,v=>v= .int k (e.ev c.ρ).int
 | .bool e,v=>v= .bool (e.ev c.ρ).bool
 | .str e,v=>v= .string (e.ev c.ρ).str
 | .ptr p off,v=>∃n,c.β p=some n/\v= .pointer (some ⟨n,off,none⟩)
 | .pel r es ix off,v=>∃n o len cap,c.R r=some (.slice (some ⟨n,o,none⟩) len cap)/\0<=(ix.ev c.ρ).int/\(ix.ev c.ρ).int<len/\v= .pointer (some ⟨n,o+(ix.ev c.ρ).int.toNat*es+off,none⟩)
 | .als,v=>v= .pointer none
 | .vec r,v=>c.R r=some v/\∃ad n cap,v= .slice ad n cap
 | .sl r es lo len,v=>∃a n cap a' uI,c.R r=some (.slice a n cap)/\v= .slice a' (len.ev c.ρ).int.toNat uI/\0<=(lo.ev c.ρ).int/\0<=(len.ev c.ρ).int/\(lo.ev c.ρ).int+(len.ev c.ρ).int<=n/\
     (len.ev c.ρ).int<=uI/\uI<=maxLen/\(0<(len.ev c.ρ).int->∃b o,a=some ⟨b,o,none⟩/\a'=some ⟨b,o+(lo.ev c.ρ).int.toNat*es,none⟩)
 | .Mr,v=>∃ad,v= .slice ad 0 0
 | .fn f mR,v=>∃ns:jl,mR.map c.β=ns.map some/\v= .func (.func f) #[] (ns.map fun n=>Value.pointer (some ⟨n,0,none⟩)).toArray
 | .keys n e,v=>v= .tuple ((e.ev c.ρ).list.map (jH n)).toArray
 | .aoZ,v=>v= .map none
 | .aoY,v=>v= .nilFunc
 | .mp b,v=>∃n,c.β b=some n/\v= .map (some n)
 | .bs b lo m,v=>∃n cap,c.β b=some n/\v= .slice (some ⟨n,lo,none⟩) m cap
 | .fb f m b,v=>∃n,c.β b=some n/\v= .func (.func f) #[acU m n] #[]
 | .sp b,v=>v= .pointer none\/∃n,c.β b=some n/\v= .pointer (some ⟨n,0,none⟩)
def fp (c:Ct):qE->dm->Prop
 |[],[]=>True
 |x::xs,v::vs=>x.rel c v/\fp c xs vs
 |_,_=>False
def SC.rel (c:Ct):SC->Value->Prop
 | .a x,v=>x.rel c v
 | .g cs,v=>∃vs,v= .agg vs.toArray/\fp c cs vs
def Pz (c:Ct):List SC->dm->Prop
 |[],[]=>True
 |x::xs,v::vs=>x.rel c v/\Pz c xs vs
 |_,_=>False
def SV.rel (c:Ct):SV->Value->Prop
 | .c x,v=>x.rel c v
 | .t xs,v=>∃vs,v= .tuple vs.toArray/\Pz c xs vs
 | .nx e p ch,v=>v=if(e.ev c.ρ).bool=true then .tuple #[.bool true,.int .i64 (p.ev c.ρ).int,.int .i32 (ch.ev c.ρ).int]else .tuple #[.bool false]
theorem At.v7 {c c':Ct} (h:c.le c'):∀{x:At}{v:Value},x.rel c v->x.rel c' v:=by
 intro x v hx
 cases x<;>simp only[At.rel,h.ρ]at hx⊢
 case ptr p off=>obtain⟨n,e,rfl⟩:=hx;exact⟨n,h.β _ _ e,rfl⟩
 case pel r es ix off=>obtain⟨n,o,len,cap,e,r⟩:=hx;exact⟨n,o,len,cap,h.R _ _ e,r⟩
 case vec r=>exact⟨h.R _ _ hx.1,hx.2⟩
 case sl r es lo len=>obtain⟨a,n,cap,a',uI,e,r⟩:=hx;exact⟨a,n,cap,a',uI,h.R _ _ e,r⟩
 case fn f mR=>
  obtain⟨ns,e,rfl⟩:=hx
  refine⟨ns,?_,rfl⟩
  induction mR generalizing ns with
  |nil=>simpa using e
  |cons p ps ih=>
   cases ns with
   |nil=>simp at e
   |cons n ns=>simp only[map_cons,List.cons.injEq]at e⊢;exact⟨h.β _ _ e.1,ih ns e.2⟩
 case mp b=>obtain⟨n,e,rfl⟩:=hx;exact⟨n,h.β _ _ e,rfl⟩
 case bs b lo m=>obtain⟨n,cap,e,rfl⟩:=hx;exact⟨n,cap,h.β _ _ e,rfl⟩
 case fb f m b=>obtain⟨n,e,rfl⟩:=hx;exact⟨n,h.β _ _ e,rfl⟩
 case sp b=>exact hx.imp id fun⟨n,e,q⟩=>⟨n,h.β _ _ e,q⟩
 all_goals exact hx
theorem yG {c c':Ct} (h:c.le c'):∀{xs:qE}{vs:dm},fp c xs vs->fp c' xs vs
 |[],[],_=>trivial
 |_::_,_::_,hx=>⟨At.v7 h hx.1,yG h hx.2⟩
 |[],_::_,hx=>hx.elim
 |_::_,[],hx=>hx.elim
theorem SC.v7 {c c':Ct} (h:c.le c'):∀{x:SC}{v:Value},x.rel c v->x.rel c' v
 | .a _,_,hx=>At.v7 h hx
 | .g _,_,⟨vs,e,r⟩=>⟨vs,e,yG h r⟩
theorem aki {c c':Ct} (h:c.le c'):∀{xs:List SC}{vs:dm},Pz c xs vs->Pz c' xs vs
 |[],[],_=>trivial
 |_::_,_::_,hx=>⟨SC.v7 h hx.1,aki h hx.2⟩
 |[],_::_,hx=>hx.elim
 |_::_,[],hx=>hx.elim
theorem SV.v7 {c c':Ct} (h:c.le c'):∀{x:SV}{v:Value},x.rel c v->x.rel c' v
 | .c _,_,hx=>SC.v7 h hx
 | .t _,_,⟨vs,e,r⟩=>⟨vs,e,aki h r⟩
 | .nx _ _ _,_,hx=>by simp only[SV.rel,h.ρ]at hx⊢;exact hx
theorem At.KS {c:Ct}{n:Nat}{ρ':aP} (h:∀i,i<n->ρ'.getD i (.i 0)=c.ρ.getD i (.i 0)):∀{x:At}{v:Value},x.under n=true->(x.rel {c with ρ:=ρ'} v↔x.rel c v):=by
 intro x v hu
 cases x<;>simp only[At.rel,At.under,Bool.and_eq_true]at hu⊢
 case int k e=>rw[Ex.cg h hu]
 case bool e=>rw[Ex.cg h hu]
 case str e=>rw[Ex.cg h hu]
 case pel r es ix off=>rw[Ex.cg h hu]
 case sl r es lo len=>rw[Ex.cg h hu.1,Ex.cg h hu.2]
 case keys n e=>rw[Ex.cg h hu]
theorem aaw {c:Ct}{n:Nat}{ρ':aP} (h:∀i,i<n->ρ'.getD i (.i 0)=c.ρ.getD i (.i 0)):∀{xs:qE}{vs:dm},xs.all (·.under n)=true->(fp {c with ρ:=ρ'} xs vs↔fp c xs vs)
 |[],[],_=>Iff.rfl
 |x::xs,v::vs,hu=>by
  simp only[all_cons,Bool.and_eq_true]at hu
  exact and_congr (At.KS h hu.1) (aaw h hu.2)
 |[],_::_,_=>Iff.rfl
 |_::_,[],_=>Iff.rfl
theorem SC.KS {c:Ct}{n:Nat}{ρ':aP} (h:∀i,i<n->ρ'.getD i (.i 0)=c.ρ.getD i (.i 0)):∀{x:SC}{v:Value},x.under n=true->(x.rel {c with ρ:=ρ'} v↔x.rel c v)
 | .a _,_,hu=>At.KS h hu
 | .g _,_,hu=>exists_congr fun _=>and_congr Iff.rfl (aaw h hu)
theorem agJ {c:Ct}{n:Nat}{ρ':aP} (h:∀i,i<n->ρ'.getD i (.i 0)=c.ρ.getD i (.i 0)):∀{xs:List SC}{vs:dm},xs.all (·.under n)=true->(Pz {c with ρ:=ρ'} xs vs↔Pz c xs vs)
 |[],[],_=>Iff.rfl
 |x::xs,v::vs,hu=>by
  simp only[all_cons,Bool.and_eq_true]at hu
  exact and_congr (SC.KS h hu.1) (agJ h hu.2)
 |[],_::_,_=>Iff.rfl
 |_::_,[],_=>Iff.rfl
theorem SV.KS {c:Ct}{n:Nat}{ρ':aP} (h:∀i,i<n->ρ'.getD i (.i 0)=c.ρ.getD i (.i 0)):∀{x:SV}{v:Value},x.under n=true->(x.rel {c with ρ:=ρ'} v↔x.rel c v)
 | .c _,_,hu=>SC.KS h hu
 | .t _,_,hu=>exists_congr fun _=>and_congr Iff.rfl (agJ h hu)
 | .nx _ _ _,_,hu=>by
   simp only[SV.under,Bool.and_eq_true]at hu
   simp only[SV.rel]
   rw[Ex.cg h hu.1.1,Ex.cg h hu.1.2,Ex.cg h hu.2]
theorem At.fX {x y:At} (h:x.same y=true):x=y:=by
 cases x<;>cases y<;>simp_all [At.same]
 case int.int=>exact Ex.fX h.2
 case bool.bool=>exact Ex.fX h
 case str.str=>exact Ex.fX h
 case pel.pel=>exact Ex.fX h.1.2
 case sl.sl=>exact⟨Ex.fX h.1.2,Ex.fX h.2⟩
 case keys.keys=>exact Ex.fX h.2
theorem At.Hq {c:Ct}{x y:At} (h:x.le y=true){v:Value} (hy:y.rel c v):x.rel c v:=by
 unfold At.le at h
 cases x<;>simp only[Bool.or_eq_true]at h
 case top=>trivial
 all_goals(rcases h with h|h;· cases h);rw[At.fX h];exact hy
theorem aj3 {c:Ct}:∀{xs ys:qE}{vs:dm},leL xs ys=true->fp c ys vs->fp c xs vs
 |[],[],_,_,h=>h
 |x::xs,y::ys,v::vs,h,hy=>by
  simp only[leL,Bool.and_eq_true]at h
  exact⟨At.Hq h.1 hy.1,aj3 h.2 hy.2⟩
 |_::_,_::_,[],_,hy=>hy.elim
 |[],_::_,_,h,_=>by cases h
 |_::_,[],_,h,_=>by cases h
theorem SC.Hq {c:Ct}:∀{x y:SC}{v:Value},x.le y=true->y.rel c v->x.rel c v:=by
 intro x y v h hy
 unfold SC.le at h
 split at h
 ·trivial
 ·exact At.Hq h hy
 ·obtain⟨vs,e,r⟩:=hy;exact⟨vs,e,aj3 h r⟩
 ·cases h
theorem aj2 {c:Ct}:∀{xs ys:List SC}{vs:dm},leC xs ys=true->Pz c ys vs->Pz c xs vs
 |[],[],_,_,h=>h
 |x::xs,y::ys,v::vs,h,hy=>by
  simp only[leC,Bool.and_eq_true]at h
  exact⟨SC.Hq h.1 hy.1,aj2 h.2 hy.2⟩
 |_::_,_::_,[],_,hy=>hy.elim
 |[],_::_,_,h,_=>by cases h
 |_::_,[],_,h,_=>by cases h
theorem SV.Hq {c:Ct}:∀{x y:SV}{v:Value},x.le y=true->y.rel c v->x.rel c v:=by
 intro x y v h hy
 unfold SV.le at h
 split at h
 ·trivial
 ·exact SC.Hq h hy
 ·obtain⟨vs,e,r⟩:=hy;exact⟨vs,e,aj2 h r⟩
 ·simp only[Bool.and_eq_true]at h
  obtain⟨⟨h1,h2⟩,h3⟩:=h
  rw[Ex.fX h1,Ex.fX h2,Ex.fX h3];exact hy
 ·cases h
theorem vo {c:Ct}:∀{xs:qE}{vs:dm},fp c xs vs->vs.length=xs.length
 |[],[],_=>rfl
 |_::_,_::_,h=>by simp[vo h.2]
 |[],_::_,h=>h.elim
 |_::_,[],h=>h.elim
theorem N6 {c:Ct}:∀{xs:qE}{vs:dm}{n:Nat}{x:At},fp c xs vs->xs[n]? =some x->∃v,vs[n]? =some v/\x.rel c v
 |_::_,v::_,0,_,h,e=>⟨v,rfl,by simp at e;exact e▸h.1⟩
 |_::_,_::_,n+1,_,h,e=>by simpa using N6 (n:=n) h.2 (by simpa using e)
 |[],[],_,_,_,e=>by simp at e
 |[],_::_,_,_,h,_=>h.elim
 |_::_,[],_,_,h,_=>h.elim
theorem Uk {c:Ct}:∀{xs:List SC}{vs:dm}{n:Nat}{x:SC},Pz c xs vs->xs[n]? =some x->∃v,vs[n]? =some v/\x.rel c v
 |_::_,v::_,0,_,h,e=>⟨v,rfl,by simp at e;exact e▸h.1⟩
 |_::_,_::_,n+1,_,h,e=>by simpa using Uk (n:=n) h.2 (by simpa using e)
 |[],[],_,_,_,e=>by simp at e
 |[],_::_,_,_,h,_=>h.elim
 |_::_,[],_,_,h,_=>h.elim
def dG:Value->Option Nat
 | .slice (some a) _ (_+1)=>some a.block
 |_=>none
theorem sP {v:Value}{p:Nat} (h:dG v=some p):v.ownBlock=some p:=by
 unfold dG at h
 split at h
 ·simpa[Value.ownBlock]using h
 ·cases h
def oi:Nat->dm->List MapEntry
 |_,[]=>[]
 |i,k::ks=>⟨k,.bool true,i⟩::oi (i+1) ks
def kE (ks:dm):Array MapEntry:=(oi 0 ks).toArray
def wX (k:Bk) (cs:dm):Obj:=
 match k.kd,cs with
 |1,[.tuple ks]=> .map (kE ks.toList) ks.size
 |2,[.string s,.int _ p]=> .stringIter s p.toNat
 |_,cs=> .cells cs.toArray k.ty (0,0)
theorem dY {k:Bk} (h:k.kd=0) (cs:dm):wX k cs= .cells cs.toArray k.ty (0,0):=by
 unfold wX
 split
 ·rename_i h1;rw[h]at h1;cases h1
 ·rename_i h1;rw[h]at h1;cases h1
 ·rfl
def St.owns (σ:St) (c:Ct) (x:Bool×Nat) (g:Nat):Prop:=
 match x with
 |(false,p)=>(∃k,σ.blk p=some k)/\c.β p=some g
 |(true,r)=>(∃k,σ.row r=some k/\k.own=true)/\∃v,c.R r=some v/\dG v=some g
structure mC where
 n:Nat
 X:lU
 lim:Nat
 hn:lim<=n
 hX:∀p,X p->lim<=p
structure rM (B:Nat) (X:lU) (w w':World):Prop where
 os:w'.os=w.os
 tape:w'.tape=w.tape
 output:w'.output=w.output
 size:w.heap.size<=w'.heap.size
 block:∀k,k<B->¬X k->w'.heap[k]? =w.heap[k]?
theorem rM.refl (B:Nat) (X:lU) (w:World):rM B X w w:=⟨rfl,rfl,rfl,Nat.le_refl _,fun _ _ _=>rfl⟩
theorem rM.trans {B:Nat}{X:lU}{a b c:World} (h:rM B X a b) (k:rM B X b c):rM B X a c:=
 ⟨k.os.trans h.os,k.tape.trans h.tape,k.output.trans h.output,Nat.le_trans h.size k.size,fun i hi hx=>(k.block i hi hx).trans (h.block i hi hx)⟩
theorem rM.of {B:Nat} (X:lU){w w':World} (h:Below B w w'):rM B X w w':=⟨h.os,h.tape,h.output,h.size,fun k hk _=>h.block k hk⟩
theorem rM.below {B:Nat}{X:lU}{w w':World} (h:rM B X w w') (hx:∀p,¬X p):Below B w w':=⟨h.os,h.tape,h.output,h.size,fun k hk=>h.block k hk (hx k)⟩
theorem rM.mono {B B':Nat}{X Y:lU}{w w':World} (h:rM B X w w') (hB:B'<=B) (hX:∀p,p<B'->X p->Y p):rM B' Y w w':=
 ⟨h.os,h.tape,h.output,h.size,fun k hk hy=>h.block k (Nat.lt_of_lt_of_le hk hB) (fun hx=>hy (hX k hk hx))⟩
theorem rM.drew {B:Nat}{X:lU}{a w:World} (h:rM B X a w):rM B X a w.drew:=⟨h.os,h.tape,h.output,h.size,h.block⟩
theorem rM.alloc {B:Nat}{X:lU}{a w:World} (h:rM B X a w) (hB:B<=w.heap.size) (o:Obj):rM B X a (w.alloc o):=
 h.trans (.of X ((Below.refl B w).alloc hB o))
theorem rM.grown {B:Nat}{X:lU}{a w w':World}{row:Option Nat} (h:rM B X a w) (hg:w.grownBy w' row) (hB:B<=w.heap.size) (hr:∀k,row=some k->B<=k\/X k):rM B X a w':=
 h.trans ⟨hg.os,hg.tape,hg.output,hg.size,fun k hk hx=>hg.block k (by omega) (fun e=>by rcases hr k e.symm with h|h;· omega
                                                                                        ·exact hx h)⟩
def WU (agg:Bool) (x:Sc) (i:Nat):Sc:=if agg then x.list.getD i (.i 0)else x
inductive Fits (P:Program) (w:World) (ok:lU):CK->Sc->Prop where
 |int (k:IntKind) (x:Sc):Fits P w ok (.int k) x
 |bool (x:Sc):Fits P w ok .bool x
 |str (x:Sc):Fits P w ok .str x
 |sl {el:TypeId}{agg:Bool}{ks:tE}{ad:Option Addr}{n cap:Nat}{xs:aP} (hT:qg P el=some (agg,ks)) (hl:xs.length=n) (hc:n<=cap) (hm:cap<=maxLen)
   (hcell:∀j u,(aE agg ks xs)[j]? =some u->∃p o,ad=some ⟨p,o,none⟩/\w.cell? ⟨p,o+j,none⟩=some u/\ok p)
   (ME:∀x∈xs,∀i k,ks[i]? =some k->Fits P w ok k (WU agg x i)):Fits P w ok (.sl el) (.r ad n cap xs)
theorem Fits.mono {P:Program}{w w':World}{ok ok':lU} (h:∀p o u,ok p->w.cell? ⟨p,o,none⟩=some u->ok' p/\w'.cell? ⟨p,o,none⟩=some u){k:CK}{x:Sc} (hf:Fits P w ok k x):Fits P w' ok' k x:=by
 induction hf with
 |int k x=>exact .int k x
 |bool x=>exact .bool x
 |str x=>exact .str x
 |sl hT hl hc hm hcell ME ih=>
  refine .sl hT hl hc hm (fun j u hj=> ?_) ih
  obtain⟨p,o,e1,e2,e3⟩:=hcell j u hj
  obtain⟨q1,q2⟩:=h p _ u e3 e2
  exact⟨p,o,e1,q2,q1⟩
def lW (P:Program) (w:World) (ok:lU) (agg:Bool) (ks:tE) (x:Sc):Prop:=∀i k,ks[i]? =some k->Fits P w ok k (WU agg x i)
def tG (c:Ct) (k:Rw) (n:Nat) (l H:dm):Prop:=
 match k.hole with
 |none=>H=l
 |some (ix,off,q)=>∃u,c.R q=some u/\(∃a m cap,u= .slice a m cap)/\0<=(ix.ev c.ρ).int/\(ix.ev c.ρ).int<n/\off<k.ks.length/\H=l.set ((ix.ev c.ρ).int.toNat*k.ks.length+off) u
theorem Qp {c:Ct}{k:Rw}{n:Nat}{l H:dm} (hp:k.hole=none):tG c k n l H↔H=l:=by unfold tG;rw[hp]
theorem gr {k:Rw} (h:k.plain=true):k.hole=none:=by
 unfold Rw.plain at h
 cases hh:k.hole with
 |none=>rfl
 |some _=>rw[hh]at h;cases h
theorem tG.le {c c':Ct}{k:Rw}{n:Nat}{l H:dm} (h:tG c k n l H) (hc:c.le c'):tG c' k n l H:=by
 unfold tG at h⊢
 split
 ·rename_i hh;rw[hh]at h;exact h
 ·rename_i ix off q hh
  rw[hh]at h
  obtain⟨u,e,r⟩:=h
  exact⟨u,hc.R _ _ e,by rw[hc.ρ];exact r⟩
def N8 (c:Ct) (w:World) (k:Rw) (v:Value) (n:Nat) (l:dm):Prop:=∃H,w.ownsRow 0 k.el k.ks.length v n H/\tG c k n l H
theorem N8.plain {c:Ct}{w:World}{k:Rw}{v:Value}{n:Nat}{l:dm} (h:N8 c w k v n l) (hp:k.hole=none):w.ownsRow 0 k.el k.ks.length v n l:=by
 obtain⟨H,h1,h2⟩:=h
 rw[Qp hp]at h2;subst h2;exact h1
theorem N8.of {c:Ct}{w:World}{k:Rw}{v:Value}{n:Nat}{l:dm} (hp:k.hole=none) (h:w.ownsRow 0 k.el k.ks.length v n l):N8 c w k v n l:=⟨l,h,(Qp hp).2 rfl⟩
theorem N8.lt {c:Ct}{w:World}{k:Rw}{v:Value}{n:Nat}{l:dm} (h:N8 c w k v n l){p:Nat} (hp:dG v=some p):p<w.heap.size:=by
 obtain⟨H,h1,_⟩:=h;exact(h1.lt p (sP hp)).2
def fg (B:mC) (σ:St) (c:Ct) (p:Nat):Prop:=(∀x,¬σ.owns c x p)/\(B.n<=p\/c.K p\/B.X p)
def ako (P:Program) (B:mC) (σ:St) (c:Ct) (w:World) (k:Rw) (v:Value):Prop:=
 ∃D a n cap,v= .slice a n cap/\(k.cont.ev c.ρ).er= .l (mS D)/\D.length=n/\n<=cap/\cap<=maxLen/\
  (k.own=true->cap=0\/(N8 c w k v n (aE k.agg k.ks D)/\∀p,dG v=some p->B.n<=p\/B.X p))/\
  (k.own=false->∀j u,(aE k.agg k.ks D)[j]? =some u->∃p o,a=some ⟨p,o,none⟩/\w.cell? ⟨p,o+j,none⟩=some u/\fg B σ c p)/\
  ∀x∈D,lW P w (fg B σ c) k.agg k.ks x
structure aX (P:Program) (B:mC) (w0:World) (σ:St) (c:Ct) (a:Act) (w:World):Prop where
 below:rM B.n B.X w0 w
 hB:B.n<=w.heap.size
 defers:a.defers=[]
 size:σ.aZ.length<=a.tmps.size
 aZ:∀t,(σ.slot t).rel c (a.tmps.getD t undef)
 aO:∀p k,σ.blk p=some k->∃n cs,c.β p=some n/\(B.n<=n\/B.X n)/\w.heap[n]? =some (wX k cs)/\fp c k.cells cs
 rows:∀r k,σ.row r=some k->∃v,c.R r=some v/\ako P B σ c w k v
 apart:∀x y g,σ.owns c x g->σ.owns c y g->x=y
theorem aiA {w:World}{e:TypeId}{s:Nat}{v:Value}{n:Nat}{xs:dm} (h:w.ownsRow 0 e s v n xs){p:Nat} (hp:dG v=some p):p<w.heap.size:=(h.lt p (sP hp)).2
theorem aeM {w w':World}{e:TypeId}{s:Nat}{v:Value}{n:Nat}{xs:dm} (h:w.ownsRow 0 e s v n xs) (hk:∀p,dG v=some p->w'.heap[p]? =w.heap[p]?) (hc:∀ad n,v≠.slice ad n 0\/v= .slice none 0 0):w'.ownsRow 0 e s v n xs:=by
 obtain⟨q1,q2⟩:=h
 refine⟨q1,q2.imp id ?_⟩
 rintro⟨g',uI,cur,e1,e2,e3,e4⟩
 refine⟨g',uI,cur,e1,e2,?_,e4⟩
 cases uI with
 |zero=>rcases hc (some ⟨g',0,none⟩) n with h|h
        ·exact absurd e1 h
        ·rw[e1]at h;cases h
 |succ m=>rw[hk g' (by rw[e1];rfl)];exact e3
theorem ako.mono {P:Program}{B:mC}{σ σ':St}{c c':Ct}{w w':World}{k:Rw}{v:Value} (h:ako P B σ c w k v)
 (hf:∀p o u,fg B σ c p->w.cell? ⟨p,o,none⟩=some u->fg B σ' c' p/\w'.cell? ⟨p,o,none⟩=some u)
 (ho:k.own=true->∀p,dG v=some p->p<w.heap.size->w'.heap[p]? =w.heap[p]?) (hρ:(k.cont.ev c'.ρ).er=(k.cont.ev c.ρ).er) (hH:∀n l H,tG c k n l H->tG c' k n l H):ako P B σ' c' w' k v:=by
 obtain⟨D,a,n,cap,rfl,h0,h1,h2,h3,h4,h5,h6⟩:=h
 refine⟨D,a,n,cap,rfl,by rw[hρ];exact h0,h1,h2,h3,fun hh=> ?_,fun hh j u hj=> ?_,fun x hx i k hk=>(h6 x hx i k hk).mono hf⟩
 ·rcases h4 hh with hz|⟨q1,q2⟩
  ·exact .inl hz
  ·by_cases hz:cap=0
   ·exact .inl hz
   ·obtain⟨H,q0,q3⟩:=q1
    refine .inr ⟨⟨H,aeM q0 (fun p hp=>ho hh p hp (aiA q0 hp)) (fun ad m=> .inl fun e=> ?_),hH _ _ _ q3⟩,q2⟩
    cases e;exact hz rfl
 ·obtain⟨p,o,e1,e2,e3⟩:=h5 hh j u hj
  obtain⟨f1,f2⟩:=hf p _ u e3 e2
  exact⟨p,o,e1,f2,f1⟩
structure nZ (σ:St) (c:Ct):Prop where
 β:∀p,σ.aO.length<=p->c.β p=none
 R:∀r,σ.rows.length<=r->c.R r=none
theorem aaD (l:List SV) (d:Nat) (v:SV) (t:Nat):(l.set d v).getD t .top=if d=t/\t<l.length then v else l.getD t .top:=by
 simp only[getD_eq_getElem?_getD,getElem?_set]
 by_cases h:d=t
 ·subst h
  by_cases h2:d<l.length
  ·simp[h2]
  ·simp[h2]
 ·simp[h]
theorem je {α:Type} (d:α):∀(l:List α) (n:Nat) (v:α) (i:Nat),(dH d l n v).getD i d=if i=n then v else l.getD i d
 |_::xs,0,v,0=>by simp[dH]
 |_::xs,0,v,i+1=>by simp[dH]
 |[],0,v,0=>by simp[dH]
 |[],0,v,i+1=>by simp[dH]
 |x::xs,n+1,v,0=>by simp[dH]
 |x::xs,n+1,v,i+1=>by have:=je d xs n v i;simp only[dH,getD_cons_succ];rw[this];simp
 |[],n+1,v,0=>by simp[dH]
 |[],n+1,v,i+1=>by have:=je d [] n v i;simp only[dH,getD_cons_succ];rw[this];simp
theorem oY {α:Type} (d:α):∀(l:List α) (n:Nat) (v:α),(dH d l n v).length=max l.length (n+1)
 |_::xs,0,v=>by simp[dH]
 |[],0,v=>by simp[dH]
 |x::xs,n+1,v=>by simp only[dH,length_cons,oY d xs n v];omega
 |[],n+1,v=>by simp only[dH,length_cons,oY d [] n v,length_nil];omega
section
variable {P:Program}{B:mC}{w0:World}{σ:St}{c:Ct}{a:Act}{w:World}
theorem aX.sI (g:aX P B w0 σ c a w){x:Bool×Nat}{n:Nat} (h:σ.owns c x n):(B.n<=n\/B.X n)/\n<w.heap.size:=by
 obtain⟨tag,p⟩:=x
 cases tag
 ·obtain⟨⟨k,hk⟩,hb⟩:=h
  obtain⟨n',cs,e,h1,h2,_⟩:=g.aO p k hk
  rw[hb]at e;cases e
  exact⟨h1,(Array.getElem?_eq_some_iff.1 h2).1⟩
 ·obtain⟨⟨k,hk,ho⟩,v,hv,hg⟩:=h
  obtain⟨v',e,D,a',n',cap,rfl,h0,h1,h2,h3,h4,_⟩:=g.rows p k hk
  rw[hv]at e;cases e
  rcases h4 ho with rfl|⟨q1,q2⟩
  ·cases a'<;>simp[dG]at hg
  ·exact⟨q2 n hg,q1.lt hg⟩
theorem aX.put (g:aX P B w0 σ c a w){sv:SV}{v:Value} (h:sv.rel c v) (d:Option Tmp):
 aX P B w0 {σ with aZ:=match d with|some d=>σ.aZ.set d sv|none=>σ.aZ} c (a.put d v) w:=by
 cases d with
 |none=>exact g
 |some d=>
  refine⟨g.below,g.hB,g.defers,by simpa[Act.put]using g.size,fun t=> ?_,g.aO,fun r k hk=> ?_,fun x y n hx hy=> ?_⟩
  ·show((σ.aZ.set d sv).getD t .top).rel c ((a.tmps.setIfInBounds d v).getD t undef)
   rw[aaD]
   by_cases ht:d=t/\t<σ.aZ.length
   ·rw[if_pos ht]
    obtain⟨rfl,hl⟩:=ht
    have:d<a.tmps.size:=Nat.lt_of_lt_of_le hl g.size
    simpa[Array.getElem?_setIfInBounds,this]using h
   ·rw[if_neg ht]
    by_cases hd:d=t
    ·subst hd
     have:σ.aZ.getD d .top= .top:=by
      have:¬d<σ.aZ.length:=fun h=>ht ⟨rfl,h⟩
      simp[getD_eq_getElem?_getD,getElem?_eq_none (Nat.le_of_not_lt this)]
     rw[this];trivial
    ·have:=g.aZ t
     simpa[Array.getElem?_setIfInBounds_ne hd,St.slot]using this
  ·exact g.rows r k hk
  ·exact g.apart x y n (by obtain⟨t,p⟩:=x;cases t<;>exact hx) (by obtain⟨t,p⟩:=y;cases t<;>exact hy)
theorem aX.aoB (g:aX P B w0 σ c a w){w':World} (hb:rM B.n B.X w0 w') (hs:w.heap.size<=w'.heap.size) (hk:∀n,n<w.heap.size->w'.heap[n]? =w.heap[n]?):aX P B w0 σ c a w':=by
 refine⟨hb,Nat.le_trans g.hB hs,g.defers,g.size,g.aZ,fun p k hp=> ?_,fun r k hr=> ?_,g.apart⟩
 ·obtain⟨n,cs,e,h1,h2,h3⟩:=g.aO p k hp
  exact⟨n,cs,e,h1,by rw[hk n (Array.getElem?_eq_some_iff.1 h2).1];exact h2,h3⟩
 ·obtain⟨v,e,q⟩:=g.rows r k hr
  exact⟨v,e,q.mono (fun p o u hp hu=>⟨hp,by rw[World.cell?_of_block (hk p (World.block_lt_of_cell? w ⟨p,o,none⟩ hu))];exact hu⟩) (fun _ p _ fU=>hk p fU) rfl (fun _ _ _ h=>h)⟩
theorem aX.call (g:aX P B w0 σ c a w){w':World} (h:Below w.heap.size w w'):aX P B w0 σ c a w':=
 g.aoB (g.below.trans (.of B.X (h.mono g.hB))) h.size h.block
theorem aX.drew (g:aX P B w0 σ c a w):aX P B w0 σ c a {w with drawn:=w.drawn+1}:=
 g.aoB g.below.drew (Nat.le_refl _) (fun _ _=>rfl)
theorem aX.env (g:aX P B w0 σ c a w) (hu:σ.under=true){ρ':aP} (h:∀i,i<σ.nv->ρ'.getD i (.i 0)=c.ρ.getD i (.i 0)):aX P B w0 σ {c with ρ:=ρ'} a w:=by
 simp only[St.under,Bool.and_eq_true,all_eq_true]at hu
 obtain⟨⟨hs,hbk⟩,hr⟩:=hu
 have ME:∀{α:Type} (l:List (Option α)) (p:Nat) (k:α),l.getD p none=some k->some k∈l:=fun l p k e=>by
  rw[getD_eq_getElem?_getD]at e
  cases e2:l[p]? with
  |none=>simp[e2]at e
  |some z=>simp[e2]at e;subst e;exact mem_of_getElem? e2
 refine⟨g.below,g.hB,g.defers,g.size,fun t=> ?_,fun p k hp=> ?_,fun r k hk=> ?_,g.apart⟩
 ·by_cases ht:t<σ.aZ.length
  ·have:σ.slot t∈σ.aZ:=by unfold St.slot;simp[getD_eq_getElem?_getD,getElem?_eq_getElem ht]
   exact(SV.KS h (hs _ this)).2 (g.aZ t)
  ·have:σ.slot t= .top:=by unfold St.slot;simp[getD_eq_getElem?_getD,getElem?_eq_none (Nat.le_of_not_lt ht)]
   rw[this];trivial
 ·obtain⟨n,cs,e,h1,h2,h3⟩:=g.aO p k hp
  refine⟨n,cs,e,h1,h2,(aaw h ?_).2 h3⟩
  have:=hbk _ (ME _ _ _ hp)
  simpa using this
 ·have hku:k.cont.under σ.nv=true/\k.Wo σ.nv=true:=by have:=hr _ (ME _ _ _ hk);simpa using this
  obtain⟨hku,hkh⟩:=hku
  obtain⟨v,e,q⟩:=g.rows r k hk
  exact⟨v,e,q.mono (fun p o u hp hu=>⟨hp,hu⟩) (fun _ _ _ _=>rfl) (by rw[Ex.cg h hku]) (fun n l H hh=>by
   unfold tG at hh⊢
   unfold Rw.Wo at hkh
   split
   ·rename_i h1;rw[h1]at hh;exact hh
   ·rename_i ix off q h1
    rw[h1]at hh hkh
    have e:ix.ev ρ'=ix.ev c.ρ:=Ex.cg h hkh
    simp only[e];exact hh)⟩
theorem aX.alloc (g:aX P B w0 σ c a w){p:Nat} (hp:c.β p=none){k:Bk}{cs:dm} (hk:fp c k.cells cs):
 aX P B w0 {σ with aO:=dH none σ.aO p (some k)} {c with β:=fun i=>if i=p then some w.heap.size else c.β i} a (w.alloc (wX k cs)):=by
 have hle:c.le {c with β:=fun i=>if i=p then some w.heap.size else c.β i}:=⟨rfl,rfl,fun i n e=>by
  by_cases h:i=p
  ·subst h;rw[hp]at e;cases e
  ·simp[h,e],fun _ _ e=>e⟩
 have cv:∀x n,St.owns {σ with aO:=dH none σ.aO p (some k)} {c with β:=fun i=>if i=p then some w.heap.size else c.β i} x n->(x=(false,p)/\n=w.heap.size)\/(σ.owns c x n):=by
  rintro⟨t,q⟩ n h
  cases t
  ·obtain⟨⟨k',mi⟩,e⟩:=h
   by_cases hq:q=p
   ·subst hq;simp at e;exact .inl ⟨rfl,e.symm⟩
   ·refine .inr ⟨⟨k',?_⟩,by simpa[hq]using e⟩
    have:(dH none σ.aO p (some k)).getD q none=some k':=mi
    rw[je,if_neg hq]at this
    exact this
  ·exact .inr h
 refine⟨g.below.alloc g.hB _,by simp;have:=g.hB;omega,g.defers,g.size,fun t=>SV.v7 hle (g.aZ t),fun q k' hq=> ?_,fun r k' hr=> ?_,fun x y n hx hy=> ?_⟩
 ·have:(dH none σ.aO p (some k)).getD q none=some k':=hq
  rw[je]at this
  by_cases h:q=p
  ·rw[if_pos h]at this
   cases this
   exact⟨w.heap.size,cs,by simp[h],.inl g.hB,heap_alloc_new w _,yG hle hk⟩
  ·rw[if_neg h]at this
   obtain⟨n,R0,e,h1,h2,h3⟩:=g.aO q k' this
   exact⟨n,R0,by simp[h,e],h1,by rw[Below.heap_alloc w _ n (Array.getElem?_eq_some_iff.1 h2).1];exact h2,yG hle h3⟩
 ·obtain⟨v,e,q⟩:=g.rows r k' hr
  refine⟨v,e,q.mono (fun q o u hq hu=> ?_) (fun _ q _ fU=>Below.heap_alloc w _ q fU) rfl (fun _ _ _ h=>h)⟩
  have fU:=World.block_lt_of_cell? w ⟨q,o,none⟩ hu
  refine⟨⟨fun x hx=> ?_,hq.2⟩,by rw[World.cell?_of_block (Below.heap_alloc w _ q fU)];exact hu⟩
  rcases cv x q hx with⟨_,h⟩|h
  ·simp at fU;omega
  ·exact hq.1 x h
 ·rcases cv x n hx with⟨ex,e1⟩|hx<;>rcases cv y n hy with⟨ey,e2⟩|hy
  ·rw[ex,ey]
  ·have:=(g.sI hy).2;omega
  ·have:=(g.sI hx).2;omega
  ·exact g.apart x y n hx hy
theorem aX.store (g:aX P B w0 σ c a w){p n:Nat}{k:Bk} (hp:σ.blk p=some k) (hn:c.β p=some n){cells:qE}{cs:dm} (hk:fp c cells cs){ty kd:Nat}
 {w':World} (hb:rM B.n B.X w0 w') (hs:w'.heap.size=w.heap.size) (an1:w'.heap[n]? =some (wX ⟨cells,ty,kd⟩ cs)) (hold:∀m,m≠n->w'.heap[m]? =w.heap[m]?):
 aX P B w0 {σ with aO:=dH none σ.aO p (some ⟨cells,ty,kd⟩)} c a w':=by
 have cv:∀x m,St.owns {σ with aO:=dH none σ.aO p (some ⟨cells,ty,kd⟩)} c x m->σ.owns c x m:=by
  rintro⟨t,q⟩ m h
  cases t
  ·obtain⟨⟨k',mi⟩,e⟩:=h
   by_cases hq:q=p
   ·subst hq;exact⟨⟨k,hp⟩,e⟩
   ·refine⟨⟨k',?_⟩,e⟩
    have:(dH none σ.aO p (some ⟨cells,ty,kd⟩)).getD q none=some k':=mi
    rw[je,if_neg hq]at this
    exact this
  ·exact h
 have Dk:σ.owns c (false,p) n:=⟨⟨k,hp⟩,hn⟩
 refine⟨hb,by rw[hs];exact g.hB,g.defers,g.size,g.aZ,fun q k' hq=> ?_,fun r k' hr=> ?_,fun x y m hx hy=>g.apart x y m (cv x m hx) (cv y m hy)⟩
 ·have:(dH none σ.aO p (some ⟨cells,ty,kd⟩)).getD q none=some k':=hq
  rw[je]at this
  by_cases h:q=p
  ·rw[if_pos h]at this
   cases this
   exact⟨n,cs,h▸hn,(g.sI Dk).1,an1,hk⟩
  ·rw[if_neg h]at this
   obtain⟨m,R0,e,h1,h2,h3⟩:=g.aO q k' this
   refine⟨m,R0,e,h1,?_,h3⟩
   have:m≠n:=fun e'=>by
    have:=g.apart (false,q) (false,p) n ⟨⟨k',this⟩,e'▸e⟩ Dk
    simp at this;exact h this
   rw[hold m this];exact h2
 ·obtain⟨v,e,q⟩:=g.rows r k' hr
  refine⟨v,e,q.mono (fun q o u hq hu=> ?_) (fun ho q hq _=> ?_) rfl (fun _ _ _ h=>h)⟩
  ·have:q≠n:=fun e'=>hq.1 (false,p) (e'▸Dk)
   exact⟨⟨fun x hx=>hq.1 x (cv x q hx),hq.2⟩,by rw[World.cell?_of_block (hold q this)];exact hu⟩
  ·refine hold q fun e'=> ?_
   have:=g.apart (true,r) (false,p) n ⟨⟨k',hr,ho⟩,v,e,e'▸hq⟩ Dk
   cases this
theorem tU (l:List (Option Rw)) (r:Nat) (k:Option Rw) (q:Nat):(dH none l r k).getD q none=if q=r then k else l.getD q none:=je none l r k q
theorem aX.newRow (g:aX P B w0 σ c a w){w':World} (hb:rM B.n B.X w0 w') (hs:w.heap.size<=w'.heap.size) (hk:∀n,n<w.heap.size->w'.heap[n]? =w.heap[n]?)
 {r:Nat} (hr:c.R r=none){k:Rw} (pK:k.hole=none){D:aP}{ad:Option Addr}{n cap:Nat} (hD:(k.cont.ev c.ρ).er= .l (mS D)) (hl:D.length=n) (hc:n<=cap) (hm:cap<=maxLen)
 (cv:k.own=true->cap=0\/(w'.ownsRow 0 k.el k.ks.length (.slice ad n cap) n (aE k.agg k.ks D)/\∀p,dG (.slice ad n cap)=some p->w.heap.size<=p))
 (ur:k.own=false->∀j u,(aE k.agg k.ks D)[j]? =some u->∃p o,ad=some ⟨p,o,none⟩/\w'.cell? ⟨p,o+j,none⟩=some u/\fg B σ c p)
 (hft:∀x∈D,lW P w (fg B σ c) k.agg k.ks x):
 aX P B w0 {σ with rows:=dH none σ.rows r (some k)} {c with R:=fun i=>if i=r then some (.slice ad n cap)else c.R i} a w':=by
 have hle:c.le {c with R:=fun i=>if i=r then some (.slice ad n cap)else c.R i}:=⟨rfl,rfl,fun _ _ e=>e,fun i v e=>by
  by_cases h:i=r
  ·subst h;rw[hr]at e;cases e
  ·simp[h,e]⟩
 have pc:∀q k',St.row {σ with rows:=dH none σ.rows r (some k)} q=some k'->(q=r/\k'=k)\/(q≠r/\σ.row q=some k'):=fun q k' h=>by
  have:(dH none σ.rows r (some k)).getD q none=some k':=h
  rw[tU]at this
  by_cases h2:q=r
  ·rw[if_pos h2]at this;cases this;exact .inl ⟨h2,rfl⟩
  ·rw[if_neg h2]at this;exact .inr ⟨h2,this⟩
 have jq:∀x p,St.owns {σ with rows:=dH none σ.rows r (some k)} {c with R:=fun i=>if i=r then some (.slice ad n cap)else c.R i} x p->
  (x=(true,r)/\w.heap.size<=p/\k.own=true)\/σ.owns c x p:=by
  rintro⟨t,q⟩ p h
  cases t
  ·exact .inr h
  ·obtain⟨⟨k',mi,ho⟩,v,hv,hp⟩:=h
   rcases pc q k' mi with⟨rfl,rfl⟩|⟨hq,mi⟩
   ·simp at hv;subst hv
    rcases cv ho with rfl|⟨_,h⟩
    ·cases ad<;>simp[dG]at hp
    ·exact .inl ⟨rfl,h p hp,ho⟩
   ·simp[hq]at hv;exact .inr ⟨⟨k',mi,ho⟩,v,hv,hp⟩
 have dI:∀p o u,fg B σ c p->w.cell? ⟨p,o,none⟩=some u->fg B {σ with rows:=dH none σ.rows r (some k)} {c with R:=fun i=>if i=r then some (.slice ad n cap)else c.R i} p/\w'.cell? ⟨p,o,none⟩=some u:=fun p o u hp hu=>by
  have fU:=World.block_lt_of_cell? w ⟨p,o,none⟩ hu
  refine⟨⟨fun x hx=> ?_,hp.2⟩,by rw[World.cell?_of_block (hk p fU)];exact hu⟩
  rcases jq x p hx with⟨_,h,_⟩|hx
  ·simp at fU;omega
  ·exact hp.1 x hx
 refine⟨hb,Nat.le_trans g.hB hs,g.defers,g.size,fun t=>SV.v7 hle (g.aZ t),fun p k' hp=> ?_,fun q k' hq=> ?_,fun x y p hx hy=> ?_⟩
 ·obtain⟨n',cs,e,h1,h2,h3⟩:=g.aO p k' hp
  exact⟨n',cs,e,h1,by rw[hk n' (Array.getElem?_eq_some_iff.1 h2).1];exact h2,yG hle h3⟩
 ·rcases pc q k' hq with⟨rfl,rfl⟩|⟨hq,mi⟩
  ·refine⟨_,by simp,D,ad,n,cap,rfl,hD,hl,hc,hm,fun ho=>(cv ho).imp id fun h=>⟨.of pK h.1,fun p hp=> .inl (Nat.le_trans g.hB (h.2 p hp))⟩,fun ho j u hj=> ?_,fun x hx i k hk=>(hft x hx i k hk).mono dI⟩
   obtain⟨p,o,e1,e2,e3⟩:=ur ho j u hj
   refine⟨p,o,e1,e2,fun x hx=> ?_,e3.2⟩
   rcases jq x p hx with⟨_,_,h⟩|hx
   ·rw[ho]at h;cases h
   ·exact e3.1 x hx
  ·obtain⟨v,e,q'⟩:=g.rows q k' mi
   exact⟨v,by simp[hq,e],q'.mono dI (fun _ p _ fU=>hk p fU) rfl (fun _ _ _ h=>h.le hle)⟩
 ·rcases jq x p hx with⟨ex,e1,_⟩|hx<;>rcases jq y p hy with⟨ey,e2,_⟩|hy
  ·rw[ex,ey]
  ·have:=(g.sI hy).2;omega
  ·have:=(g.sI hx).2;omega
  ·exact g.apart x y p hx hy
theorem aX.freeze (g:aX P B w0 σ c a w){r:Nat}{k:Rw} (hr:σ.row r=some k) (pK:k.hole=none):aX P B w0 {σ with rows:=dH none σ.rows r (some {k with own:=false})} c a w:=by
 have pc:∀q k',St.row {σ with rows:=dH none σ.rows r (some {k with own:=false})} q=some k'->(q=r/\k'={k with own:=false})\/(q≠r/\σ.row q=some k'):=fun q k' h=>by
  have:(dH none σ.rows r (some {k with own:=false})).getD q none=some k':=h
  rw[tU]at this
  by_cases h2:q=r
  ·rw[if_pos h2]at this;cases this;exact .inl ⟨h2,rfl⟩
  ·rw[if_neg h2]at this;exact .inr ⟨h2,this⟩
 have jq:∀x p,St.owns {σ with rows:=dH none σ.rows r (some {k with own:=false})} c x p->x≠(true,r)/\σ.owns c x p:=by
  rintro⟨t,q⟩ p h
  cases t
  ·exact⟨by simp,h⟩
  ·obtain⟨⟨k',mi,ho⟩,v,hv,hp⟩:=h
   rcases pc q k' mi with⟨rfl,rfl⟩|⟨hq,mi⟩
   ·cases ho
   ·exact⟨by simp[hq],⟨k',mi,ho⟩,v,hv,hp⟩
 have dI:∀p o u,fg B σ c p->w.cell? ⟨p,o,none⟩=some u->fg B {σ with rows:=dH none σ.rows r (some {k with own:=false})} c p/\w.cell? ⟨p,o,none⟩=some u:=fun p o u hp hu=>⟨⟨fun x hx=>hp.1 x (jq x p hx).2,hp.2⟩,hu⟩
 refine⟨g.below,g.hB,g.defers,g.size,g.aZ,g.aO,fun q k' hq=> ?_,fun x y p hx hy=>g.apart x y p (jq x p hx).2 (jq y p hy).2⟩
 rcases pc q k' hq with⟨rfl,rfl⟩|⟨hq,mi⟩
 ·obtain⟨v,e,D,a',n,cap,rfl,h0,h1,h2,h3,h4,h5,h6⟩:=g.rows q k hr
  refine⟨_,e,D,a',n,cap,rfl,h0,h1,h2,h3,(fun h=>by cases h),fun _ j u hj=> ?_,fun x hx i k hk=>(h6 x hx i k hk).mono dI⟩
  cases ho:k.own
  ·obtain⟨p,o,e1,e2,e3⟩:=h5 ho j u hj
   exact⟨p,o,e1,e2,fun x hx=>e3.1 x (jq x p hx).2,e3.2⟩
  ·have aen:n=0->False:=fun hn=>by
    subst hn
    simp only at hj
    rw[eq_nil_of_length_eq_zero h1]at hj;simp[aE]at hj
   rcases h4 ho with hz|⟨hw,hbp⟩
   ·exact(aen (by omega)).elim
   ·have hw:=hw.plain pK
    rcases hw.2 with⟨hv,hn⟩|⟨p,uI,cur,hv,_,_⟩
    ·exact(aen hn).elim
    ·cases hv
     have:=hw.cells (g:=p) rfl j u hj
     have hob:dG (.slice (some ⟨p,0,none⟩) n cap)=some p:=by
      cases cap with
      |zero=>exact(aen (by omega)).elim
      |succ m=>rfl
     refine⟨p,0,rfl,by simpa[Addr.add]using(by
      have h0:(⟨p,0,none⟩:Addr).add j=⟨p,0+j,none⟩:=by unfold Addr.add;split<;>simp_all
      rw[h0]at this;simpa using this),fun x hx=> ?_,(hbp p hob).elim .inl fun h=> .inr (.inr h)⟩
     have:=jq x p hx
     exact this.1 (g.apart x (true,q) p this.2 ⟨⟨k,hr,ho⟩,_,e,hob⟩)
 ·obtain⟨v,e,q'⟩:=g.rows q k' mi
  exact⟨v,e,q'.mono dI (fun _ _ _ _=>rfl) rfl (fun _ _ _ h=>h)⟩
theorem aX.ahb (g:aX P B w0 σ c a w){r:Nat}{k:Rw} (hr:σ.row r=some k) (ho:k.own=true){v:Value} (hv:c.R r=some v)
 {w':World} (hg:w.grownBy w' (dG v)){r':Nat}{k':Rw} (ho':k'.own=true){D:aP}{ad:Option Addr}{n cap:Nat} (hD:(k'.cont.ev c.ρ).er= .l (mS D)) (hl:D.length=n) (hc:n<=cap) (hm:cap<=maxLen)
 (Z6:cap=0\/N8 {c with R:=fun i=>if i=r' then some (.slice ad n cap)else c.R i} w' k' (.slice ad n cap) n (aE k'.agg k'.ks D))
 (qM:dG (.slice ad n cap)=dG v\/∀p,dG (.slice ad n cap)=some p->w.heap.size<=p)
 (VQ:c.R r'=none\/(r'=r/\v= .slice ad n cap)) (hft:∀x∈D,lW P w (fg B σ c) k'.agg k'.ks x):
 aX P B w0 {σ with rows:=dH none (dH none σ.rows r none) r' (some k')} {c with R:=fun i=>if i=r' then some (.slice ad n cap)else c.R i} a w':=by
 have hle:c.le {c with R:=fun i=>if i=r' then some (.slice ad n cap)else c.R i}:=⟨rfl,rfl,fun _ _ e=>e,fun i u e=>by
  by_cases h:i=r'
  ·subst h
   rcases VQ with h|⟨h1,h2⟩
   ·rw[h]at e;cases e
   ·subst h1;rw[hv]at e;cases e;simp[h2]
  ·simp[h,e]⟩
 have Dk:∀p,dG v=some p->σ.owns c (true,r) p:=fun p hp=>⟨⟨k,hr,ho⟩,v,hv,hp⟩
 have pc:∀q k2,St.row {σ with rows:=dH none (dH none σ.rows r none) r' (some k')} q=some k2->(q=r'/\k2=k')\/(q≠r'/\q≠r/\σ.row q=some k2):=fun q k2 h=>by
  have:(dH none (dH none σ.rows r none) r' (some k')).getD q none=some k2:=h
  rw[tU,tU]at this
  by_cases h2:q=r'
  ·rw[if_pos h2]at this;cases this;exact .inl ⟨h2,rfl⟩
  ·rw[if_neg h2]at this
   by_cases h3:q=r
   ·rw[if_pos h3]at this;cases this
   ·rw[if_neg h3]at this;exact .inr ⟨h2,h3,this⟩
 have jq:∀x p,St.owns {σ with rows:=dH none (dH none σ.rows r none) r' (some k')} {c with R:=fun i=>if i=r' then some (.slice ad n cap)else c.R i} x p->
  (x=(true,r')/\(dG v=some p\/w.heap.size<=p))\/(x≠(true,r)/\σ.owns c x p):=by
  rintro⟨t,q⟩ p h
  cases t
  ·exact .inr ⟨by simp,h⟩
  ·obtain⟨⟨k2,pJ,ho2⟩,u,hu,hp⟩:=h
   rcases pc q k2 pJ with⟨rfl,rfl⟩|⟨hq,hq2,pJ⟩
   ·simp at hu;subst hu
    refine .inl ⟨rfl,?_⟩
    rcases qM with h|h
    ·exact .inl (h▸hp)
    ·exact .inr (h p hp)
   ·simp[hq]at hu;exact .inr ⟨by simp[hq2],⟨k2,pJ,ho2⟩,u,hu,hp⟩
 have ah6:rM B.n B.X w0 w':=g.below.grown hg g.hB (fun p hp=>(g.sI (Dk p hp)).1)
 have dI:∀p o u,fg B σ c p->w.cell? ⟨p,o,none⟩=some u->fg B {σ with rows:=dH none (dH none σ.rows r none) r' (some k')} {c with R:=fun i=>if i=r' then some (.slice ad n cap)else c.R i} p/\w'.cell? ⟨p,o,none⟩=some u:=fun p o u hp hu=>by
  have fU:=World.block_lt_of_cell? w ⟨p,o,none⟩ hu
  refine⟨⟨fun x hx=> ?_,hp.2⟩,by rw[World.cell?_of_block (hg.block p fU (fun e'=>hp.1 _ (Dk p e'.symm)))];exact hu⟩
  rcases jq x p hx with⟨_,h|h⟩|⟨_,hx⟩
  ·exact hp.1 _ (Dk p h)
  ·simp at fU;omega
  ·exact hp.1 x hx
 refine⟨ah6,Nat.le_trans g.hB hg.size,g.defers,g.size,fun t=>SV.v7 hle (g.aZ t),fun p k2 hp=> ?_,fun q k2 hq=> ?_,fun x y p hx hy=> ?_⟩
 ·obtain⟨m,cs,e,h1,h2,h3⟩:=g.aO p k2 hp
  refine⟨m,cs,e,h1,?_,yG hle h3⟩
  rw[hg.block m (Array.getElem?_eq_some_iff.1 h2).1 (fun e'=>by
   have:=g.apart (false,p) (true,r) m ⟨⟨k2,hp⟩,e⟩ (Dk m e'.symm)
   cases this)]
  exact h2
 ·rcases pc q k2 hq with⟨rfl,rfl⟩|⟨hq,hq2,pJ⟩
  ·refine⟨_,by simp,D,ad,n,cap,rfl,hD,hl,hc,hm,fun _=>Z6.imp id fun h=>⟨h,fun p hp=> ?_⟩,(fun h=>by rw[ho']at h;cases h),fun x hx i k hk=>(hft x hx i k hk).mono dI⟩
   rcases qM with h2|h2
   ·exact(g.sI (Dk p (h2▸hp))).1
   ·exact .inl (Nat.le_trans g.hB (h2 p hp))
  ·obtain⟨u,e,q'⟩:=g.rows q k2 pJ
   refine⟨u,by simp[hq,e],q'.mono dI (fun ho2 p hp fU=>hg.block p fU fun e'=> ?_) rfl (fun _ _ _ h=>h.le hle)⟩
   have:=g.apart (true,q) (true,r) p ⟨⟨k2,pJ,ho2⟩,_,e,hp⟩ (Dk p e'.symm)
   simp at this;exact hq2 this
 ·rcases jq x p hx with⟨ex,e1⟩|⟨nx,hx⟩<;>rcases jq y p hy with⟨ey,e2⟩|⟨ny,hy⟩
  ·rw[ex,ey]
  ·rcases e1 with h|h
   ·exact absurd (g.apart _ _ p hy (Dk p h)) ny
   ·have:=(g.sI hy).2;omega
  ·rcases e2 with h|h
   ·exact absurd (g.apart _ _ p hx (Dk p h)) nx
   ·have:=(g.sI hx).2;omega
  ·exact g.apart x y p hx hy
theorem aX.K8 (g:aX P B w0 σ c a w){r:Nat}{k:Rw} (hr:σ.row r=some k) (ho:k.own=true){v:Value} (hv:c.R r=some v)
 {w':World} (hg:w.grownBy w' (dG v)){r':Nat}{k':Rw} (ho':k'.own=true) (pK:k'.hole=none){D:aP}{ad:Option Addr}{n cap:Nat} (hD:(k'.cont.ev c.ρ).er= .l (mS D)) (hl:D.length=n) (hc:n<=cap) (hm:cap<=maxLen)
 (Z6:cap=0\/w'.ownsRow 0 k'.el k'.ks.length (.slice ad n cap) n (aE k'.agg k'.ks D))
 (qM:dG (.slice ad n cap)=dG v\/∀p,dG (.slice ad n cap)=some p->w.heap.size<=p)
 (VQ:c.R r'=none\/(r'=r/\v= .slice ad n cap)) (hft:∀x∈D,lW P w (fg B σ c) k'.agg k'.ks x):
 aX P B w0 {σ with rows:=dH none (dH none σ.rows r none) r' (some k')} {c with R:=fun i=>if i=r' then some (.slice ad n cap)else c.R i} a w':=
 g.ahb hr ho hv hg ho' hD hl hc hm (Z6.imp id fun h=> .of pK h) qM VQ hft
end
open Go.RowKit
theorem ahI (l:List UInt8):(l.map UInt8.toNat).map UInt8.ofNat=l:=by
 induction l with
 |nil=>rfl
 |cons x xs ih=>simp only[map_cons,ih];simp
theorem afk {c:Ct}:∀{v:Value}{x:At},aq1 v=some x->x.rel c v:=by
 intro v x h
 unfold aq1 at h
 split at h<;>cases h
 ·rfl
 ·rfl
 ·simp only[At.rel,Ex.ev,Sc.str,ahI]
 ·rfl
 ·exact⟨none,rfl⟩
 ·rfl
 ·rfl
theorem acr {c:Ct}:∀{vs:dm}{xs:qE},acq vs=some xs->fp c xs vs
 |[],xs,h=>by simp[acq]at h;subst h;trivial
 |v::vs,xs,h=>by
  unfold acq at h
  split at h
  ·rename_i x xs' h1 h2
   cases h
   exact⟨afk h1,acr h2⟩
  ·cases h
theorem Up {c:Ct}{v:Value}{s:SV} (h:ai4 v=some s):s.rel c v:=by
 unfold ai4 at h
 split at h
 ·rename_i cs
  cases h1:acq cs.toList with
  |none=>simp[h1]at h
  |some xs=>simp[h1]at h;subst h;exact⟨cs.toList,by simp,acr h1⟩
 ·rename_i vs
  split at h
  ·rename_i h1
   cases h
   exact⟨[],by rw[<-h1],trivial⟩
  ·cases h
 ·simp only[Option.map_eq_some_iff]at h
  obtain⟨x,h1,rfl⟩:=h
  exact afk h1
structure MV (σ:St) (c:Ct) (a:Act) (rd:Rd):Prop where
 ev:∀x,(rd.ev x).rel c (a.eval x)
 blk:∀p k,rd.blk p=some k->σ.blk p=some k
 row:∀p k,rd.row p=some k->σ.row p=some k
theorem ajA {c:Ct}{a:Act}{slot:Nat->SV} (h:∀t,(slot t).rel c (a.tmps.getD t undef)) (x:Operand):(evS slot x).rel c (a.eval x):=by
 cases x with
 |tmp t=>exact h t
 |const v=>
  simp only[evS]
  cases hv:ai4 v with
  |none=>trivial
  |some s=>exact Up hv
 |global _=>trivial
 |func f=>exact⟨[],rfl,rfl⟩
theorem Ui {P:Program}{B:mC}{w0:World}{σ:St}{c:Ct}{a:Act}{w:World} (g:aX P B w0 σ c a w) (ts ds ls:ahx) (nv nb nr:Nat):MV σ c a (Yb σ.slot σ.blk σ.row ts ds ls nv nb nr):=by
 refine⟨fun x=>ajA (fun t=> ?_) x,fun p k h=> ?_,fun p k h=> ?_⟩
 ·cases oQ ts t
  ·trivial
  ·exact g.aZ t
 ·simp only[Yb]at h
  cases hh:oQ (ds.flatMap fun t=>(σ.slot t).JV) p<;>rw[hh]at h<;>simp at h
  exact h
 ·simp only[Yb]at h
  cases hh:oQ (sj σ.slot σ.blk ds ls) p<;>rw[hh]at h<;>simp at h
  exact h
def eQ (P:Program) (B:mC) (w0:World) (σ:St) (c:Ct) (a:Act) (w:World) (o:Oper) (r:il):Prop:=
 ∃nx w' v c',(execOp a.eval o).run P w= .ok nx w'/\(nx= .value v\/(nx= .skip/\v=undef))/\c.le c'/\(∀i,i∉r.nb->c'.β i=c.β i)/\(∀i,i∉r.nr->c'.R i=c.R i)/\
  r.val.rel c' v/\aX P B w0 {σ with aO:=di σ.aO r.aO,rows:=aH σ.rows r.rows} c' a w'
section
variable {P:Program}{B:mC}{w0:World}{σ:St}{c:Ct}{a:Act}{w:World}{o:Oper}{rd:Rd}
theorem eQ.quiet (g:aX P B w0 σ c a w){sv:SV}{v:Value}{lN:mA} (hr:(execOp a.eval o).run P w= .ok (.value v) w) (hv:sv.rel c v):
 eQ P B w0 σ c a w o ⟨lN,none,sv,[],[],[],[]⟩:=⟨_,w,v,c,hr,.inl rfl,.refl c,fun _ _=>rfl,fun _ _=>rfl,hv,g⟩
theorem sU {ty:TypeId}{b:Bool} (h:EK P ty=some b) (w:World):(isAgg ty).run P w= .ok b w:=by
 unfold EK at h
 unfold isAgg
 split at h
 ·rename_i h1;cases h;simp[run_underlying h1]
 ·rename_i h1;cases h;simp[run_underlying h1]
 ·rename_i d h1 h2 h3
  cases h
  rw[Sem.run_bind,run_underlying h3 w]
  simp only[Result.andThen_ok]
  rfl
 ·cases h
theorem dQ {ty:TypeId}{n:Nat} (h:ni P ty=some n) (w:World):(sizeOf ty).run P w= .ok n w:=by
 unfold ni at h
 cases hi:P.info? ty with
 |none=>simp[hi]at h
 |some i=>simp[hi]at h;simp[sizeOf,typeInfo,hi,h]
theorem OX:∀{xs:qE}{vs:dm}{off n:Nat}{ys:qE},yQ xs off n=some ys->fp c xs vs->fp c ys ((vs.drop off).take n)/\((vs.drop off).take n).length=n
 |xs,vs,0,0,ys,h,_=>by simp[yQ]at h;subst h;simp[fp]
 |[],vs,0,n+1,ys,h,_=>by simp[yQ]at h
 |[],vs,o+1,n,ys,h,_=>by simp[yQ]at h
 |x::xs,[],_,_,_,_,hr=>hr.elim
 |x::xs,v::vs,0,n+1,ys,h,hr=>by
  simp only[yQ]at h
  cases h1:yQ xs 0 n with
  |none=>simp[h1]at h
  |some zs=>
   simp[h1]at h;subst h
   have:=OX h1 hr.2
   simp only[drop_zero]at this
   exact⟨⟨hr.1,this.1⟩,by simp[this.2]⟩
 |x::xs,v::vs,o+1,n,ys,h,hr=>by
  simp only[yQ]at h
  simpa using OX h hr.2
theorem Ua {ty:TypeId}{cs:qE}{off:Nat}{sv:SV} (h:N2 P ty cs off=some sv){vs:dm} (hr:fp c cs vs) (w:World):
 ∃v,(part ty vs.toArray off).run P w= .ok v w/\sv.rel c v:=by
 unfold N2 at h
 split at h
 ·rename_i n h1 h2
  cases h3:yQ cs off n with
  |none=>simp[h3]at h
  |some ys=>
   simp[h3]at h;subst h
   obtain⟨q1,q2⟩:=OX h3 hr
   refine⟨.agg ((vs.drop off).take n).toArray,?_,_,rfl,q1⟩
   simp[part,sU h1,dQ h2]
 ·rename_i h1
  cases h3:cs[off]? with
  |none=>simp[h3]at h
  |some x=>
   simp[h3]at h;subst h
   obtain⟨v,q1,q2⟩:=N6 hr h3
   exact⟨v,by simp[part,sU h1,q1],q2⟩
 ·cases h
theorem Xd {ty:TypeId}{cs:qE}{off:Nat}{sv:SV} (h:N2 P ty cs off=some sv){vs:dm} (hr:fp c cs vs){n base:Nat} (hc:∀j v,vs[j]? =some v->w.cell? ⟨n,base+j,none⟩=some v):
 ∃v,(loadVar ty ⟨n,base+off,none⟩).run P w= .ok v w/\sv.rel c v:=by
 unfold N2 at h
 split at h
 ·rename_i m h1 h2
  cases h3:yQ cs off m with
  |none=>simp[h3]at h
  |some ys=>
   simp[h3]at h;subst h
   obtain⟨q1,q2⟩:=OX h3 hr
   refine⟨.agg ((vs.drop off).take m).toArray,?_,_,rfl,q1⟩
   have hl:(loadCells ⟨n,base+off,none⟩ m).run P w= .ok ((vs.drop off).take m).toArray w:=by
    have:=run_loadCells_list (P:=P) w ⟨n,base+off,none⟩ ((vs.drop off).take m) (fun j v hv=>by
     rw[getElem?_take]at hv
     split at hv
     ·rw[getElem?_drop]at hv
      have h4:=hc _ _ hv
      have h5:(⟨n,base+off,none⟩:Addr).add j=⟨n,base+(off+j),none⟩:=by unfold Addr.add;split<;>simp_all<;>omega
      rw[h5];exact h4
     ·cases hv)
    rw[q2]at this
    exact this
   simp[loadVar,sU h1,dQ h2,hl]
 ·rename_i h1
  cases h3:cs[off]? with
  |none=>simp[h3]at h
  |some x=>
   simp[h3]at h;subst h
   obtain⟨v,q1,q2⟩:=N6 hr h3
   refine⟨v,?_,q2⟩
   have:=hc off v q1
   simp[loadVar,sU h1,load,Sem.run,this]
 ·cases h
theorem Zj {k:CK}{d:Sc}{e:Ex} (h:d.er=(e.ev c.ρ).er):(au7 k e).rel c (k.val d):=by
 cases k with
 |int k=>show _=_;simp only[CK.val];rw[<-adB,h,adB]
 |bool=>show _=_;simp only[CK.val];rw[<-Yr,h,Yr]
 |str=>show _=_;simp only[CK.val];rw[<-adC,h,adC]
 |sl el=>trivial
theorem aqr {k:CK}{x y:Sc} (hk:∀el,k≠.sl el) (h:x.er=y.er):k.val x=k.val y:=by
 cases k with
 |int k=>simp only[CK.val];rw[<-adB,h,adB]
 |bool=>simp only[CK.val];rw[<-Yr,h,Yr]
 |str=>simp only[CK.val];rw[<-adC,h,adC]
 |sl el=>exact absurd rfl (hk el)
theorem GH (x:Sc):∀(ks:tE) (n:Nat),(qH x ks n).length=ks.length
 |[],_=>rfl
 |k::ks,n=>by simp[qH,GH x ks]
def AJ (agg:Bool) (ks:tE):Prop:=agg=true\/ks.length=1
theorem eC {agg:Bool}{ks:tE} (h:AJ agg ks) (x:Sc):(cY agg ks x).length=ks.length:=by
 unfold cY
 cases agg
 ·match ks,h with
  |[k],_=>rfl
  |[],h=>rcases h with h|h<;>simp at h
  |_::_::_,h=>rcases h with h|h<;>simp at h
 ·exact GH x ks 0
theorem flat_get {agg:Bool}{ks:tE} (h:AJ agg ks):∀(l:aP) (i j:Nat) (u:Value),i<l.length->(cY agg ks (l.getD i (.i 0)))[j]? =some u->(aE agg ks l)[i*ks.length+j]? =some u
 |[],i,_,_,hi,_=>by simp at hi
 |x::l,0,j,u,_,hu=>by
  simp only[getD_cons_zero]at hu
  have hj:j<(cY agg ks x).length:=(List.getElem?_eq_some_iff.1 hu).1
  simp only[aE,flatMap_cons,Nat.zero_mul,Nat.zero_add]
  rw[getElem?_append_left hj];exact hu
 |x::l,i+1,j,u,hi,hu=>by
  have ih:=flat_get h l i j u (by simpa using hi) (by simpa using hu)
  simp only[aE,flatMap_cons]
  rw[getElem?_append_right (by rw[eC h];rw[Nat.add_mul];omega),eC h]
  rw[show(i+1)*ks.length+j-ks.length=i*ks.length+j by rw[Nat.add_mul];omega]
  exact ih
theorem bS {agg:Bool}{ks:tE} (h:AJ agg ks) (l:aP):(aE agg ks l).length=l.length*ks.length:=by
 induction l with
 |nil=>simp[aE]
 |cons x l ih=>simp only[aE,flatMap_cons,length_append,eC h,length_cons]at ih⊢;rw[ih,Nat.add_mul];omega
theorem oS (agg:Bool) (ks:tE) (l m:aP):aE agg ks (l++m)=aE agg ks l++aE agg ks m:=by simp[aE]
theorem val_one (k:CK) (x:Sc):(k.val x).oneCell'=true:=by
 cases k with
 |sl el=>simp only[CK.val];cases x<;>rfl
 |_=>rfl
theorem Zt (x:Sc):∀(ks:tE) (n:Nat),∀u∈qH x ks n,u.oneCell'=true
 |[],_,u,h=>by simp[qH]at h
 |k::ks,n,u,h=>by
  simp only[qH,mem_cons]at h
  rcases h with rfl|h
  ·exact val_one k _
  ·exact Zt x ks (n+1) u h
theorem afU (agg:Bool) (ks:tE) (l:aP):∀u∈aE agg ks l,u.oneCell'=true:=by
 intro u h
 simp only[aE,mem_flatMap]at h
 obtain⟨x,_,h⟩:=h
 unfold cY at h
 split at h
 ·exact Zt x _ 0 u h
 ·rename_i k;simp at h;subst h;exact val_one k _
 ·simp at h
end
open Go.RowKit
theorem jp {agg:Bool}{ks:tE} (h:dC agg ks=true):AJ agg ks/\0<ks.length:=by
 unfold dC at h
 split at h
 ·cases h
 ·exact⟨.inr rfl,by simp⟩
 ·rename_i h1 h2
  refine⟨.inl h,?_⟩
  cases ks with
  |nil=>exact absurd rfl h1
  |cons=>simp
section
variable {P:Program}{B:mC}{w0:World}{σ:St}{c:Ct}{a:Act}{w:World}{o:Oper}{rd:Rd}
theorem Ux {z:Int} (h1: -9223372036854775808<=z) (h2:z<9223372036854775808):IntKind.i64.wrap z=z:=by
 exact IntWalk.i64_in z (by omega)
theorem aX.read (g:aX P B w0 σ c a w){r:Nat}{k:Rw} (hr:σ.row r=some k) (pK:k.hole=none):
 ∃D ad n cap,c.R r=some (.slice ad n cap)/\(k.cont.ev c.ρ).er= .l (mS D)/\D.length=n/\n<=cap/\cap<=maxLen/\(∀x∈D,lW P w (fg B σ c) k.agg k.ks x)/\
  ∀j u,(aE k.agg k.ks D)[j]? =some u->∃p o,ad=some ⟨p,o,none⟩/\w.cell? ⟨p,o+j,none⟩=some u/\(k.own=false->fg B σ c p):=by
 obtain⟨v,e,D,ad,n,cap,rfl,h0,h1,h2,h3,h4,h5,h6⟩:=g.rows r k hr
 refine⟨D,ad,n,cap,e,h0,h1,h2,h3,h6,fun j u hj=> ?_⟩
 cases ho:k.own
 ·obtain⟨p,o,e1,e2,e3⟩:=h5 ho j u hj
  exact⟨p,o,e1,e2,fun _=>e3⟩
 ·have aen:n=0->False:=fun hn=>by
   subst hn
   rw[eq_nil_of_length_eq_zero h1]at hj;simp[aE]at hj
  rcases h4 ho with hz|⟨hw,_⟩
  ·exact(aen (by omega)).elim
  ·have hw:=hw.plain pK
   rcases hw.2 with⟨hv,hn⟩|⟨p,uI,cur,hv,_,_⟩
   ·exact(aen hn).elim
   ·cases hv
    have:=hw.cells (g:=p) rfl j u hj
    have h0:(⟨p,0,none⟩:Addr).add j=⟨p,0+j,none⟩:=by unfold Addr.add;split<;>simp_all
    rw[h0]at this
    exact⟨p,0,rfl,this,fun h=>by cases h⟩
theorem ant {agg:Bool}{ks:tE} (h:AJ agg ks) (l:aP) (lo n:Nat) (j:Nat) (u:Value) (hu:(aE agg ks ((l.take (lo+n)).drop lo))[j]? =some u):(aE agg ks l)[lo*ks.length+j]? =some u:=by
 have e:l=l.take lo++((l.take (lo+n)).drop lo++l.drop (lo+n)):=by
  conv=>lhs;rw[<-take_append_drop (lo+n) l]
  have:l.take (lo+n)=l.take lo++(l.take (lo+n)).drop lo:=by
   conv=>lhs;rw[<-take_append_drop lo (l.take (lo+n))]
   rw[take_take,Nat.min_eq_left (by omega)]
  conv=>lhs;rw[this]
  simp
 by_cases hl:lo<=l.length
 ·rw[e,oS,oS,getElem?_append_right (by rw[bS h];simp[Nat.min_eq_left hl]),bS h]
  rw[show lo*ks.length+j-(l.take lo).length*ks.length=j by simp[Nat.min_eq_left hl]]
  have hj:=(List.getElem?_eq_some_iff.1 hu).1
  rw[getElem?_append_left hj];exact hu
 ·rw[drop_eq_nil_of_le (by simp;omega)]at hu;simp[aE]at hu
theorem pn (g:aX P B w0 σ c a w){row:tB} (pc:∀p k,row p=some k->σ.row p=some k){sv:SV}{src:Option (Nat×Rw)}{lo len:Ex} (h:cy row sv=some (src,lo,len)){v:Value} (hv:sv.rel c v):
 ∃ad n cap,v= .slice ad n cap/\(len.ev c.ρ).int=n/\0<=(lo.ev c.ρ).int/\n<=cap/\cap<=maxLen/\((vU sv src lo len).ev c.ρ).list.length=n/\
  match src with
  |none=>n=0/\cap=0/\sv= .at .Mr
  |some (r,k)=>row r=some k/\σ.row r=some k/\k.hole=none/\AJ k.agg k.ks/\0<k.ks.length/\(sv= .at (.vec r)\/∃es lo len,sv= .at (.sl r es lo len))/\(lo.ev c.ρ).int+n<=(k.cont.ev c.ρ).list.length/\
    ((vU sv src lo len).ev c.ρ).list=(((k.cont.ev c.ρ).list.take ((lo.ev c.ρ).int.toNat+n)).drop (lo.ev c.ρ).int.toNat)/\
    (sv= .at (.vec r)->lo= .i 0/\c.R r=some v)/\
    (0<n->∃p o m uI,c.R r=some (.slice (some ⟨p,o,none⟩) m uI)/\m=(k.cont.ev c.ρ).list.length/\ad=some ⟨p,o+(lo.ev c.ρ).int.toNat*k.ks.length,none⟩)/\
    ∃D,((vU sv src lo len).ev c.ρ).er= .l (mS D)/\(∀x∈D,lW P w (fg B σ c) k.agg k.ks x)/\
     ∀j u,(aE k.agg k.ks D)[j]? =some u->∃p o,ad=some ⟨p,o,none⟩/\w.cell? ⟨p,o+j,none⟩=some u/\(k.own=false->fg B σ c p):=by
 rcases sv with(x|cs)|xs|_
 case c.g=>simp[cy]at h
 case t=>simp[cy]at h
 case nx=>simp[cy]at h
 cases x<;>try(simp[cy]at h;done)
 case vec r=>
  cases hk:row r with
  |none=>simp[cy,hk]at h
  |some k=>
   by_cases hf:dC k.agg k.ks=true/\k.plain=true
   ·simp[cy,hk,hf]at h
    obtain⟨rfl,rfl,rfl⟩:=h
    obtain⟨hf,pK⟩:=hf
    have pK:=gr pK
    obtain⟨dI,jW⟩:=jp hf
    have pJ:=pc _ _ hk
    obtain⟨D,ad,n,cap,e,h0,h1,h2,h3,h6,h4⟩:=g.read pJ pK
    have W6:=h1
    have h1:(k.cont.ev c.ρ).list.length=n:=by rw[<-o9 (iI h0)];exact W6
    have e2:c.R r=some v:=hv.1
    rw[e]at e2;cases e2
    have hc:(vU (.c (.a (.vec r))) (some (r,k)) (.i 0) (CB .len k.cont))=k.cont:=rfl
    refine⟨ad,n,cap,rfl,by rw[kR];simp[U1.ev,Sc.int,h1],by simp[Ex.ev,Sc.int],h2,h3,by rw[hc];exact h1,hk,pJ,pK,dI,jW,.inl rfl,by simp[Ex.ev,Sc.int,h1],?_,fun _=>⟨rfl,e⟩,?_,D,by rw[hc];exact h0,h6,h4⟩
    ·rw[hc];simp[Ex.ev,Sc.int,<-h1]
    ·intro hn
     have rP:0<(aE k.agg k.ks D).length:=by rw[bS dI,W6];exact Nat.mul_pos hn jW
     obtain⟨p,o,e1,_⟩:=h4 0 _ (getElem?_eq_getElem rP)
     exact⟨p,o,n,cap,by rw[e,e1],h1.symm,by simp[e1,Ex.ev,Sc.int]⟩
   ·simp only[cy,hk,Bool.and_eq_true]at h;rw[if_neg hf]at h;cases h
 case sl r es lo' aoI=>
  cases hk:row r with
  |none=>simp[cy,hk]at h
  |some k=>
   by_cases hf:es=k.ks.length/\dC k.agg k.ks=true/\k.plain=true
   ·simp[cy,hk,hf]at h
    obtain⟨rfl,hlo,hlen⟩:=h
    obtain rfl:lo=lo':=hlo.symm
    obtain rfl:len=aoI:=hlen.symm
    obtain⟨rfl,hf,pK⟩:=hf
    have pK:=gr pK
    obtain⟨dI,jW⟩:=jp hf
    have pJ:=pc _ _ hk
    obtain⟨D,ad,n,cap,e,h0,h1,h2,h3,h6,h4⟩:=g.read pJ pK
    have W6:=h1
    have h1:(k.cont.ev c.ρ).list.length=n:=by rw[<-o9 (iI h0)];exact W6
    obtain⟨a1,n1,ayh,a',uI,q1,rfl,q2,q3,q4,q5,q6,q7⟩:=hv
    rw[e]at q1;cases q1
    have arz:IntKind.i64.wrap ((lo.ev c.ρ).int+(len.ev c.ρ).int)=(lo.ev c.ρ).int+(len.ev c.ρ).int:=Ux (by omega) (by simp only[maxLen]at h3;omega)
    have hL:((vU (.c (.a (.sl r k.ks.length lo len))) (some (r,k)) lo len).ev c.ρ).list=(((k.cont.ev c.ρ).list.take ((lo.ev c.ρ).int.toNat+(len.ev c.ρ).int.toNat)).drop (lo.ev c.ρ).int.toNat):=by
     simp only[vU,Hs,bP,U3.ev,U2.ev,Sc.VY,Sc.acL]
     rw[arz,toNat_add q2 q3]
    refine⟨a',(len.ev c.ρ).int.toNat,uI,rfl,by omega,q2,by omega,q6,?_,hk,pJ,pK,dI,jW,.inr ⟨_,_,_,rfl⟩,by omega,hL,(fun h=>by cases h),?_,(D.take ((lo.ev c.ρ).int.toNat+(len.ev c.ρ).int.toNat)).drop (lo.ev c.ρ).int.toNat,?_,fun x hx=>h6 x (mem_of_mem_take (mem_of_mem_drop hx)),?_⟩
    ·rw[hL];simp;omega
    ·intro hn
     obtain⟨p,o,e1,e2⟩:=q7 (by omega)
     exact⟨p,o,n,cap,by rw[e,e1],h1.symm,e2⟩
    ·have hS:(vU (.c (.a (.sl r k.ks.length lo len))) (some (r,k)) lo len).ev c.ρ= .l (((vU (.c (.a (.sl r k.ks.length lo len))) (some (r,k)) lo len).ev c.ρ).list):=rfl
     rw[hS,hL,sk,S4,S5,<-iI h0,S4,S5]
    ·intro j u hu
     have hu2:=ant dI _ _ _ _ _ hu
     obtain⟨p,o,e1,e2,e3⟩:=h4 _ _ hu2
     have hn:0<(len.ev c.ρ).int:=by
      rcases Int.lt_or_le 0 (len.ev c.ρ).int with h|h
      ·exact h
      ·have:(len.ev c.ρ).int.toNat=0:=by omega
       rw[this,Nat.add_zero,drop_eq_nil_of_le (by rw[length_take];omega)]at hu
       simp[aE]at hu
     obtain⟨p',o',f1,f2⟩:=q7 hn
     rw[e1]at f1;cases f1
     exact⟨p,_,f2,by rw[Nat.add_assoc];exact e2,e3⟩
   ·simp only[cy,hk]at h;rw[if_neg hf]at h;cases h
 case Mr=>
  simp[cy]at h
  obtain⟨rfl,rfl,rfl⟩:=h
  obtain⟨ad,rfl⟩:=hv
  exact⟨ad,0,0,rfl,rfl,by simp[Ex.ev,Sc.int],Nat.le_refl _,by simp[maxLen],rfl,rfl,rfl,rfl⟩
end
open Go.RowKit
def DC (P:Program) (pl:uE):Prop:=∀t,oQ pl t=true->P.stoodInHeld t=false/\P.eqGuardType P.depth t=false
section
variable {P:Program}{c:Ct}{w:World}{pl:uE}
theorem acZ {sv:SV}{x:SC} (h:sv.sc=some x){v:Value} (hv:sv.rel c v):x.rel c v:=by
 cases sv with
 |c y=>simp[SV.sc]at h;subst h;exact hv
 |t _=>simp[SV.sc]at h
 |nx _ _ _=>simp[SV.sc]at h
theorem afD (pK:DC P pl):∀(d D:Nat) (ty:TypeId) (x y:SC) (e:Ex) (vx vy:Value),d<=D->ana P pl d ty x y=some e->x.rel c vx->y.rel c vy->(Op.equalIn D ty vx vy).run P w= .ok (e.ev c.ρ).bool w:=by
 intro d
 induction d with
 |zero=>intro D ty x y e vx vy _ h;simp[ana]at h
 |succ d ih=>
  intro D ty x y e vx vy hD h hx hy
  obtain⟨D,rfl⟩:∃D',D=D'+1:=⟨D-1,by omega⟩
  unfold ana at h
  split at h
  ·rename_i k0 k p k' q hu
   split at h
   ·rename_i hk
    subst hk
    cases h
    have e1:vx= .int k (p.ev c.ρ).int:=hx
    have e2:vy= .int k (q.ev c.ρ).int:=hy
    subst e1 e2
    rw[run_equalIn_int w D ty k k0 _ _ hu,bP];rfl
   ·cases h
  ·rename_i p q hu
   cases h
   have e1:vx= .bool (p.ev c.ρ).bool:=hx
   have e2:vy= .bool (q.ev c.ρ).bool:=hy
   subst e1 e2
   rw[run_equalIn_bool' w D ty _ _ hu,bP];rfl
  ·rename_i p q hu
   cases h
   have e1:vx= .string (p.ev c.ρ).str:=hx
   have e2:vy= .string (q.ev c.ρ).str:=hy
   subst e1 e2
   rw[run_equalIn_string w D ty _ _ hu,bP];rfl
  ·rename_i fs xs ys hu
   split at h
   ·cases h
   ·rename_i hp
    obtain⟨us,rfl,TH⟩:=hx
    obtain⟨vs,rfl,hys⟩:=hy
    have hfs:P.fieldsOf ty=fs:=by simp[Program.fieldsOf,hu]
    rw[run_equalIn_struct w D ty us.toArray vs.toArray (by rw[hfs];exact hu) (pK ty (by simpa using hp)).1,hfs]
    generalize fs.toList=l at h
    clear hu hfs
    induction l generalizing e with
    |nil=>simp at h;subst h;rfl
    |cons f l ihl=>
     simp only[foldr_cons]at h
     split at h
     ·cases h
     ·rename_i aua
      split at h
      ·rename_i r p q h1 h2 h3
       split at h
       ·rename_i e2 h4
        cases h
        obtain⟨sp,hp1,hp2⟩:=Option.bind_eq_some_iff.1 h2
        obtain⟨sq,hq1,hq2⟩:=Option.bind_eq_some_iff.1 h3
        obtain⟨vp,rp,rp2⟩:=Ua hp1 TH w
        obtain⟨vq,rq,rq2⟩:=Ua hq1 hys w
        have:=ih D f.type p q e2 vp vq (by omega) h4 (acZ hp2 rp2) (acZ hq2 rq2)
        have hl:=ihl r h1
        rw[bP]
        cases hb:(e2.ev c.ρ).bool
        ·simp[Op.eqFields,aua,rp,rq,this,hb,U2.ev]
        ·simp[Op.eqFields,aua,rp,rq,this,hb,U2.ev,hl]
       ·cases h
      ·cases h
  ·cases h
theorem ai6 (pK:DC P pl){op:BinOp}{ty:TypeId}{x y:SV}{r:il} (h:ai5 P pl op ty x y=some r){vx vy:Value} (hx:x.rel c vx) (hy:y.rel c vy) (hn:∀e∈r.lN,(e.ev c.ρ).bool=true) (ox oy:Operand):
 r=⟨r.lN,none,r.val,[],[],[],[]⟩/\∃v,(do eqGuard op ty ox oy vx vy;binOp op ty vx vy:Sem Value).run P w= .ok v w/\r.val.rel c v:=by
 unfold ai5 at h
 split at h
 ·rename_i k p k' q
  have e1:vx= .int k (p.ev c.ρ).int:=hx
  have e2:vy= .int k' (q.ev c.ρ).int:=hy
  subst e1 e2
  by_cases hk:k=k'
  ·subst hk
   cases op
   case quo=>
    simp only[↓reduceIte]at h;cases h;refine⟨rfl,?_⟩
    have h0:=hn _ (mem_singleton.2 rfl)
    rw[bP]at h0
    have h0:(q.ev c.ρ).int≠0:=by simpa[U2.ev,Ex.ev]using h0
    exact⟨_,by simp[eqGuard,binOp,Op.intDiv,h0];rfl,by show _=_;rw[bP];rfl⟩
   case rem=>
    simp only[↓reduceIte]at h;cases h;refine⟨rfl,?_⟩
    have h0:=hn _ (mem_singleton.2 rfl)
    rw[bP]at h0
    have h0:(q.ev c.ρ).int≠0:=by simpa[U2.ev,Ex.ev]using h0
    exact⟨_,by simp[eqGuard,binOp,Op.intDiv,h0];rfl,by show _=_;rw[bP];rfl⟩
   case shl=>
    simp only at h;cases h;refine⟨rfl,?_⟩
    have h0:=hn _ (mem_singleton.2 rfl)
    rw[bP]at h0
    have h0:¬(q.ev c.ρ).int<0:=by have:(0:Int)<=(q.ev c.ρ).int:=of_decide_eq_true h0;omega
    exact⟨_,by simp only[eqGuard,binOp,Op.shift,h0];rfl,by show _=_;rw[bP];rfl⟩
   case shr=>
    simp only at h;cases h;refine⟨rfl,?_⟩
    have h0:=hn _ (mem_singleton.2 rfl)
    rw[bP]at h0
    have h0:¬(q.ev c.ρ).int<0:=by have:(0:Int)<=(q.ev c.ρ).int:=of_decide_eq_true h0;omega
    exact⟨_,by simp only[eqGuard,binOp,Op.shift,h0];rfl,by show _=_;rw[bP];rfl⟩
   case andNot=>
    simp only[↓reduceIte]at h;cases h;refine⟨rfl,?_⟩
    exact⟨_,by simp[eqGuard,binOp,Op.intBits];rfl,by show _=_;rw[bP];simp[U2.ev]⟩
   all_goals
    simp only[↓reduceIte]at h
    first
     |(cases h;done)
     |(cases h;refine⟨rfl,?_⟩;exact⟨_,by simp[eqGuard,binOp,Op.intArith,Op.intBits,Op.intCmp];rfl,by show _=_;rw[bP];rfl⟩)
  ·cases op
   case shl=>
    simp only at h;cases h;refine⟨rfl,?_⟩
    have h0:=hn _ (mem_singleton.2 rfl)
    rw[bP]at h0
    have h0:¬(q.ev c.ρ).int<0:=by have:(0:Int)<=(q.ev c.ρ).int:=of_decide_eq_true h0;omega
    exact⟨_,by simp only[eqGuard,binOp,Op.shift,h0];rfl,by show _=_;rw[bP];rfl⟩
   case shr=>
    simp only at h;cases h;refine⟨rfl,?_⟩
    have h0:=hn _ (mem_singleton.2 rfl)
    rw[bP]at h0
    have h0:¬(q.ev c.ρ).int<0:=by have:(0:Int)<=(q.ev c.ρ).int:=of_decide_eq_true h0;omega
    exact⟨_,by simp only[eqGuard,binOp,Op.shift,h0];rfl,by show _=_;rw[bP];rfl⟩
   all_goals(simp only[hk,↓reduceIte]at h;cases h)
 ·rename_i p q
  have e1:vx= .string (p.ev c.ρ).str:=hx
  have e2:vy= .string (q.ev c.ρ).str:=hy
  subst e1 e2
  cases op
  case add=>
   simp only at h;cases h;refine⟨rfl,?_⟩
   have h0:=hn _ (mem_singleton.2 rfl)
   rw[bP]at h0
   have h0:¬(9223372036854775807:Int)<(((p.ev c.ρ).str.size:Int)+((q.ev c.ρ).str.size:Int)):=by
    have:(((p.ev c.ρ).str++(q.ev c.ρ).str).size:Int)<=9223372036854775807:=by simpa[U2.ev,U1.ev,Ex.ev,bP]using h0
    rw[ByteArray.size_append]at this
    omega
   have hm:IntKind.i64.max=9223372036854775807:=by decide
   exact⟨_,by simp[eqGuard,binOp,Op.stringOp,hm,h0];rfl,by show _=_;rw[bP];rfl⟩
  case eql=>simp only at h;cases h;exact⟨rfl,_,by simp[eqGuard,binOp,Op.stringOp];rfl,by show _=_;rw[bP];simp[U2.ev]⟩
  case neq=>simp only at h;cases h;exact⟨rfl,_,by simp[eqGuard,binOp,Op.stringOp];rfl,by show _=_;rw[kR,bP];simp[U2.ev,U1.ev]⟩
  all_goals(simp only at h;cases h)
 ·rename_i p q
  have e1:vx= .bool (p.ev c.ρ).bool:=hx
  have e2:vy= .bool (q.ev c.ρ).bool:=hy
  subst e1 e2
  split at h
  ·rename_i hu
   cases h
   exact⟨rfl,_,by simp[eqGuard,binOp,Op.equal,Op.maxDepth,run_equalIn_bool' w 9999 ty _ _ hu];rfl,by show _=_;rw[bP];rfl⟩
  ·rename_i hu
   cases h
   exact⟨rfl,_,by simp[eqGuard,binOp,Op.equal,Op.maxDepth,run_equalIn_bool' w 9999 ty _ _ hu];rfl,by show _=_;rw[kR,bP];rfl⟩
  ·cases h
 ·rename_i xs ys
  split at h
  ·cases h
  ·rename_i hp
   have hg:=(pK ty (by simpa using hp)).2
   split at h
   ·rename_i e he
    cases h
    have:=afD (w:=w) pK 4 10000 ty _ _ e vx vy (by omega) he hx hy
    obtain⟨us,rfl,_⟩:=hx
    obtain⟨vs,rfl,_⟩:=hy
    exact⟨rfl,.bool (e.ev c.ρ).bool,by simp[run_eqGuard_agg w .eql ty ox oy _ _ hg,run_eql_struct,this],rfl⟩
   ·rename_i e he
    cases h
    have:=afD (w:=w) pK 4 10000 ty _ _ e vx vy (by omega) he hx hy
    obtain⟨us,rfl,_⟩:=hx
    obtain⟨vs,rfl,_⟩:=hy
    exact⟨rfl,.bool !(e.ev c.ρ).bool,by simp[run_eqGuard_agg w .neq ty ox oy _ _ hg,run_neq_struct,this],by show _=_;rw[kR];rfl⟩
   ·cases h
 ·cases h
end
open Go.RowKit
section
variable {P:Program}{B:mC}{w0:World}{σ:St}{c:Ct}{a:Act}{w:World}{o:Oper}{rd:Rd}
theorem acN {x:At}{u:Value} (hk:x.known=true) (hr:x.rel c u):u.oneCell'=true:=by
 cases x<;>simp only[At.known,At.rel]at hk hr
 case top=>cases hk
 case int=>subst hr;rfl
 case bool=>subst hr;rfl
 case str=>subst hr;rfl
 case ptr=>obtain⟨n,_,rfl⟩:=hr;rfl
 case pel=>obtain⟨_,_,_,_,_,_,_,rfl⟩:=hr;rfl
 case als=>subst hr;rfl
 case vec=>obtain⟨_,_,_,_,rfl⟩:=hr;rfl
 case sl=>obtain⟨_,_,_,_,_,_,rfl,_⟩:=hr;rfl
 case Mr=>obtain⟨_,rfl⟩:=hr;rfl
 case fn=>obtain⟨_,_,rfl⟩:=hr;rfl
 case keys=>cases hk
 case aoZ=>subst hr;rfl
 case aoY=>subst hr;rfl
 case mp=>obtain⟨_,_,rfl⟩:=hr;rfl
 case bs=>obtain⟨_,_,_,rfl⟩:=hr;rfl
 case fb=>obtain⟨_,_,rfl⟩:=hr;rfl
 case sp=>rcases hr with rfl|⟨_,_,rfl⟩<;>rfl
theorem aew:∀{xs:qE}{vs:dm},xs.all At.known=true->fp c xs vs->∀u∈vs,u.oneCell'=true
 |[],[],_,_,_,h=>by cases h
 |x::xs,v::vs,hk,hr,u,h=>by
  simp only[all_cons,Bool.and_eq_true]at hk
  rcases mem_cons.1 h with rfl|h
  ·exact acN hk.1 hr.1
  ·exact aew hk.2 hr.2 u h
 |[],_::_,_,hr,_,_=>hr.elim
 |_::_,[],_,hr,_,_=>hr.elim
theorem alw {v:Value} (h:v.oneCell'=true):v.cells= #[v]:=by cases v<;>first|rfl|cases h
theorem yP {sv:SV}{cs:qE} (h:sv.cells=some cs) (hk:cs.all At.known=true){v:Value} (hv:sv.rel c v):∃vs:dm,v.cells=vs.toArray/\fp c cs vs:=by
 rcases sv with(x|xs)|xs|_
 ·simp[SV.cells]at h;subst h
  simp only[all_cons,Bool.and_eq_true]at hk
  exact⟨[v],alw (acN hk.1 hv),hv,trivial⟩
 ·simp[SV.cells]at h;subst h
  obtain⟨vs,rfl,hr⟩:=hv
  exact⟨vs,rfl,hr⟩
 ·simp[SV.cells]at h
 ·simp[SV.cells]at h
theorem Gs:∀{cs xs ys:qE}{off:Nat}{vs us:dm},yM cs off xs=some ys->fp c cs vs->fp c xs us->fp c ys (vs.take off++us++vs.drop (off+us.length))/\off+us.length<=vs.length
 |cs,[],ys,0,vs,us,h,hc,hx=>by
  cases us with
  |nil=>cases cs<;>simp[yM]at h<;>subst h<;>simpa using hc
  |cons=>exact hx.elim
 |[],_::_,_,0,_,_,h,_,_=>by simp[yM]at h
 |[],xs,_,n+1,_,_,h,_,_=>by simp[yM]at h
 |x::cs,y::xs,ys,0,vs,us,h,hc,hx=>by
  match vs,us,hc,hx with
  |v::vs,u::us,hc,hx=>
   simp only[yM,Option.map_eq_some_iff]at h
   obtain⟨zs,h1,rfl⟩:=h
   have:=Gs h1 hc.2 hx.2
   simp only[take_zero,nil_append,Nat.zero_add,length_cons,cons_append,drop_succ_cons]at this⊢
   exact⟨⟨hx.1,this.1⟩,by omega⟩
 |x::cs,xs,ys,n+1,vs,us,h,hc,hx=>by
  match vs,hc with
  |v::vs,hc=>
   simp only[yM,Option.map_eq_some_iff]at h
   obtain⟨zs,h1,rfl⟩:=h
   have:=Gs h1 hc.2 hx
   simp only[take_succ_cons,cons_append,length_cons]
   rw[show n+1+us.length=(n+us.length)+1 by omega,drop_succ_cons]
   exact⟨⟨hc.1,this.1⟩,by omega⟩
theorem apZ (g:aX P B w0 σ c a w){ty:TypeId}{x y:Operand} (ho:o.op= .store ty x y){p off:Nat}{k:Bk} (hx:(At.ptr p off).rel c (a.eval x)) (hk:σ.blk p=some k) (UE:k.kd=0)
 {sv:SV}{xs:qE} (TH:sv.cells=some xs) (hkn:xs.all At.known=true) (hy:sv.rel c (a.eval y)) (hn:ni P ty=some xs.length){cs:qE} (hc:yM k.cells off xs=some cs):
 eQ P B w0 σ c a w o ⟨[],none,.t [],[(p,some ⟨cs,k.ty,0⟩)],[],[],[]⟩:=by
 obtain⟨n,hb,hx⟩:=hx
 obtain⟨n',vs,e,h1,h2,h3⟩:=g.aO p k hk
 rw[hb]at e;cases e
 rw[dY UE]at h2
 obtain⟨us,hu,hr⟩:=yP TH hkn hy
 obtain⟨hz,hle⟩:=Gs hc h3 hr
 have aii:=aew hkn hr
 have pW:=run_storeCells_at P n off k.ty us 0 vs.toArray w h2 (by simpa using hle) aii
 simp only[Nat.add_zero]at pW
 refine⟨.skip,_,undef,c,?_,.inr ⟨rfl,rfl⟩,.refl c,fun _ _=>rfl,fun _ _=>rfl,⟨[],rfl,trivial⟩,
  g.store (ty:=k.ty) (kd:=0) hk hb hz (w':=w.setRow n (vs.take off++us++vs.drop (off+us.length)).toArray) ?_ ?_ ?_ ?_⟩
 ·have hlen:us.length=xs.length:=vo hr
  simp[execOp,ho,Instr.storeAt,hx,Instr.sureAddr,storeVar,dQ hn,hu,hlen,pW]
 ·refine⟨g.below.os,g.below.tape,g.below.output,Nat.le_trans g.below.size (by simp[World.setRow]),fun j hj hx=> ?_⟩
  rw[setRow_other w n j _ (fun e=>by
   rcases h1 with h|h
   ·omega
   ·exact hx (e▸h))]
  exact g.below.block j hj hx
 ·simp[World.setRow]
 ·rw[dY rfl];exact setRow_heap w n _ _ _ _ h2
 ·intro m hm;exact setRow_other w n m _ hm
theorem amP (g:aX P B w0 σ c a w){p:Nat} (hp:c.β p=none){ty:TypeId}{cs:qE}{vs:dm} (hr:fp c cs vs) (he:(execOp a.eval o).run P w= .ok (.value (.pointer (some ⟨w.heap.size,0,none⟩))) (w.alloc (.cells vs.toArray ty))):
 eQ P B w0 σ c a w o ⟨[],none,.at (.ptr p 0),[(p,some ⟨cs,ty,0⟩)],[],[p],[]⟩:=by
 have hle:c.le {c with β:=fun i=>if i=p then some w.heap.size else c.β i}:=⟨rfl,rfl,fun i n e=>by
  by_cases h:i=p
  ·subst h;rw[hp]at e;cases e
  ·simp[h,e],fun _ _ e=>e⟩
 exact⟨_,_,_,_,he,.inl rfl,hle,fun i hi=>by simp at hi;simp[hi],fun _ _=>rfl,⟨_,by simp,rfl⟩,g.alloc hp (k:=⟨cs,ty,0⟩) hr⟩
theorem aoM (g:aX P B w0 σ c a w){ty:TypeId}{x:Operand} (ho:o.op= .load ty x){p off:Nat}{k:Bk} (hx:(At.ptr p off).rel c (a.eval x)) (hk:σ.blk p=some k) (UE:k.kd=0){sv:SV} (hs:N2 P ty k.cells off=some sv):
 eQ P B w0 σ c a w o (il.pure sv):=by
 obtain⟨n,hb,hx⟩:=hx
 obtain⟨n',vs,e,h1,h2,h3⟩:=g.aO p k hk
 rw[hb]at e;cases e
 rw[dY UE]at h2
 obtain⟨v,hv,hr⟩:=Xd (P:=P) (base:=0) hs h3 (n:=n) (w:=w) (fun j u hj=>by
  have:=cell_of_row w n (0+j) vs.toArray k.ty (0,0) h2
  rw[this];simpa using hj)
 rw[Nat.zero_add]at hv
 exact eQ.quiet g (by simp[execOp,ho,Instr.loadAt,hx,Instr.sureAddr,hv]) hr
def rv (P:Program) (w:World) (ok:lU):AS->Value->Sc->Prop
 | .ck k,v,x=>∃d,d.er=x.er/\v=k.val d/\Fits P w ok k d
theorem JU {w w':World}{ok ok':lU} (h:∀p o u,ok p->w.cell? ⟨p,o,none⟩=some u->ok' p/\w'.cell? ⟨p,o,none⟩=some u){s:AS}{v:Value}{x:Sc} (hr:rv P w ok s v x):rv P w' ok' s v x:=by
 cases s with
 |ck k=>obtain⟨d,h1,h2,h3⟩:=hr;exact⟨d,h1,h2,h3.mono h⟩
def uH (P:Program) (w:World) (ok:lU) (ρ:aP):List (AS×Ex)->dm->Prop
 |[],[]=>True
 |p::ps,v::vs=>rv P w ok p.1 v (p.2.ev ρ)/\uH P w ok ρ ps vs
 |_,_=>False
structure Ext (σ σ':St) (c c':Ct):Prop where
 le:c.le c'
 owns:∀x p,σ'.owns c' x p->σ.owns c x p
theorem eI:∀(l:List (Option Rw)) (r s:eJ),aH l (r++s)=aH (aH l r) s
 |_,[],_=>rfl
 |l,(i,v)::r,s=>eI (dH none l i v) r s
theorem RF (nr:Nat) (e:Ex) (k:CK):nr<=(ES P nr e k).2.2/\∀i,i∈(ES P nr e k).2.1.map (·.1)↔nr<=i/\i<(ES P nr e k).2.2:=by
 unfold ES
 split
 ·split
  ·exact⟨le_succ _,fun i=>by first|(simp;omega)|simp⟩
  ·exact⟨Nat.le_refl _,fun i=>by first|(simp;omega)|simp⟩
 ·exact⟨Nat.le_refl _,fun i=>by first|(simp;omega)|simp⟩
theorem KJ (nr:Nat) (e:Ex) (s:AS):nr<=(rH P nr e s).2.2/\∀i,i∈(rH P nr e s).2.1.map (·.1)↔nr<=i/\i<(rH P nr e s).2.2:=by
 cases s with
 |ck k=>exact RF nr e k
theorem v6:∀(ps:List (AS×Ex)) (nr:Nat),nr<=(lO P nr ps).2.2/\∀i,i∈(lO P nr ps).2.1.map (·.1)↔nr<=i/\i<(lO P nr ps).2.2
 |[],nr=>⟨Nat.le_refl _,fun i=>by simp[lO]⟩
 |(s,e)::ps,nr=>by
  have h1:=KJ (P:=P) nr e s
  have h2:=v6 ps (rH P nr e s).2.2
  refine⟨Nat.le_trans h1.1 h2.1,fun i=> ?_⟩
  show i∈((rH P nr e s).2.1++(lO P (rH P nr e s).2.2 ps).2.1).map (·.1)↔nr<=i/\i<(lO P (rH P nr e s).2.2 ps).2.2
  rw[map_append,mem_append,h1.2,h2.2]
  have:=h1.1
  have:=h2.1
  omega
theorem aiM (g:aX P B w0 σ c a w){ok:lU} (dI:∀p,ok p->fg B σ c p){e:Ex}{nr:Nat}{el:TypeId}{agg:Bool}{ks:tE}{D:aP}{ad:Option Addr}{n cap:Nat} (hD:(e.ev c.ρ).er= .l (mS D))
 (hl:D.length=n) (hc:n<=cap) (hm:cap<=maxLen) (hcell:∀j u,(aE agg ks D)[j]? =some u->∃p o,ad=some ⟨p,o,none⟩/\w.cell? ⟨p,o+j,none⟩=some u/\ok p)
 (ME:∀x∈D,lW P w ok agg ks x) (hR:c.R nr=none):
 ∃c',c'.β=c.β/\(∀i,i≠nr->c'.R i=c.R i)/\(At.vec nr).rel c' (.slice ad n cap)/\aX P B w0 {σ with rows:=dH none σ.rows nr (some ⟨el,ks,agg,e,false,none⟩)} c' a w/\Ext σ {σ with rows:=dH none σ.rows nr (some ⟨el,ks,agg,e,false,none⟩)} c c':=by
 have gg:=g.newRow (w':=w) g.below (Nat.le_refl _) (fun _ _=>rfl) hR (k:=⟨el,ks,agg,e,false,none⟩) rfl (D:=D) (ad:=ad) (n:=n) (cap:=cap) hD hl hc hm (fun h=>by cases h) (fun _ j u hj=>by
  obtain⟨p,o,e1,e2,e3⟩:=hcell j u hj
  exact⟨p,o,e1,e2,dI p e3⟩) (fun x hx i k hk=>(ME x hx i k hk).mono fun p o u hp hu=>⟨dI p hp,hu⟩)
 refine⟨{c with R:=fun i=>if i=nr then some (.slice ad n cap)else c.R i},rfl,fun i hi=>by simp[hi],⟨by simp,ad,n,cap,rfl⟩,gg,⟨rfl,rfl,fun _ _ e=>e,fun i u e=> ?_⟩,?_⟩
 ·by_cases h:i=nr
  ·subst h;rw[hR]at e;cases e
  ·simp[h,e]
 ·rintro⟨t,q⟩ p h
  cases t
  ·exact h
  ·obtain⟨⟨k',mi,ho⟩,u,hu,hp⟩:=h
   have mi:(dH none σ.rows nr (some ⟨el,ks,agg,e,false,none⟩)).getD q none=some k':=mi
   rw[tU]at mi
   by_cases hq:q=nr
   ·rw[if_pos hq]at mi;cases mi;cases ho
   ·rw[if_neg hq]at mi
    simp[hq]at hu
    exact⟨⟨k',mi,ho⟩,u,hu,hp⟩
theorem KK (g:aX P B w0 σ c a w){ok:lU} (dI:∀p,ok p->fg B σ c p){s:AS}{e:Ex}{nr:Nat}{v:Value} (hr:rv P w ok s v (e.ev c.ρ)) (hR:∀i,nr<=i->i<(rH P nr e s).2.2->c.R i=none):
 ∃c',c'.β=c.β/\(∀i,i<nr\/(rH P nr e s).2.2<=i->c'.R i=c.R i)/\(rH P nr e s).1.rel c' v/\aX P B w0 {σ with rows:=aH σ.rows (rH P nr e s).2.1} c' a w/\
  Ext σ {σ with rows:=aH σ.rows (rH P nr e s).2.1} c c':=by
 cases s with
 |ck k=>
  obtain⟨d,hd,rfl,hf⟩:=hr
  have flat:(∀el,k≠.sl el)->rH P nr e (.ck k)=(au7 k e,[],nr):=fun hk=>by
   simp only[rH]
   unfold ES
   split
   ·exact absurd rfl (hk _)
   ·rfl
  cases hf with
  |int k x=>rw[flat (fun _ h=>by cases h)];exact⟨c,rfl,fun _ _=>rfl,Zj (k:= .int k) hd,g,.refl c,fun _ _ h=>h⟩
  |bool x=>rw[flat (fun _ h=>by cases h)];exact⟨c,rfl,fun _ _=>rfl,Zj (k:= .bool) hd,g,.refl c,fun _ _ h=>h⟩
  |str x=>rw[flat (fun _ h=>by cases h)];exact⟨c,rfl,fun _ _=>rfl,Zj (k:= .str) hd,g,.refl c,fun _ _ h=>h⟩
  | @sl el agg ks ad n cap xs hT hl hc hm hcell ME=>
    have hE:rH P nr e (.ck (.sl el))=(.vec nr,[(nr,some ⟨el,ks,agg,e,false,none⟩)],nr+1):=by simp only[rH,ES,hT]
    rw[hE]at hR⊢
    have hD:(e.ev c.ρ).er= .l (mS xs):=by rw[<-hd,ayD]
    obtain⟨c',h1,h2,h3,h4,h5⟩:=aiM g dI (el:=el) hD hl hc hm hcell ME (hR nr (Nat.le_refl _) (lt_succ_self _))
    exact⟨c',h1,fun i hi=>h2 i (by simp only at hi;omega),h3,h4,h5⟩
theorem ET:∀{ps:List (AS×Ex)}{σ:St}{c:Ct}{nr:Nat}{vs:dm}{ok:lU},aX P B w0 σ c a w->(∀p,ok p->fg B σ c p)->uH P w ok c.ρ ps vs->(∀i,nr<=i->i<(lO P nr ps).2.2->c.R i=none)->
 ∃c',c'.β=c.β/\(∀i,i<nr\/(lO P nr ps).2.2<=i->c'.R i=c.R i)/\fp c' (lO P nr ps).1 vs/\aX P B w0 {σ with rows:=aH σ.rows (lO P nr ps).2.1} c' a w/\Ext σ {σ with rows:=aH σ.rows (lO P nr ps).2.1} c c'
 |[],σ,c,nr,[],ok,g,_,_,_=>⟨c,rfl,fun _ _=>rfl,trivial,g,.refl c,fun _ _ h=>h⟩
 |(s,e)::ps,σ,c,nr,v::vs,ok,g,dI,hr,hR=>by
  have m1:=(KJ (P:=P) nr e s).1
  have m2:=(v6 (P:=P) ps (rH P nr e s).2.2).1
  have Pl:∀i,nr<=i->i<(lO P (rH P nr e s).2.2 ps).2.2->c.R i=none:=hR
  obtain⟨c1,a1,a2,a3,a4,a5⟩:=KK (s:=s) (e:=e) g dI (nr:=nr) hr.1 (fun i h1 h2=>Pl i h1 (by omega))
  obtain⟨c2,d1,d2,d3,d4,d5⟩:=ET (ps:=ps) (nr:=(rH P nr e s).2.2) (vs:=vs) (ok:=ok) a4
   (fun p hp=>⟨fun x hx=>(dI p hp).1 x (a5.owns x p hx),by rw[a5.le.K];exact(dI p hp).2⟩) (by rw[a5.le.ρ];exact hr.2) (fun i h1 h2=>by rw[a2 i (.inr h1)];exact Pl i (by omega) h2)
  refine⟨c2,d1.trans a1,fun i hi=> ?_,⟨At.v7 d5.le a3,d3⟩,?_,a5.le.trans d5.le,fun x p h=>a5.owns x p (d5.owns x p ?_)⟩
  ·have bN:i<nr\/(lO P (rH P nr e s).2.2 ps).2.2<=i:=hi
   rw[d2 i (by omega),a2 i (by omega)]
  ·simp only[lO];rw[eI];exact d4
  ·simp only[lO]at h;rw[eI]at h;exact h
 |[],_,_,_,_::_,_,_,_,hr,_=>hr.elim
 |_::_,_,_,_,[],_,_,_,hr,_=>hr.elim
theorem aaO {α:Type}:∀{xs:List α}{off n:Nat}{ys:List α},yQ xs off n=some ys->ys=(xs.drop off).take n/\off+n<=xs.length
 |xs,0,0,ys,h=>by simp[yQ]at h;subst h;simp
 |[],0,n+1,ys,h=>by simp[yQ]at h
 |[],o+1,n,ys,h=>by simp[yQ]at h
 |x::xs,0,n+1,ys,h=>by
  simp only[yQ,Option.map_eq_some_iff]at h
  obtain⟨zs,h1,rfl⟩:=h
  obtain⟨e,hl⟩:=aaO h1
  simp only[drop_zero]at e
  exact⟨by simp[e],by simp;omega⟩
 |x::xs,o+1,n,ys,h=>by
  simp only[yQ]at h
  obtain⟨e,hl⟩:=aaO h
  exact⟨by simp[e],by simp;omega⟩
theorem Zd {ok:lU}{ρ:aP}:∀{ps:List (AS×Ex)}{vs:dm},uH P w ok ρ ps vs->vs.length=ps.length
 |[],[],_=>rfl
 |_::_,_::_,h=>by simp[Zd h.2]
 |[],_::_,h=>h.elim
 |_::_,[],h=>h.elim
theorem WO {ok:lU}{ρ:aP}:∀{ps:List (AS×Ex)}{vs:dm} (n:Nat),uH P w ok ρ ps vs->uH P w ok ρ (ps.drop n) (vs.drop n)
 |ps,vs,0,h=>by simpa using h
 |[],[],n+1,_=>by simp[uH]
 |_::_,_::_,n+1,h=>by simpa using WO n h.2
 |[],_::_,_+1,h=>h.elim
 |_::_,[],_+1,h=>h.elim
theorem WP {ok:lU}{ρ:aP}:∀{ps:List (AS×Ex)}{vs:dm} (n:Nat),uH P w ok ρ ps vs->uH P w ok ρ (ps.take n) (vs.take n)
 |ps,vs,0,h=>by simp[uH]
 |[],[],n+1,_=>by simp[uH]
 |_::_,_::_,n+1,h=>by simpa[uH]using⟨h.1,WP n h.2⟩
 |[],_::_,_+1,h=>h.elim
 |_::_,[],_+1,h=>h.elim
theorem QY {ok:lU}{ρ:aP}:∀{ps:List (AS×Ex)}{vs:dm}{n:Nat}{p:AS×Ex},uH P w ok ρ ps vs->ps[n]? =some p->∃v,vs[n]? =some v/\rv P w ok p.1 v (p.2.ev ρ)
 |_::_,v::_,0,_,h,e=>⟨v,rfl,by simp at e;exact e▸h.1⟩
 |_::_,_::_,n+1,_,h,e=>by simpa using QY (n:=n) h.2 (by simpa using e)
 |[],_,_,_,_,e=>by simp at e
 |_::_,[],_,_,h,_=>h.elim
theorem RH {ok:lU}{ρ:aP}{e:Ex}{d:Sc} (hd:mS d.list=mS (e.ev ρ).list):∀(ks:tE) (n:Nat),(∀i k,ks[i]? =some k->Fits P w ok k (d.list.getD (n+i) (.i 0)))->
 uH P w ok ρ ((yz e ks n).map fun p=>(AS.ck p.1,p.2)) (qH d ks n)
 |[],_,_=>trivial
 |k::ks,n,h=>by
  refine⟨⟨d.list.getD n (.i 0),?_,rfl,by simpa using h 0 k rfl⟩,RH hd ks (n+1) fun i k hk=>by
   have:=h (i+1) k (by simpa using hk)
   rw[show n+1+i=n+(i+1)by omega];exact this⟩
  show _=((CB (.cell n) e).ev ρ).er
  rw[kR]
  exact Yp hd n
theorem agA {ok:lU}{ρ:aP}{e:Ex}{d:Sc} (hd:d.er=(e.ev ρ).er) (agg:Bool) (ks:tE) (h:lW P w ok agg ks d):
 uH P w ok ρ ((T7 agg ks e).map fun p=>(AS.ck p.1,p.2)) (cY agg ks d):=by
 unfold T7 cY
 cases agg
 ·match ks,h with
  |[],_=>trivial
  |[k],h=>exact⟨⟨d,hd,rfl,h 0 k rfl⟩,trivial⟩
  |_::_::_,_=>trivial
 ·have:=congrArg Sc.list hd
  rw[S6,S6]at this
  exact RH this ks 0 fun i k hk=>by simpa[WU]using h i k hk
theorem agk {ty:TypeId}{vs:dm}{n base off m:Nat} (h1:EK P ty=some true) (h2:ni P ty=some m) (hl:((vs.drop off).take m).length=m) (hc:∀j v,vs[j]? =some v->w.cell? ⟨n,base+j,none⟩=some v):
 (loadVar ty ⟨n,base+off,none⟩).run P w= .ok (.agg ((vs.drop off).take m).toArray) w:=by
 have hl2:(loadCells ⟨n,base+off,none⟩ m).run P w= .ok ((vs.drop off).take m).toArray w:=by
  have:=run_loadCells_list (P:=P) w ⟨n,base+off,none⟩ ((vs.drop off).take m) (fun j v hv=>by
   rw[getElem?_take]at hv
   split at hv
   ·rw[getElem?_drop]at hv
    have h4:=hc _ _ hv
    have h5:(⟨n,base+off,none⟩:Addr).add j=⟨n,base+(off+j),none⟩:=by unfold Addr.add;split<;>simp_all<;>omega
    rw[h5];exact h4
   ·cases hv)
  rw[hl]at this
  exact this
 simp[loadVar,sU h1,dQ h2,hl2]
theorem agl {ty:TypeId}{vs:dm}{n base off:Nat}{v:Value} (h1:EK P ty=some false) (hv:vs[off]? =some v) (hc:∀j v,vs[j]? =some v->w.cell? ⟨n,base+j,none⟩=some v):
 (loadVar ty ⟨n,base+off,none⟩).run P w= .ok v w:=by
 have:=hc off v hv
 simp[loadVar,sU h1,load,Sem.run,this]
theorem aoN (g:aX P B w0 σ c a w){ty:TypeId}{x:Operand} (ho:o.op= .load ty x){r:Nat}{ix:Ex}{off:Nat}{k:Rw} (hx:(At.pel r k.ks.length ix off).rel c (a.eval x)) (hk:σ.row r=some k) (pK:k.hole=none) (dI:dC k.agg k.ks=true)
 {sv:SV}{rs:eJ}{nr nr':Nat} (hs:aeB P nr ty (T7 k.agg k.ks (k.elem ix)) off=some (sv,rs,nr')) (ur:∀i∈rs.map (·.1),c.R i=none):
 eQ P B w0 σ c a w o ⟨[],none,sv,[],rs,[],rs.map (·.1)⟩:=by
 obtain⟨n,o',len,cap,e,h0,fU,hx⟩:=hx
 obtain⟨D,ad,m,uI,e',hD,h1,h2,h3,h6,h4⟩:=g.read hk pK
 rw[e]at e';cases e'
 have NK:(k.elem ix).ev c.ρ=(k.cont.ev c.ρ).list.getD (ix.ev c.ρ).int.toNat (.i 0):=by unfold Rw.elem;rw[bP];rfl
 have hd:(D.getD (ix.ev c.ρ).int.toNat (.i 0)).er=((k.elem ix).ev c.ρ).er:=by rw[NK];exact Yp (iI hD) _
 have Pv:D.getD (ix.ev c.ρ).int.toNat (.i 0)∈D:=by
  rw[getD_eq_getElem?_getD,getElem?_eq_getElem (by omega)];exact getElem_mem _
 have i8:=agA (ρ:=c.ρ) hd k.agg k.ks (h6 _ Pv)
 have hcell:∀j u,(cY k.agg k.ks (D.getD (ix.ev c.ρ).int.toNat (.i 0)))[j]? =some u->w.cell? ⟨n,(o'+(ix.ev c.ρ).int.toNat*k.ks.length)+j,none⟩=some u:=fun j u hj=>by
  have:=flat_get (jp dI).1 _ _ j u (by omega) hj
  obtain⟨p,q,e1,e2,_⟩:=h4 _ _ this
  cases e1
  rw[Nat.add_assoc];exact e2
 generalize D.getD (ix.ev c.ρ).int.toNat (.i 0)=d at*
 generalize T7 k.agg k.ks (k.elem ix)=ps at hs i8
 unfold aeB at hs
 split at hs
 ·rename_i m' q1 q2
  split at hs
  ·rename_i qs hq
   obtain⟨hq1,hq2⟩:=aaO hq
   simp only[Option.some.injEq,Prod.mk.injEq]at hs
   obtain⟨rfl,rfl,rfl⟩:=hs
   have Cz:uH P w (fg B σ c) c.ρ (qs.map fun p=>(AS.ck p.1,p.2)) (((cY k.agg k.ks d).drop off).take m'):=by
    have:=WP m' (WO off i8)
    rw[<-map_drop,<-map_take,<-hq1]at this
    exact this
   have hlen:=Zd Cz
   have hql:qs.length=m':=by rw[hq1];simp;omega
   rw[length_map,hql]at hlen
   obtain⟨c',d1,d2,d3,d4,d5⟩:=ET (nr:=nr) g (fun _ h=>h) Cz (fun i i1 i2=>ur i ((v6 _ nr).2 i|>.2 ⟨i1,i2⟩))
   have jX:=agk (P:=P) (n:=n) (base:=o'+(ix.ev c.ρ).int.toNat*k.ks.length) (off:=off) q1 q2 hlen hcell
   refine⟨_,w,.agg (((cY k.agg k.ks d).drop off).take m').toArray,c',by simp[execOp,ho,Instr.loadAt,hx,Instr.sureAddr,jX],.inl rfl,d5.le,fun _ _=>by rw[d1],fun i hi=>d2 i ?_,⟨_,rfl,d3⟩,d4⟩
   have:¬(nr<=i/\i<_):=fun hh=>hi ((v6 _ nr).2 i|>.2 hh)
   omega
  ·cases hs
 ·rename_i q1
  split at hs
  ·rename_i p hp
   simp only[Option.some.injEq,Prod.mk.injEq]at hs
   obtain⟨rfl,rfl,rfl⟩:=hs
   obtain⟨v,hv,hr⟩:=QY i8 (n:=off) (p:=(AS.ck p.1,p.2)) (by rw[getElem?_map,hp];rfl)
   obtain⟨c',d1,d2,d3,d4,d5⟩:=KK (s:= .ck p.1) (nr:=nr) g (fun _ h=>h) hr (fun i i1 i2=>ur i ((RF nr p.2 p.1).2 i|>.2 ⟨i1,i2⟩))
   have jX:=agl (P:=P) (n:=n) (base:=o'+(ix.ev c.ρ).int.toNat*k.ks.length) (off:=off) q1 hv hcell
   refine⟨_,w,v,c',by simp[execOp,ho,Instr.loadAt,hx,Instr.sureAddr,jX],.inl rfl,d5.le,fun _ _=>by rw[d1],fun i hi=>d2 i ?_,d3,d4⟩
   have:¬(nr<=i/\i<_):=fun hh=>hi ((RF nr p.2 p.1).2 i|>.2 hh)
   simp only[rH]
   omega
  ·cases hs
 ·cases hs
end
end Go.Proofs.YtlklkgdaegncaaaGreatDoor
