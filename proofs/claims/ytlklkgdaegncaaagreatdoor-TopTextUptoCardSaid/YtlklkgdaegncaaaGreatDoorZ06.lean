/-
  A part of the proof of TopText: SymX1, SymX2, SymX3.
-/
import Derived.Test.YtlklkgdaegncaaaGreatDoorZ05
import Derived.Deep.LoopGhost
import Derived.LoopN
import Derived.Scope
namespace Go.Proofs.YtlklkgdaegncaaaGreatDoor
set_option linter.unusedVariables false
set_option linter.unusedSimpArgs false
open List
open Nat
open Int
section
open Go.RowKit
section
variable {P:Program}{B:mC}{w0:World}{σ σ':St}{c c0 c2:Ct}{a:Act}{w:World}
def zr (ρ2 ρ:aP) (m:Nat) (es:mA):Prop:=∀i e,es[i]? =some e->ρ2.getD (m+i) (.i 0)=e.ev ρ
theorem zr.left {ρ2 ρ:aP}{m:Nat}{es WY:mA} (h:zr ρ2 ρ m (es++WY)):zr ρ2 ρ m es:=fun i e he=>h i e (by
 rw[getElem?_append_left (List.getElem?_eq_some_iff.1 he).1];exact he)
theorem zr.right {ρ2 ρ:aP}{m:Nat}{es WY:mA} (h:zr ρ2 ρ m (es++WY)):zr ρ2 ρ (m+es.length) WY:=fun i e he=>by
 have:=h (es.length+i) e (by rw[getElem?_append_right (by omega),Nat.add_sub_cancel_left];exact he)
 rw[Nat.add_assoc];exact this
theorem zr.at {ρ2 ρ:aP}{m:Nat}{e:Ex}{es:mA} (h:zr ρ2 ρ m (e::es)):ρ2.getD m (.i 0)=e.ev ρ:=by simpa using h 0 e rfl
theorem zr.at1 {ρ2 ρ:aP}{m:Nat}{e e':Ex}{es:mA} (h:zr ρ2 ρ m (e::e'::es)):ρ2.getD (m+1) (.i 0)=e'.ev ρ:=h 1 e' rfl
theorem zr.tail {ρ2 ρ:aP}{m:Nat}{e:Ex}{es:mA} (h:zr ρ2 ρ m (e::es)):zr ρ2 ρ (m+1) es:=zr.right (es:=[e]) h
theorem ade (g:aX P B w0 σ c a w){r:Nat}{k:Rw} (hr:σ.row r=some k) (dI:dC k.agg k.ks=true) (pK:k.plain=true){v:Value} (hv:c.R r=some v) (h2:c2.R r=some v){lo len:Ex} (hlo:(lo.ev c2.ρ).int=0) (hlen:(len.ev c2.ρ).int=(k.cont.ev c.ρ).list.length):
 (At.sl r k.ks.length lo len).rel c2 v:=by
 obtain⟨D,ad,n,cap,e,h0,W6,h3,h4,h6,h5⟩:=g.read hr (gr pK)
 have h1:(k.cont.ev c.ρ).list.length=n:=by rw[<-o9 (iI h0)];exact W6
 rw[hv]at e;cases e
 refine⟨ad,n,cap,ad,cap,h2,?_,by omega,by omega,by omega,by omega,h4,fun hp=> ?_⟩
 ·rw[hlen,h1];simp
 ·obtain⟨hf,hks⟩:=jp dI
  have hl:0<(aE k.agg k.ks D).length:=by rw[bS hf];exact Nat.mul_pos (by omega) hks
  obtain⟨p,o,e1,_⟩:=h5 0 _ (getElem?_eq_getElem hl)
  exact⟨p,o,e1,by rw[e1,hlo];simp⟩
theorem aX.apz (g:aX P B w0 σ c a w){t:Nat}{sv:SV} (h:sv.rel c (a.tmps.getD t undef)):aX P B w0 {σ with aZ:=σ.aZ.set t sv} c a w:=by
 refine⟨g.below,g.hB,g.defers,by simpa using g.size,fun u=> ?_,g.aO,g.rows,g.apart⟩
 show((σ.aZ.set t sv).getD u .top).rel c _
 rw[aaD]
 split
 ·rename_i h2;rw[<-h2.1];exact h
 ·exact g.aZ u
theorem agL:∀{xs:qE}{vs:dm}{n:Nat}{x:At}{v:Value},fp c xs vs->vs[n]? =some v->x.rel c v->fp c (xs.set n x) vs
 |[],[],_,_,_,_,_,_=>trivial
 |_::_,v'::_,0,_,v,h,e,hx=>by simp at e;subst e;exact⟨hx,h.2⟩
 |_::_,_::_,n+1,_,_,h,e,hx=>⟨h.1,agL h.2 (by simpa using e) hx⟩
 |[],_::_,_,_,_,h,_,_=>h.elim
 |_::_,[],_,_,_,h,_,_=>h.elim
theorem aq4 (l:List (Option Bk)) (p:Nat) (k:Option Bk) (q:Nat) (h:p<l.length):(l.set p k).getD q none=if q=p then k else l.getD q none:=by
 simp only[getD_eq_getElem?_getD,getElem?_set]
 by_cases hq:p=q
 ·subst hq;simp[h]
 ·simp[hq,Ne.symm hq]
theorem akr (l:List (Option Rw)) (r:Nat) (k:Option Rw) (q:Nat) (h:r<l.length):(l.set r k).getD q none=if q=r then k else l.getD q none:=by
 simp only[getD_eq_getElem?_getD,getElem?_set]
 by_cases hq:r=q
 ·subst hq;simp[h]
 ·simp[hq,Ne.symm hq]
theorem aiN {r:Nat}{k:Rw} (h:σ.row r=some k):r<σ.rows.length:=by
 rcases Nat.lt_or_ge r σ.rows.length with h2|h2
 ·exact h2
 ·exfalso
  have:σ.row r=none:=by unfold St.row;simp[getD_eq_getElem?_getD,getElem?_eq_none h2]
  rw[this]at h;cases h
theorem aX.aw5 (g:aX P B w0 σ c a w){r:Nat}{k:Rw} (hr:σ.row r=some k) (ho:k.own=true){e:Ex} (he:e.ev c.ρ=k.cont.ev c.ρ):aX P B w0 {σ with rows:=σ.rows.set r (some {k with cont:=e})} c a w:=by
 have pc:∀q,St.row {σ with rows:=σ.rows.set r (some {k with cont:=e})} q=if q=r then some {k with cont:=e}else σ.row q:=fun q=>akr _ _ _ _ (aiN hr)
 have jq:∀y n,St.owns {σ with rows:=σ.rows.set r (some {k with cont:=e})} c y n->σ.owns c y n:=by
  rintro⟨t,q⟩ n h
  cases t
  ·exact h
  ·obtain⟨⟨k',mi,ho'⟩,e'⟩:=h
   refine⟨?_,e'⟩
   rw[pc]at mi
   by_cases hq:q=r
   ·subst hq;exact⟨k,hr,ho⟩
   ·rw[if_neg hq]at mi;exact⟨k',mi,ho'⟩
 refine⟨g.below,g.hB,g.defers,g.size,g.aZ,g.aO,fun q k' hq=> ?_,fun y z n hy hz=>g.apart y z n (jq y n hy) (jq z n hz)⟩
 rw[pc]at hq
 by_cases h2:q=r
 ·rw[if_pos h2]at hq;cases hq;subst h2
  obtain⟨v,e',D,ad,n,cap,rfl,h0,h1,h2,h3,h4,h5,h6⟩:=g.rows q k hr
  exact⟨_,e',D,ad,n,cap,rfl,by rw[he];exact h0,h1,h2,h3,h4,fun h=>(by rw[ho]at h;cases h),fun x hx i k hk=>(h6 x hx i k hk).mono fun p o u hp hu=>⟨⟨fun y hy=>hp.1 y (jq y p hy),hp.2⟩,hu⟩⟩
 ·rw[if_neg h2]at hq
  obtain⟨v,e',qq⟩:=g.rows q k' hq
  exact⟨v,e',qq.mono (fun p o u hp hu=>⟨⟨fun y hy=>hp.1 y (jq y p hy),hp.2⟩,hu⟩) (fun _ _ _ _=>rfl) rfl (fun _ _ _ h=>h)⟩
theorem aaZ (g:aX P B w0 σ c a w) (hf:nZ σ c){el:Nat}{x x':At}{es:mA}{rs:eJ} (h:atv P σ.rows σ.nv σ.rows.length el x=some (x',es,rs)) (hv:zr c.ρ c.ρ σ.nv es){v:Value} (hx:x.rel c v):
 ∃c',c.le c'/\aX P B w0 {σ with rows:=aH σ.rows rs} c' a w/\nZ {σ with rows:=aH σ.rows rs} c'/\σ.rows.length<=(aH σ.rows rs).length/\x'.rel c' v/\∀x p,St.owns {σ with rows:=aH σ.rows rs} c' x p->∃y,σ.owns c y p:=by
 unfold atv at h
 split at h
 ·cases h
  exact⟨c,.refl c,g,hf,Nat.le_refl _,by have hx:v=_:=hx;rw[hx];show _=Value.int _ (c.ρ.getD σ.nv (.i 0)).int;rw[hv.at],fun x _ h=>⟨x,h⟩⟩
 ·cases h
  exact⟨c,.refl c,g,hf,Nat.le_refl _,by have hx:v=_:=hx;rw[hx];show _=Value.bool (c.ρ.getD σ.nv (.i 0)).bool;rw[hv.at],fun x _ h=>⟨x,h⟩⟩
 ·cases h
  exact⟨c,.refl c,g,hf,Nat.le_refl _,by have hx:v=_:=hx;rw[hx];show _=Value.string (c.ρ.getD σ.nv (.i 0)).str;rw[hv.at],fun x _ h=>⟨x,h⟩⟩
 ·rename_i r
  split at h
  ·rename_i k hk
   have hk:σ.row r=some k:=hk
   split at h
   ·rename_i ho
    simp only[Bool.and_eq_true]at ho
    obtain⟨ho,pK⟩:=ho
    have pK:=gr pK
    cases h
    obtain⟨v',e,D,ad,n,cap,rfl,h0,h1,h2,h3,h4,h5,h6⟩:=g.rows r k hk
    have Ae:((Ex.v σ.nv).ev c.ρ)=k.cont.ev c.ρ:=by show c.ρ.getD σ.nv (.i 0)=_;rw[hv.at]
    have hRn:=hf.R σ.rows.length (Nat.le_refl _)
    have g2:=g.K8 (w':=w) hk ho e (World.grownBy.refl _ _) (r':=σ.rows.length) (k':={k with cont:= .v σ.nv}) ho pK (D:=D) (by rw[Ae];exact h0) h1 h2 h3 ((h4 ho).imp id (fun z=>z.1.plain pK)) (.inl rfl) (.inl hRn) h6
    refine⟨{c with R:=fun i=>if i=σ.rows.length then some (.slice ad n cap)else c.R i},⟨rfl,rfl,fun _ _ h=>h,fun i u h=> ?_⟩,g2,⟨hf.β,fun q hq=> ?_⟩,?_,?_,?_⟩
    ·by_cases hi:i=σ.rows.length
     ·subst hi;rw[hRn]at h;cases h
     ·simp[hi,h]
    ·have hl:=dP [(r,none),(σ.rows.length,some {k with cont:=Ex.v σ.nv})] σ.rows
     have h1:=hl.2 (σ.rows.length,some {k with cont:=Ex.v σ.nv}) (by simp)
     simp only at h1 hq
     have rP:q≠σ.rows.length:=by omega
     simp only[if_neg rP]
     exact hf.R q (by omega)
    ·exact(dP _ _).1
    ·obtain⟨hx,a',n',uI,rfl⟩:=hx
     rw[e]at hx
     refine⟨by simp[hx],a',n',uI,rfl⟩
    ·rintro⟨t,q⟩ p hq
     cases t
     ·exact⟨(false,q),hq⟩
     ·obtain⟨⟨k2,pJ,ho2⟩,v2,hv2,hp2⟩:=hq
      have pJ:(dH none (dH none σ.rows r none) σ.rows.length (some {k with cont:=Ex.v σ.nv})).getD q none=some k2:=pJ
      rw[tU,tU]at pJ
      have hv2:(if q=σ.rows.length then some (Value.slice ad n cap)else c.R q)=some v2:=hv2
      by_cases hqn:q=σ.rows.length
      ·rw[if_pos hqn]at hv2;cases hv2
       exact⟨(true,r),⟨k,hk,ho⟩,_,e,hp2⟩
      ·rw[if_neg hqn]at pJ hv2
       by_cases hqr:q=r
       ·rw[if_pos hqr]at pJ;cases pJ
       ·rw[if_neg hqr]at pJ
        exact⟨(true,q),⟨k2,pJ,ho2⟩,v2,hv2,hp2⟩
   ·split at h
    ·rename_i dI
     simp only[Bool.and_eq_true]at dI
     cases h
     refine⟨c,.refl c,g,hf,Nat.le_refl _,?_,fun x _ h=>⟨x,h⟩⟩
     refine ade g hk dI.1 dI.2 hx.1 hx.1 ?_ ?_
     ·show(c.ρ.getD σ.nv (.i 0)).int=0;rw[hv.at];rfl
     ·show(c.ρ.getD (σ.nv+1) (.i 0)).int=_;rw[hv.at1,kR];rfl
    ·cases h
  ·cases h
 ·cases h
  refine⟨c,.refl c,g,hf,Nat.le_refl _,?_,fun x _ h=>⟨x,h⟩⟩
  rename_i r WY lo len
  have e1:(Ex.v σ.nv).ev c.ρ=lo.ev c.ρ:=hv.at
  have e2:(Ex.v (σ.nv+1)).ev c.ρ=len.ev c.ρ:=hv.at1
  simp only[At.rel,e1,e2]at hx⊢
  exact hx
 ·split at h
  ·rename_i agg ks _
   cases h
   have hRn:=hf.R σ.rows.length (Nat.le_refl _)
   have Ae:((Ex.v σ.nv).ev c.ρ)= .l []:=by show c.ρ.getD σ.nv (.i 0)=_;rw[hv.at];rfl
   obtain⟨ad,rfl⟩:=hx
   have g2:=g.newRow (w':=w) g.below (Nat.le_refl _) (fun _ _=>rfl) (r:=σ.rows.length) hRn (k:=⟨el,ks,agg,.v σ.nv,true,none⟩) rfl (D:=[]) (ad:=ad) (n:=0) (cap:=0) (by rw[Ae];exact sk []) rfl (Nat.le_refl _) (by simp[maxLen])
    (fun _=> .inl rfl) (fun h=>by cases h) (fun x hx=>by cases hx)
   refine⟨{c with R:=fun i=>if i=σ.rows.length then some (.slice ad 0 0)else c.R i},⟨rfl,rfl,fun _ _ h=>h,fun i u h=> ?_⟩,g2,⟨hf.β,fun q hq=> ?_⟩,(dP _ _).1,?_,?_⟩
   ·by_cases hi:i=σ.rows.length
    ·subst hi;rw[hRn]at h;cases h
    ·simp[hi,h]
   ·have hl:=dP [(σ.rows.length,some (⟨el,ks,agg,.v σ.nv,true,none⟩:Rw))] σ.rows
    have h1:=hl.2 (σ.rows.length,some (⟨el,ks,agg,.v σ.nv,true,none⟩:Rw)) (by simp)
    simp only at h1 hq
    have rP:q≠σ.rows.length:=by omega
    simp only[if_neg rP]
    exact hf.R q (by omega)
   ·exact⟨by simp,ad,0,0,rfl⟩
   ·rintro⟨t,q⟩ p hq
    cases t
    ·exact⟨(false,q),hq⟩
    ·obtain⟨⟨k2,pJ,ho2⟩,v2,hv2,hp2⟩:=hq
     have pJ:(dH none σ.rows σ.rows.length (some (⟨el,ks,agg,.v σ.nv,true,none⟩:Rw))).getD q none=some k2:=pJ
     rw[tU]at pJ
     have hv2:(if q=σ.rows.length then some (Value.slice ad 0 0)else c.R q)=some v2:=hv2
     by_cases hqn:q=σ.rows.length
     ·rw[if_pos hqn]at hv2;cases hv2
      cases ad<;>cases hp2
     ·rw[if_neg hqn]at pJ hv2
      exact⟨(true,q),⟨k2,pJ,ho2⟩,v2,hv2,hp2⟩
  ·cases h
 ·cases h
  exact⟨c,.refl c,g,hf,Nat.le_refl _,by have hx:v=_:=hx;rw[hx];show _=Value.tuple (((c.ρ.getD σ.nv (.i 0)).list).map _).toArray;rw[hv.at],fun x _ h=>⟨x,h⟩⟩
 ·cases h
structure amx (P:Program) (B:mC) (w0:World) (σ σ':St) (c:Ct) (a:Act) (w:World) (es:mA):Prop where
 ex:∃c',c.le c'/\aX P B w0 σ' c' a w/\nZ σ' c'/\∀x p,σ'.owns c' x p->∃y,σ.owns c y p
 nv:σ'.nv=σ.nv+es.length
 nb:σ'.aO.length=σ.aO.length
 nr:σ.rows.length<=σ'.rows.length
theorem ahB {sv:SV}{x:At} (h:sv.at? =some x):sv= .c (.a x):=by
 unfold SV.at? at h;split at h
 ·cases h;rfl
 ·cases h
theorem Uv:∀{l:List (Nat×Nat)}{σ σ':St}{c:Ct}{es:mA},aa1 P l σ=some (σ',es)->aX P B w0 σ c a w->nZ σ c->zr c.ρ c.ρ σ.nv es->amx P B w0 σ σ' c a w es
 |[],σ,σ',c,es,h,g,hf,_=>by
  simp only[aa1,Option.some.injEq,Prod.mk.injEq]at h
  obtain⟨rfl,rfl⟩:=h
  exact⟨⟨c,.refl c,g,hf,fun x _ h=>⟨x,h⟩⟩,rfl,rfl,Nat.le_refl _⟩
 |(t,el)::r,σ,σ',c,es,h,g,hf,hv=>by
  simp only[aa1]at h
  split at h
  ·rename_i x hx
   split at h
   ·rename_i x' e1 rs htm
    split at h
    ·rename_i σ2 e2 Z5
     simp only[Option.some.injEq,Prod.mk.injEq]at h
     obtain⟨rfl,rfl⟩:=h
     have pW:(σ.slot t).rel c (a.tmps.getD t undef):=g.aZ t
     rw[ahB hx]at pW
     obtain⟨c1,hle,g1,hf1,hlen,i8,how⟩:=aaZ g hf htm hv.left pW
     have g2:aX P B w0 {σ with nv:=σ.nv+e1.length,aZ:=σ.aZ.set t (.at x'),rows:=aH σ.rows rs} c1 a w:=by
      have:=g1.apz (t:=t) (sv:= .at x') i8
      exact⟨this.below,this.hB,this.defers,this.size,this.aZ,this.aO,this.rows,this.apart⟩
     have ih:=Uv Z5 g2 ⟨hf1.β,hf1.R⟩ (by rw[hle.ρ];exact hv.right)
     obtain⟨⟨c2,X6,g3,hf3,an6⟩,n1,n2,n3⟩:=ih
     exact⟨⟨c2,hle.trans X6,g3,hf3,fun x p h=>by
      obtain⟨y,hy⟩:=an6 x p h
      exact how y p hy⟩,by simp only at n1;rw[n1];simp;omega,n2,Nat.le_trans hlen n3⟩
    ·cases h
   ·cases h
  ·cases h
theorem Xj {τ:St}{p off:Nat}{x:At} (q:Nat):(τ.setCell p off x).blk q=if q=p then(τ.blk p).map fun k=>{k with cells:=k.cells.set off x}else τ.blk q:=by
 unfold St.setCell
 cases hk:τ.blk p with
 |none=>
  simp only[Option.map_none]
  split
  ·rename_i h;rw[h];exact hk
  ·rfl
 |some k=>
  simp only[Option.map_some]
  have hlen:p<τ.aO.length:=by
   rcases Nat.lt_or_ge p τ.aO.length with h|h
   ·exact h
   ·exfalso
    have:τ.blk p=none:=by unfold St.blk;simp[getD_eq_getElem?_getD,getElem?_eq_none h]
    rw[this]at hk;cases hk
  exact aq4 _ _ _ _ hlen
theorem DW (τ:St) (p off:Nat) (y:At):(τ.setCell p off y).aO.length=τ.aO.length/\(τ.setCell p off y).rows=τ.rows/\(τ.setCell p off y).nv=τ.nv/\(τ.setCell p off y).lv=τ.lv/\(τ.setCell p off y).aZ=τ.aZ:=by unfold St.setCell;split<;>simp
theorem tV {τ:St}{p off:Nat}{x:At}{c:Ct} (y:Bool×Nat) (m:Nat) (h:(τ.setCell p off x).owns c y m):τ.owns c y m:=by
 obtain⟨t,q⟩:=y
 cases t
 ·obtain⟨⟨k',mi⟩,e⟩:=h
  refine⟨?_,e⟩
  rw[Xj]at mi
  by_cases hq:q=p
  ·subst hq
   rw[if_pos rfl]at mi
   obtain⟨k,hk,_⟩:=Option.map_eq_some_iff.1 mi
   exact⟨k,hk⟩
  ·rw[if_neg hq]at mi;exact⟨k',mi⟩
 ·obtain⟨⟨k',mi,ho'⟩,e⟩:=h
  have:(τ.setCell p off x).row q=τ.row q:=by unfold St.row;rw[(DW τ p off x).2.1]
  rw[this]at mi
  exact⟨⟨k',mi,ho'⟩,e⟩
theorem aX.setCell (g:aX P B w0 σ c a w){p off:Nat}{x:At} (h:∀k,σ.blk p=some k->∃n cs,c.β p=some n/\(B.n<=n\/B.X n)/\w.heap[n]? =some (wX k cs)/\fp c k.cells cs/\∀v,cs[off]? =some v->x.rel c v):aX P B w0 (σ.setCell p off x) c a w:=by
 have hm:=DW σ p off x
 have pc:∀q,(σ.setCell p off x).row q=σ.row q:=fun q=>by unfold St.row;rw[hm.2.1]
 refine⟨g.below,g.hB,g.defers,by rw[hm.2.2.2.2];exact g.size,fun t=>by unfold St.slot;rw[hm.2.2.2.2];exact g.aZ t,fun q k' hq=> ?_,fun r k' hr=> ?_,fun y z m hy hz=>g.apart y z m (tV y m hy) (tV z m hz)⟩
 ·rw[Xj]at hq
  by_cases h2:q=p
  ·subst h2
   rw[if_pos rfl]at hq
   obtain⟨k,hk,rfl⟩:=Option.map_eq_some_iff.1 hq
   obtain⟨n,cs,e,h1,h3,h4,h5⟩:=h k hk
   refine⟨n,cs,e,h1,h3,?_⟩
   cases hc:cs[off]? with
   |some v=>exact agL h4 hc (h5 v hc)
   |none=>
    have hl:=vo h4
    have:k.cells.set off x=k.cells:=set_eq_of_length_le (by rw[List.getElem?_eq_none_iff]at hc;omega)
    show fp c (k.cells.set off x) cs
    rw[this];exact h4
  ·rw[if_neg h2]at hq;exact g.aO q k' hq
 ·rw[pc]at hr
  obtain⟨v,e,qq⟩:=g.rows r k' hr
  exact⟨v,e,qq.mono (fun p o u hp hu=>⟨⟨fun y hy=>hp.1 y (tV y p hy),hp.2⟩,hu⟩) (fun _ _ _ _=>rfl) rfl (fun _ _ _ h=>h)⟩
theorem QO:∀{l:List (Nat×Nat×Nat)}{σ σ':St}{c:Ct}{es:mA},Us P l σ=some (σ',es)->aX P B w0 σ c a w->nZ σ c->zr c.ρ c.ρ σ.nv es->amx P B w0 σ σ' c a w es
 |[],σ,σ',c,es,h,g,hf,_=>by
  simp only[Us,Option.some.injEq,Prod.mk.injEq]at h
  obtain⟨rfl,rfl⟩:=h
  exact⟨⟨c,.refl c,g,hf,fun x _ h=>⟨x,h⟩⟩,rfl,rfl,Nat.le_refl _⟩
 |(p,off,el)::r,σ,σ',c,es,h,g,hf,hv=>by
  simp only[Us]at h
  split at h
  ·rename_i x hx
   split at h
   ·rename_i x' e1 rs htm
    split at h
    ·rename_i σ2 e2 Z5
     simp only[Option.some.injEq,Prod.mk.injEq]at h
     obtain⟨rfl,rfl⟩:=h
     have hcell:∃k n cs v,σ.blk p=some k/\c.β p=some n/\(B.n<=n\/B.X n)/\w.heap[n]? =some (wX k cs)/\fp c k.cells cs/\cs[off]? =some v/\x.rel c v:=by
      have qM:∃k,σ.blk p=some k:=by
       unfold St.cellAt at hx
       cases hk:σ.blk p with
       |none=>rw[hk]at hx;cases hx
       |some k=>exact⟨k,rfl⟩
      obtain⟨k,hk⟩:=qM
      have hxk:k.cells[off]? =some x:=by unfold St.cellAt at hx;rw[hk]at hx;exact hx
      obtain⟨n,cs,eb,hB1,ve,MD⟩:=g.aO p k hk
      obtain⟨v,hvv,TI⟩:=N6 MD hxk
      exact⟨k,n,cs,v,hk,eb,hB1,ve,MD,hvv,TI⟩
     obtain⟨k,n,cs,v,hk,eb,hB1,ve,MD,hvv,TI⟩:=hcell
     obtain⟨c1,hle,g1,hf1,hlen,i8,how⟩:=aaZ g hf htm hv.left TI
     have g1':aX P B w0 {σ with nv:=σ.nv+e1.length,rows:=aH σ.rows rs} c1 a w:=⟨g1.below,g1.hB,g1.defers,g1.size,g1.aZ,g1.aO,g1.rows,g1.apart⟩
     have g2:aX P B w0 (St.setCell {σ with nv:=σ.nv+e1.length,rows:=aH σ.rows rs} p off x') c1 a w:=g1'.setCell (fun k2 q1=>by
      have q1:σ.blk p=some k2:=q1
      rw[hk]at q1;cases q1
      exact⟨n,cs,hle.β _ _ eb,hB1,ve,yG hle MD,fun v2 q5=>by rw[hvv]at q5;cases q5;exact i8⟩)
     have hl:∀(τ:St) (y:At),(τ.setCell p off y).aO.length=τ.aO.length/\(τ.setCell p off y).rows=τ.rows/\(τ.setCell p off y).nv=τ.nv:=fun τ y=>by unfold St.setCell;split<;>simp
     have ih:=QO Z5 g2 ⟨fun q hq=>hf1.β q (by rw[(hl _ _).1]at hq;exact hq),fun q hq=>hf1.R q (by rw[(hl _ _).2.1]at hq;exact hq)⟩ (by rw[hle.ρ,(hl _ _).2.2];exact hv.right)
     obtain⟨⟨c2,X6,g3,hf3,an6⟩,n1,n2,n3⟩:=ih
     rw[(hl _ _).2.2]at n1
     rw[(hl _ _).1]at n2
     rw[(hl _ _).2.1]at n3
     exact⟨⟨c2,hle.trans X6,g3,hf3,fun x p0 h=>by
      obtain⟨y,hy⟩:=an6 x p0 h
      have hz:St.owns {σ with nv:=σ.nv+e1.length,rows:=aH σ.rows rs} c1 y p0:=tV y p0 hy
      exact how y p0 hz⟩,by rw[n1];simp;omega,n2,Nat.le_trans hlen n3⟩
    ·cases h
   ·cases h
  ·cases h
theorem Ut:∀{l:jl}{σ σ':St}{c:Ct}{es:mA},aa0 l σ=some (σ',es)->aX P B w0 σ c a w->nZ σ c->zr c.ρ c.ρ σ.nv es->amx P B w0 σ σ' c a w es
 |[],σ,σ',c,es,h,g,hf,_=>by
  simp only[aa0,Option.some.injEq,Prod.mk.injEq]at h
  obtain⟨rfl,rfl⟩:=h
  exact⟨⟨c,.refl c,g,hf,fun x _ h=>⟨x,h⟩⟩,rfl,rfl,Nat.le_refl _⟩
 |r::rs,σ,σ',c,es,h,g,hf,hv=>by
  simp only[aa0]at h
  split at h
  ·rename_i k hk
   split at h
   ·rename_i ho
    simp only[Bool.and_eq_true]at ho
    replace ho:=ho.1
    split at h
    ·rename_i σ2 e2 Z5
     simp only[Option.some.injEq,Prod.mk.injEq]at h
     obtain⟨rfl,rfl⟩:=h
     have g1:=g.aw5 hk ho (e:= .v σ.nv) hv.at
     have g2:aX P B w0 {σ with nv:=σ.nv+1,rows:=σ.rows.set r (some {k with cont:= .v σ.nv})} c a w:=⟨g1.below,g1.hB,g1.defers,g1.size,g1.aZ,g1.aO,g1.rows,g1.apart⟩
     have ih:=Ut Z5 g2 ⟨hf.β,fun q hq=>hf.R q (by simpa using hq)⟩ hv.tail
     obtain⟨⟨c2,X6,g3,hf3,an6⟩,n1,n2,n3⟩:=ih
     simp only[length_set]at n1 n2 n3
     exact⟨⟨c2,X6,g3,hf3,fun x p h=>by
      obtain⟨⟨t,q⟩,hy⟩:=an6 x p h
      cases t
      ·exact⟨(false,q),hy⟩
      ·obtain⟨⟨k2,pJ,ho2⟩,v2,hv2,hp2⟩:=hy
       have pJ:(σ.rows.set r (some {k with cont:= .v σ.nv})).getD q none=some k2:=pJ
       rw[akr _ _ _ _ (aiN hk)]at pJ
       by_cases hq:q=r
       ·subst hq;exact⟨(true,q),⟨k,hk,ho⟩,v2,hv2,hp2⟩
       ·rw[if_neg hq]at pJ;exact⟨(true,q),⟨k2,pJ,ho2⟩,v2,hv2,hp2⟩⟩,by rw[n1];simp;omega,n2,n3⟩
    ·cases h
   ·cases h
  ·cases h
theorem Uu:∀{l:jl}{σ:St},aX P B w0 σ c a w->aX P B w0 (RT l σ) c a w/\(RT l σ).nv=σ.nv/\(RT l σ).rows=σ.rows/\(RT l σ).aO=σ.aO
 |[],_,g=>⟨g,rfl,rfl,rfl⟩
 |t::r,σ,g=>Uu (l:=r) (σ:={σ with aZ:=σ.aZ.set t .top}) (g.apz (t:=t) (sv:= .top) trivial)
theorem Yg (g:aX P B w0 σ c a w) (hf:nZ σ c){h:As}{tm:St}{es:mA} (ht:Wl P h σ=some (tm,es)) (hv:zr c.ρ c.ρ σ.nv es):
 (∃c',c.le c'/\aX P B w0 tm c' a w/\nZ tm c'/\∀x p,tm.owns c' x p->∃y,σ.owns c y p)/\tm.nv=σ.nv+es.length/\tm.aO.length=σ.aO.length/\σ.rows.length<=tm.rows.length/\tm.lv=σ.lv+1:=by
 unfold Wl at ht
 obtain⟨gt,t1,t2,t3⟩:=Uu (l:=h.Wn) g
 have cv:∀x p,(RT h.Wn σ).owns c x p->σ.owns c x p:=fun x p hx=>by
  obtain⟨t,q⟩:=x
  cases t
  ·obtain⟨⟨k,hk⟩,e⟩:=hx
   refine⟨⟨k,?_⟩,e⟩
   unfold St.blk at hk⊢;rw[t3]at hk;exact hk
  ·obtain⟨⟨k,hk,ho⟩,e⟩:=hx
   refine⟨⟨k,?_,ho⟩,e⟩
   unfold St.row at hk⊢;rw[t2]at hk;exact hk
 split at ht
 ·rename_i σ1 e1 h1
  split at ht
  ·rename_i σ2 e2 h2
   split at ht
   ·rename_i σ3 e3 h3
    simp only[Option.some.injEq,Prod.mk.injEq]at ht
    obtain⟨rfl,rfl⟩:=ht
    obtain⟨⟨c1,l1,g1,f1,o1⟩,n1,b1,r1⟩:=Uv h1 gt ⟨fun p hp=>hf.β p (by rw[t3]at hp;exact hp),fun p hp=>hf.R p (by rw[t2]at hp;exact hp)⟩ (by rw[t1];exact hv.left.left)
    rw[t1]at n1
    obtain⟨⟨c2,l2,g2,f2,o2⟩,n2,b2,r2⟩:=QO h2 g1 f1 (by rw[l1.ρ,n1];exact hv.left.right)
    obtain⟨⟨c3,l3,g3,f3,o3⟩,n3,b3,r3⟩:=Ut h3 g2 f2 (by rw[l2.ρ,l1.ρ,n2,n1];have:=hv.right;rw[length_append]at this;rw[Nat.add_assoc];exact this)
    have l:=(l1.trans l2).trans l3
    refine⟨⟨c3,l,⟨g3.below,g3.hB,g3.defers,g3.size,g3.aZ,g3.aO,g3.rows,g3.apart⟩,⟨f3.β,f3.R⟩,fun x p hx=> ?_⟩,?_,?_,?_,rfl⟩
    ·obtain⟨y,hy⟩:=o3 x p hx
     obtain⟨z,hz⟩:=o2 y p hy
     obtain⟨u,hu⟩:=o1 z p hz
     exact⟨u,cv u p hu⟩
    ·show σ3.nv=_;rw[n3,n2,n1];simp;omega
    ·show σ3.aO.length=_;rw[b3,b2,b1,t3]
    ·show _<=σ3.rows.length;rw[t2]at r1;omega
   ·cases ht
  ·cases ht
 ·cases ht
def Q9 (P:Program) (w:World) (ok:lU) (c:Ct):List (Nat×Nat×CK)->aP->Prop
 |[],[]=>True
 |(p,off,k)::r,y::ys=>(∃n ty cs v,c.β p=some n/\w.heap[n]? =some (.cells cs ty (0,0))/\cs.toList[off]? =some v/\rv P w ok (.ck k) v y)/\Q9 P w ok c r ys
 |_,_=>False
theorem afW:∀{l:List (Nat×Nat×CK)}{es:mA}{fr:eJ},Tg P σ l=some (es,fr)->xe σ.row fr
 |[],es,fr,h=>by simp only[Tg,Option.some.injEq,Prod.mk.injEq]at h;rw[<-h.2];exact .nil
 |(p,off,k)::r,es,fr,h=>by
  simp only[Tg]at h
  split at h
  ·split at h
   ·split at h
    ·split at h
     ·rename_i h1 h2
      simp only[Option.some.injEq,Prod.mk.injEq]at h
      rw[<-h.2]
      exact(D3 h1).append (afW h2)
     ·cases h
    ·cases h
   ·cases h
  ·cases h
theorem ZL {σ1:St} (g1:aX P B w0 σ1 c a w) (hb:∀p,σ1.blk p=σ.blk p):∀{l:List (Nat×Nat×CK)}{es:mA}{fr:eJ},Tg P σ l=some (es,fr)->Fz σ.row σ1 fr->Q9 P w (fg B σ1 c) c l (es.map (Ex.ev c.ρ))
 |[],es,fr,h,_=>by simp only[Tg,Option.some.injEq,Prod.mk.injEq]at h;rw[<-h.1];trivial
 |(p,off,k)::r,es,fr,h,hf=>by
  simp only[Tg]at h
  split at h
  ·rename_i b hbk
   split at h
   ·rename_i UE
    split at h
    ·rename_i x hx
     split at h
     ·rename_i e f WY fs h1 h2
      simp only[Option.some.injEq,Prod.mk.injEq]at h
      obtain⟨rfl,rfl⟩:=h
      obtain⟨n,cs,e1,_,e2,e3⟩:=g1.aO p b (by rw[hb];exact hbk)
      rw[dY (eq_of_beq_eq_true UE)]at e2
      obtain⟨v,q1,q2⟩:=N6 e3 hx
      exact⟨⟨n,b.ty,cs.toArray,v,e1,e2,by simpa using q1,oR g1 h1 hf.left q2⟩,ZL g1 hb h2 hf.right⟩
     ·cases h
    ·cases h
   ·cases h
  ·cases h
theorem BR {ok ok':lU}{c':Ct} (h:∀p,ok p->ok' p):∀{l:List (Nat×Nat×CK)}{ys:aP},(∀z∈l,∀n,c.β z.1=some n->c'.β z.1=some n)->Q9 P w ok c l ys->Q9 P w ok' c' l ys
 |[],[],_,_=>trivial
 |(p,off,k)::r,y::ys,hβ,⟨⟨n,ty,cs,v,e1,e2,e3,e4⟩,hr⟩=>⟨⟨n,ty,cs,v,hβ _ (mem_cons_self ..) _ e1,e2,e3,JU (fun p _ _ hp hu=>⟨h p hp,hu⟩) e4⟩,BR h (fun z hz=>hβ z (mem_cons_of_mem _ hz)) hr⟩
 |[],_::_,_,h=>h.elim
 |_::_,[],_,h=>h.elim
theorem Ra {ok:lU}:∀{l:List (Nat×Nat×CK)}{ys:aP},Q9 P w ok c l ys->ys.length=l.length
 |[],[],_=>rfl
 |_::_,_::_,⟨_,h⟩=>by simp[Ra h]
 |[],_::_,h=>h.elim
 |_::_,[],h=>h.elim
theorem Qn:∀{l:List (Nat×Nat×CK)}{σ:St},aX P B w0 σ c a w->aX P B w0 (F8 l σ) c a w/\(F8 l σ).nv=σ.nv/\(F8 l σ).lv=σ.lv/\(F8 l σ).rows=σ.rows/\(F8 l σ).aO.length=σ.aO.length/\(∀x p,(F8 l σ).owns c x p->σ.owns c x p)
 |[],_,g=>⟨g,rfl,rfl,rfl,rfl,fun _ _ h=>h⟩
 |(p,off,k)::r,σ,g=>by
  have g1:aX P B w0 (σ.setCell p off .top) c a w:=g.setCell (fun k hk=>by
   obtain⟨n,cs,e1,e2,e3,e4⟩:=g.aO p k hk
   exact⟨n,cs,e1,e2,e3,e4,fun _ _=>trivial⟩)
  have hm:=DW σ p off .top
  obtain⟨i1,i2,i3,i4,i5,i6⟩:=Qn (l:=r) g1
  exact⟨i1,i2.trans hm.2.2.1,i3.trans hm.2.2.2.1,i4.trans hm.2.1,i5.trans hm.1,fun x p h=>tV x p (i6 x p h)⟩
theorem A9 {ok:lU}:∀{l:List (Nat×Nat×CK)}{σ:St}{c:Ct}{ys:aP},aX P B w0 σ c a w->nZ σ c->(∀p,ok p->fg B σ c p)->Q9 P w ok c l ys->(∀i,i<ys.length->c.ρ.getD (σ.nv+i) (.i 0)=ys.getD i (.i 0))->
 (∃c',c.le c'/\aX P B w0 (kg P l σ) c' a w/\nZ (kg P l σ) c')/\(kg P l σ).nv=σ.nv+l.length/\(kg P l σ).lv=σ.lv/\(kg P l σ).aO.length=σ.aO.length/\σ.rows.length<=(kg P l σ).rows.length
 |[],σ,c,ys,g,hf,_,_,_=>⟨⟨c,.refl c,g,hf⟩,rfl,rfl,rfl,Nat.le_refl _⟩
 |(p,off,k)::r,σ,c,[],_,_,_,h,_=>h.elim
 |(p,off,k)::r,σ,c,y::ys,g,hf,dI,⟨⟨n,ty,cs,v,e1,e2,e3,e4⟩,hr⟩,hy=>by
  have hy1:∀i,i<ys.length->c.ρ.getD (σ.nv+1+i) (.i 0)=ys.getD i (.i 0):=fun i hi=>by
   have:=hy (i+1) (by simp;omega)
   rw[show σ.nv+1+i=σ.nv+(i+1)by omega];simpa using this
  have skip:(∃c',c.le c'/\aX P B w0 (kg P r {σ with nv:=σ.nv+1}) c' a w/\nZ (kg P r {σ with nv:=σ.nv+1}) c')/\(kg P r {σ with nv:=σ.nv+1}).nv=σ.nv+(r.length+1)/\(kg P r {σ with nv:=σ.nv+1}).lv=σ.lv/\(kg P r {σ with nv:=σ.nv+1}).aO.length=σ.aO.length/\σ.rows.length<=(kg P r {σ with nv:=σ.nv+1}).rows.length:=by
   have ih:=A9 (σ:={σ with nv:=σ.nv+1}) (l:=r) (ys:=ys) ⟨g.below,g.hB,g.defers,g.size,g.aZ,g.aO,g.rows,g.apart⟩ ⟨hf.β,hf.R⟩ dI hr hy1
   exact⟨ih.1,by rw[ih.2.1];simp only;omega,ih.2.2.1,ih.2.2.2.1,ih.2.2.2.2⟩
  simp only[kg,length_cons]
  split
  rotate_left
  ·exact skip
  rename_i b hb
  split
  rotate_left
  ·exact skip
  rename_i UE
  have UE:=eq_of_beq_eq_true UE
  have hrw:=KJ (P:=P) σ.rows.length (.v σ.nv) (.ck k)
  obtain⟨c1,q1,q2,q3,q4,q5⟩:=KK (s:= .ck k) (e:= .v σ.nv) g dI (nr:=σ.rows.length) (v:=v) (by
   show rv P w ok (.ck k) v (c.ρ.getD σ.nv (.i 0))
   have:=hy 0 (by simp)
   rw[Nat.add_zero]at this
   rw[this];exact e4) (fun i h1 _=>hf.R i h1)
  have hA:rH P σ.rows.length (.v σ.nv) (.ck k)=ES P σ.rows.length (.v σ.nv) k:=rfl
  rw[hA]at q2 q3 q4 q5 hrw
  generalize ES P σ.rows.length (.v σ.nv) k=O at*
  obtain⟨x,rs,OP⟩:=O
  simp only at q2 q3 q4 q5 hrw⊢
  have g2:aX P B w0 {σ with nv:=σ.nv+1,rows:=aH σ.rows rs} c1 a w:=⟨q4.below,q4.hB,q4.defers,q4.size,q4.aZ,q4.aO,q4.rows,q4.apart⟩
  have g3:aX P B w0 (St.setCell {σ with nv:=σ.nv+1,rows:=aH σ.rows rs} p off x) c1 a w:=g2.setCell (fun k2 pJ=>by
   have pJ:σ.blk p=some k2:=pJ
   rw[hb]at pJ;cases pJ
   obtain⟨n2,cs2,a1,a2,a3,a4⟩:=g.aO p b hb
   rw[e1]at a1;cases a1
   refine⟨n,cs2,q5.le.β _ _ e1,a2,a3,yG q5.le a4,fun v2 hv2=> ?_⟩
   rw[dY UE,e2]at a3
   have:=Option.some.inj a3
   simp only[Obj.cells.injEq]at this
   rw[this.1]at e3
   simp only[]at e3
   rw[e3]at hv2;cases hv2
   exact q3)
  have hm:=DW {σ with nv:=σ.nv+1,rows:=aH σ.rows rs} p off x
  have hf3:nZ (St.setCell {σ with nv:=σ.nv+1,rows:=aH σ.rows rs} p off x) c1:=by
   refine⟨fun q hq=> ?_,fun q hq=> ?_⟩
   ·rw[hm.1]at hq;rw[q1];exact hf.β q hq
   ·rw[hm.2.1]at hq
    have hl:=dP rs σ.rows
    have hq:(aH σ.rows rs).length<=q:=hq
    rw[q2 q ?_]
    ·exact hf.R q (by omega)
    ·by_cases fU:σ.rows.length<=q/\q<OP
     ·obtain⟨z,hz,e⟩:=mem_map.1 ((hrw.2 q).2 fU)
      have:=hl.2 z hz
      omega
     ·omega
  have ih:=A9 (l:=r) (ys:=ys) g3 hf3 (ok:=ok) (fun p' hp=>⟨fun z hz=>(dI p' hp).1 z (q5.owns z p' (tV (τ:={σ with nv:=σ.nv+1,rows:=aH σ.rows rs}) z p' hz)),by rw[q5.le.K];exact(dI p' hp).2⟩) (BR (fun _ h=>h) (fun z _ n e=>by rw[q1];exact e) hr) (by rw[hm.2.2.1,q5.le.ρ];exact hy1)
  obtain⟨⟨c2,l2,g4,f4⟩,n1,n2,n3,n4⟩:=ih
  refine⟨⟨c2,q5.le.trans l2,g4,f4⟩,by rw[n1,hm.2.2.1];simp only;omega,by rw[n2,hm.2.2.2.1],by rw[n3,hm.1],?_⟩
  rw[hm.2.1]at n4
  exact Nat.le_trans (dP _ _).1 n4
theorem ah1 (σ:St) (l:jl):xe σ.row (Yu σ l):=fun q z hz=>by
 unfold Yu at hz
 obtain⟨r,_,hr⟩:=mem_filterMap.1 hz
 cases hk:σ.row r with
 |none=>rw[hk]at hr;cases hr
 |some k=>
  rw[hk]at hr
  simp only[Option.bind_some]at hr
  split at hr
  ·rename_i hp
   simp only[Option.some.injEq,Prod.mk.injEq]at hr
   obtain⟨rfl,rfl⟩:=hr
   exact⟨k,hk,gr hp,rfl⟩
  ·cases hr
theorem Th (g:aX P B w0 σ c a w){h:As}{es:mA}{fr:eJ} (hg:ZQ P h σ=some (es,fr)):
 aX P B w0 (vV h fr σ) c a w/\Q9 P w (fg B (vV h fr σ) c) c h.gcl (es.map (Ex.ev c.ρ))/\(vV h fr σ).nv=σ.nv/\(vV h fr σ).lv=σ.lv/\(vV h fr σ).aO.length=σ.aO.length/\(vV h fr σ).rows=aH σ.rows fr/\(∀x p,(vV h fr σ).owns c x p->St.owns {σ with rows:=aH σ.rows fr} c x p):=by
 unfold ZQ at hg
 cases hh:h.grp.isEmpty with
 |false=>rw[hh]at hg;cases hg
 |true=>
  rw[hh]at hg
  have hg:Tg P σ h.gcl=some (es,fr):=hg
  obtain⟨g1,hfz⟩:=AA g (fun _ _ e=>e) (afW hg)
  have i8:=ZL (σ:=σ) g1 (fun _=>rfl) hg hfz
  obtain⟨i1,i2,i3,i4,i5,i6⟩:=Qn (l:=h.gcl) g1
  exact⟨i1,BR (fun p hp=>⟨fun x hx=>hp.1 x (i6 x p hx),hp.2⟩) (fun _ _ _ e=>e) i8,i2,i3,i5,i4,i6⟩
theorem aaR {ρ:aP}{N:Nx} (hi:Is P B w0 c0 c σ ρ N a w){h:As}{tm:St}{NL:mA} (ht:template P h σ=some (tm,NL)) (hu:σ.under=true) (avO:NL.all (·.under σ.nv)=true):
 ∃c1,c.sub c1/\c1.ρ=ρ++NL.map (Ex.ev ρ)/\aX P B w0 (pS P h tm) c1 a w/\nZ (pS P h tm) c1/\(pS P h tm).lv=σ.lv+1/\(pS P h tm).nv=σ.nv+NL.length/\tm.aO.length=σ.aO.length/\σ.rows.length<=tm.rows.length:=by
 have EH:=hi.env
 subst EH
 have X4:∀i,i<σ.nv->(c.ρ++NL.map (Ex.ev c.ρ)).getD i (.i 0)=c.ρ.getD i (.i 0):=fun i h=>bj _ _ _ _ (by rw[<-hi.nv];exact h)
 have g0:=hi.dD.env hu X4
 have acJ:zr (c.ρ++NL.map (Ex.ev c.ρ)) (c.ρ++NL.map (Ex.ev c.ρ)) σ.nv NL:=fun i e he=>by
  have ME:e.under σ.nv=true:=all_eq_true.1 avO e (mem_of_getElem? he)
  rw[Ex.cg X4 ME,hi.nv,getD_eq_getElem?_getD,getElem?_append_right (by omega),Nat.add_sub_cancel_left,getElem?_map,he]
  rfl
 unfold template at ht
 split at ht
 rotate_left
 ·cases ht
 rename_i eg fr hg
 split at ht
 rotate_left
 ·cases ht
 rename_i tm' es ht0
 simp only[Option.some.injEq,Prod.mk.injEq]at ht
 obtain⟨rfl,rfl⟩:=ht
 have g1:=(AA g0 (fun _ _ e=>e) (ah1 σ h.frz)).1
 obtain⟨g2,i8,n1,n2,n3,n4,_⟩:=Th (σ:=W5 σ h.frz) g1 hg
 have hlen:σ.rows.length<=(vV h fr (W5 σ h.frz)).rows.length:=by
  rw[n4]
  exact Nat.le_trans (dP (Yu σ h.frz) σ.rows).1 (dP _ _).1
 have n1:(vV h fr (W5 σ h.frz)).nv=σ.nv:=n1
 have n2:(vV h fr (W5 σ h.frz)).lv=σ.lv:=n2
 have n3:(vV h fr (W5 σ h.frz)).aO.length=σ.aO.length:=n3
 obtain⟨⟨c1,l1,g3,f3,o3⟩,m1,m2,m3,m4⟩:=Yg g2 ⟨fun q hq=>hi.fresh.β q (by rw[n3]at hq;exact hq),fun q hq=>hi.fresh.R q (by omega)⟩ ht0 (by rw[n1];exact acJ.left)
 obtain⟨⟨c2,l2,g4,f4⟩,k1,k2,k3,k4⟩:=A9 (l:=h.gcl) (ok:=fg B (vV h fr (W5 σ h.frz)) {c with ρ:=c.ρ++(es++eg).map (Ex.ev c.ρ)}) g3 f3 (fun p hp=>⟨fun x hx=>by
  obtain⟨y,hy⟩:=o3 x p hx
  exact hp.1 y hy,by rw[l1.K];exact hp.2⟩) (BR (fun _ h=>h) (fun z _=>l1.β z.1) i8) (fun i bN=>by
  rw[m1,n1,l1.ρ]
  have bN:i<eg.length:=by simpa using bN
  have:=acJ.right i eg[i] (getElem?_eq_getElem bN)
  show(c.ρ++(es++eg).map (Ex.ev c.ρ)).getD _ _=_
  rw[this,getD_eq_getElem?_getD,getElem?_map,getElem?_eq_getElem bN];rfl)
 have l:=l1.trans l2
 have hgl:=Ra i8
 simp only[length_map]at hgl
 exact⟨c2,⟨l.K,l.β,l.R⟩,l.ρ,g4,f4,by show(kg P h.gcl tm').lv=_;rw[k2,m4,n2],by show(kg P h.gcl tm').nv=_;rw[k1,m1,n1];simp;omega,by rw[m2,n3],by omega⟩
end
open Go.RowKit
section
variable {P:Program}{B:mC}{w0:World}{tm σ:St}{c c0 c2:Ct}{a:Act}{w:World}{nv nb nr:Nat}
structure Cut (c2 c:Ct) (nv nb nr:Nat):Prop where
 ρ:∀i,i<nv->c2.ρ.getD i (.i 0)=c.ρ.getD i (.i 0)
 β:∀p,p<nb->c2.β p=c.β p
 R:∀r,r<nr->c2.R r=c.R r
theorem Cp {a b:Nat} (h:blt a b=true):a<b:=by
 have:(a+1).ble b=true:=h
 exact le_of_ble_eq_true this
theorem At.Gp (hc:Cut c2 c nv nb nr){x:At} (hu:x.under nv=true) (hb:x.Jf nb nr=true){v:Value} (h:x.rel c v):x.rel c2 v:=by
 unfold At.Jf at hb
 simp only[Bool.and_eq_true]at hb
 obtain⟨b1,b2⟩:=hb
 have Ae:∀e:Ex,e.under nv=true->e.ev c2.ρ=e.ev c.ρ:=fun e he=>Ex.cg hc.ρ he
 cases x<;>simp only[At.rel,At.under,Bool.and_eq_true]at hu h⊢
 case int k e=>rw[Ae _ hu];exact h
 case bool e=>rw[Ae _ hu];exact h
 case str e=>rw[Ae _ hu];exact h
 case ptr p off=>rw[hc.β p (Cp (by simpa[At.JV]using b2))];exact h
 case pel r es ix off=>rw[Ae _ hu,hc.R r (Cp b1)];exact h
 case vec r=>rw[hc.R r (Cp b1)];exact h
 case sl r es lo len=>rw[Ae _ hu.1,Ae _ hu.2,hc.R r (Cp b1)];exact h
 case fn f mR=>
  obtain⟨ns,e,rfl⟩:=h
  refine⟨ns,?_,rfl⟩
  rw[<-e]
  refine map_congr_left fun p hp=>hc.β p (Cp (all_eq_true.1 b2 p hp))
 case keys n e=>rw[Ae _ hu];exact h
 case mp b=>rw[hc.β b (Cp (by simpa[At.JV]using b2))];exact h
 case bs b lo m=>rw[hc.β b (Cp (by simpa[At.JV]using b2))];exact h
 case fb f m b=>rw[hc.β b (Cp (by simpa[At.JV]using b2))];exact h
 case sp b=>rw[hc.β b (Cp (by simpa[At.JV]using b2))];exact h
 all_goals exact h
theorem agK (hc:Cut c2 c nv nb nr):∀{xs:qE}{vs:dm},xs.all (·.under nv)=true->xs.all (·.Jf nb nr)=true->fp c xs vs->fp c2 xs vs
 |[],[],_,_,_=>trivial
 |x::xs,v::vs,h1,h2,h=>by
  simp only[all_cons,Bool.and_eq_true]at h1 h2
  exact⟨At.Gp hc h1.1 h2.1 h.1,agK hc h1.2 h2.2 h.2⟩
 |[],_::_,_,_,h=>h.elim
 |_::_,[],_,_,h=>h.elim
theorem SC.Gp (hc:Cut c2 c nv nb nr){x:SC} (hu:x.under nv=true) (hb:x.atoms.all (·.Jf nb nr)=true){v:Value} (h:x.rel c v):x.rel c2 v:=by
 cases x with
 |a x=>simp only[SC.atoms,all_cons,all_nil,Bool.and_true]at hb;exact At.Gp hc hu hb h
 |g xs=>obtain⟨vs,e,r⟩:=h;exact⟨vs,e,agK hc hu hb r⟩
theorem agI (hc:Cut c2 c nv nb nr):∀{xs:List SC}{vs:dm},xs.all (·.under nv)=true->(xs.flatMap SC.atoms).all (·.Jf nb nr)=true->Pz c xs vs->Pz c2 xs vs
 |[],[],_,_,_=>trivial
 |x::xs,v::vs,h1,h2,h=>by
  simp only[all_cons,Bool.and_eq_true,flatMap_cons,all_append]at h1 h2
  exact⟨SC.Gp hc h1.1 h2.1 h.1,agI hc h1.2 h2.2 h.2⟩
 |[],_::_,_,_,h=>h.elim
 |_::_,[],_,_,h=>h.elim
theorem SV.Gp (hc:Cut c2 c nv nb nr){x:SV} (hu:x.under nv=true) (hb:x.atoms.all (·.Jf nb nr)=true){v:Value} (h:x.rel c v):x.rel c2 v:=by
 cases x with
 |c x=>exact SC.Gp hc hu hb h
 |t xs=>obtain⟨vs,e,r⟩:=h;exact⟨vs,e,agI hc hu hb r⟩
 |nx e p ch=>
  simp only[SV.under,Bool.and_eq_true]at hu
  simp only[SV.rel]at h⊢
  rw[Ex.cg hc.ρ hu.1.1,Ex.cg hc.ρ hu.1.2,Ex.cg hc.ρ hu.2];exact h
theorem agd (hc:Cut c2 c nv nb nr){x y:At} (hk:aeu nv nb nr x y=true){v:Value} (h:y.rel c v):x.rel c2 v:=by
 unfold aeu at hk
 simp only[Bool.and_eq_true]at hk
 exact At.Gp hc hk.1.2 hk.2 (At.Hq hk.1.1 h)
theorem age (hc:Cut c2 c nv nb nr){x y:SV} (hk:aev nv nb nr x y=true){v:Value} (h:y.rel c v):x.rel c2 v:=by
 unfold aev at hk
 simp only[Bool.and_eq_true]at hk
 obtain⟨⟨k1,k2⟩,k3⟩:=hk
 exact SV.Gp hc k2 k3 (SV.Hq k1 h)
def ajn (tm σ:St) (ρ2 ρ:aP) (nr:Nat) (z:Nat×Nat):Prop:=
 ∃w0 w1 m,tm.row z.1=some w0/\σ.row z.2=some w1/\w1.own=true/\w0.own=true/\w1.el=w0.el/\w1.ks=w0.ks/\w1.agg=w0.agg/\w0.cont= .v m/\ρ2.getD m (.i 0)=w1.cont.ev ρ/\(w1.plain=true/\w0.plain=true)/\nr<=z.1
theorem aaX {m:Nat}{x y:At}{es:mA}{qs:List (Nat×Nat)} (h:Oq tm.rows σ.rows nr m x y=some (es,qs)){ρ2 ρ:aP} (hv:zr ρ2 ρ m es):∀z∈qs,ajn tm σ ρ2 ρ nr z:=by
 unfold Oq at h
 split at h<;>(try(split at h<;>(try split at h)<;>(try cases h)<;>(intro z hz;cases hz);done))
 ·rename_i r
  split at h
  ·rename_i w1 hw1
   split at h
   ·rename_i q
    split at h
    ·rename_i w0' FE
     split at h
     ·rename_i hc
      cases h
      intro z hz
      simp only[mem_singleton]at hz
      subst hz
      obtain⟨h1,h2,h3,h4,h5,h6,h6p,h6q,h7⟩:=hc
      exact⟨w0',w1,m,FE,hw1,h1,h2,h3,h4,h5,Ex.fX h6,hv.at,⟨h6p,h6q⟩,h7⟩
     ·cases h
    ·cases h
   ·split at h<;>cases h
    intro z hz;cases hz
   ·cases h
  ·cases h
 all_goals cases h
theorem aaY (g:aX P B w0 σ c a w) (hR:∀r,r<nr->c2.R r=c.R r){m:Nat}{x y:At}{es:mA}{qs:List (Nat×Nat)} (h:Oq tm.rows σ.rows nr m x y=some (es,qs)) (hv:zr c2.ρ c.ρ m es)
 (hn:∀z∈qs,c2.R z.1=c.R z.2){v:Value} (hy:y.rel c v):x.rel c2 v:=by
 unfold Oq at h
 split at h
 ·split at h
  ·split at h
   ·rename_i hc
    cases h
    obtain⟨rfl,rfl⟩:=hc
    have hy:v=_:=hy
    rw[hy];show _=Value.int _ (c2.ρ.getD _ (.i 0)).int;rw[hv.at]
   ·cases h
  ·cases h
 ·split at h
  ·split at h
   ·rename_i hc
    cases h
    subst hc
    have hy:v=_:=hy
    rw[hy];show _=Value.bool (c2.ρ.getD _ (.i 0)).bool;rw[hv.at]
   ·cases h
  ·cases h
 ·split at h
  ·split at h
   ·rename_i hc
    cases h
    subst hc
    have hy:v=_:=hy
    rw[hy];show _=Value.string (c2.ρ.getD _ (.i 0)).str;rw[hv.at]
   ·cases h
  ·cases h
 ·rename_i r
  split at h
  ·rename_i w1 hw1
   split at h
   ·rename_i q
    split at h
    ·split at h
     ·cases h
      have:=hn (q,r) (by simp)
      exact⟨this.trans hy.1,hy.2⟩
     ·cases h
    ·cases h
   ·split at h
    ·rename_i hc
     cases h
     obtain⟨rfl,rfl,dI,rfl,rfl,fU⟩:=hc
     simp only[Bool.and_eq_true]at dI
     refine ade g hw1 dI.1 dI.2 hy.1 ((hR _ fU).trans hy.1) ?_ ?_
     ·show(c2.ρ.getD _ (.i 0)).int=0;rw[hv.at];rfl
     ·show(c2.ρ.getD _ (.i 0)).int=_;rw[hv.at1,kR];rfl
    ·cases h
   ·cases h
  ·cases h
 ·rename_i r WY lo len
  split at h
  ·split at h
   ·rename_i hc
    cases h
    obtain⟨rfl,rfl,rfl,rfl,fU⟩:=hc
    rename_i j'
    have e1:(Ex.v j').ev c2.ρ=lo.ev c.ρ:=hv.at
    have e2:(Ex.v (j'+1)).ev c2.ρ=len.ev c.ρ:=hv.at1
    simp only[At.rel,e1,e2,hR _ fU]at hy⊢
    exact hy
   ·cases h
  ·cases h
 ·split at h
  ·split at h
   ·rename_i hc
    cases h
    obtain⟨rfl,rfl⟩:=hc
    have hy:v=_:=hy
    rw[hy];show _=Value.tuple (((c2.ρ.getD _ (.i 0)).list).map _).toArray;rw[hv.at]
   ·cases h
  ·cases h
 ·cases h
theorem WR {ρ2 ρ:aP}:∀{l:List (Nat×Nat)}{m:Nat}{es:mA}{qs:List (Nat×Nat)},Zf tm σ nr m l=some (es,qs)->zr ρ2 ρ m es->
 (∀z∈qs,ajn tm σ ρ2 ρ nr z)/\∀t∈l,∃x y e q m',tm.slot t.1= .c (.a x)/\σ.slot t.1= .c (.a y)/\Oq tm.rows σ.rows nr m' x y=some (e,q)/\zr ρ2 ρ m' e/\∀z∈q,z∈qs
 |[],m,es,qs,h,_=>by
  simp only[Zf,Option.some.injEq,Prod.mk.injEq]at h
  obtain⟨rfl,rfl⟩:=h
  exact⟨fun z hz=>(by cases hz),fun t ht=>(by cases ht)⟩
 |(t,el)::r,m,es,qs,h,hv=>by
  simp only[Zf]at h
  split at h
  ·rename_i x y hx hy
   split at h
   ·rename_i e q hb
    split at h
    ·rename_i WY qs' Z5
     simp only[Option.some.injEq,Prod.mk.injEq]at h
     obtain⟨rfl,rfl⟩:=h
     obtain⟨i1,i2⟩:=WR Z5 hv.right
     refine⟨fun z hz=>(mem_append.1 hz).elim (aaX hb hv.left z) (i1 z),fun u hu=> ?_⟩
     rcases mem_cons.1 hu with rfl|hu
     ·exact⟨x,y,e,q,m,ahB hx,ahB hy,hb,hv.left,fun z hz=>mem_append_left _ hz⟩
     ·obtain⟨x',y',e',q',m',j1,j2,j3,j4,j5⟩:=i2 u hu
      exact⟨x',y',e',q',m',j1,j2,j3,j4,fun z hz=>mem_append_right _ (j5 z hz)⟩
    ·cases h
   ·cases h
  ·cases h
theorem SK {ρ2 ρ:aP}:∀{l:List (Nat×Nat×Nat)}{m:Nat}{es:mA}{qs:List (Nat×Nat)},SJ tm σ nr m l=some (es,qs)->zr ρ2 ρ m es->
 (∀z∈qs,ajn tm σ ρ2 ρ nr z)/\∀t∈l,∃x y e q m',tm.cellAt t.1 t.2.1=some x/\σ.cellAt t.1 t.2.1=some y/\Oq tm.rows σ.rows nr m' x y=some (e,q)/\zr ρ2 ρ m' e/\∀z∈q,z∈qs
 |[],m,es,qs,h,_=>by
  simp only[SJ,Option.some.injEq,Prod.mk.injEq]at h
  obtain⟨rfl,rfl⟩:=h
  exact⟨fun z hz=>(by cases hz),fun t ht=>(by cases ht)⟩
 |(p,off,el)::r,m,es,qs,h,hv=>by
  simp only[SJ]at h
  split at h
  ·rename_i x y hx hy
   split at h
   ·rename_i e q hb
    split at h
    ·rename_i WY qs' Z5
     simp only[Option.some.injEq,Prod.mk.injEq]at h
     obtain⟨rfl,rfl⟩:=h
     obtain⟨i1,i2⟩:=SK Z5 hv.right
     refine⟨fun z hz=>(mem_append.1 hz).elim (aaX hb hv.left z) (i1 z),fun u hu=> ?_⟩
     rcases mem_cons.1 hu with rfl|hu
     ·exact⟨x,y,e,q,m,hx,hy,hb,hv.left,fun z hz=>mem_append_left _ hz⟩
     ·obtain⟨x',y',e',q',m',j1,j2,j3,j4,j5⟩:=i2 u hu
      exact⟨x',y',e',q',m',j1,j2,j3,j4,fun z hz=>mem_append_right _ (j5 z hz)⟩
    ·cases h
   ·cases h
  ·cases h
theorem WQ {ρ2 ρ:aP}:∀{l:jl}{m:Nat}{es:mA},ads tm σ m l=some es->zr ρ2 ρ m es->
 ∀r∈l,∃w0 w1 m',tm.row r=some w0/\σ.row r=some w1/\w1.own=true/\w0.own=true/\w1.el=w0.el/\w1.ks=w0.ks/\w1.agg=w0.agg/\w0.cont= .v m'/\ρ2.getD m' (.i 0)=w1.cont.ev ρ/\w1.plain=true/\w0.plain=true
 |[],m,es,h,_=>fun r hr=>by cases hr
 |r::rr,m,es,h,hv=>by
  simp only[ads]at h
  split at h
  ·rename_i w0' w1 hx hy
   split at h
   ·rename_i hc
    obtain⟨h1,h2,h3,h4,h5,h6,h6p,h6q⟩:=hc
    split at h
    ·rename_i WY Z5
     cases h
     intro u hu
     rcases mem_cons.1 hu with rfl|hu
     ·exact⟨w0',w1,m,hx,hy,h1,h2,h3,h4,h5,Ex.fX h6,hv.at,h6p,h6q⟩
     ·exact WQ Z5 hv.tail u hu
    ·cases h
   ·cases h
  ·cases h
theorem NT {h:As}:∀{xs ys:List SV}{n:Nat},D6 h nv nb nr n xs ys=true->xs.length=ys.length/\∀t,t<xs.length->(∃u∈h.vars,u.1=n+t)\/aev nv nb nr (xs.getD t .top) (ys.getD t .top)=true
 |[],[],n,_=>⟨rfl,fun t ht=>by cases ht⟩
 |x::xs,y::ys,n,hk=>by
  simp only[D6,Bool.and_eq_true,Bool.or_eq_true,any_eq_true]at hk
  obtain⟨i1,i2⟩:=NT hk.2
  refine⟨by simp[i1],fun t ht=> ?_⟩
  cases t with
  |zero=>
   refine hk.1.imp (fun⟨u,hu,e⟩=>⟨u,hu,eq_of_beq_eq_true e⟩) (fun h=> ?_)
   simpa using h
  |succ t=>
   refine(i2 t (by simpa using ht)).imp (fun⟨u,hu,e⟩=>⟨u,hu,by omega⟩) (fun h=> ?_)
   simpa using h
 |[],_::_,_,hk=>by simp[D6]at hk
 |_::_,[],_,hk=>by simp[D6]at hk
theorem NR {cells:List (Nat×Nat×Nat)}{p:Nat}:∀{xs ys:qE}{n:Nat},AF cells nv nb nr p n xs ys=true->∀{P:Nat->At->Value->Prop}{vs:dm},fp c ys vs->
 (∀(j:Nat) (x y:At) (v:Value),xs[j]? =some x->ys[j]? =some y->(aox cells p (n+j)=true\/aeu nv nb nr x y=true)->y.rel c v->P j x v)->vs.length=xs.length/\∀(j:Nat) (x:At) (v:Value),xs[j]? =some x->vs[j]? =some v->P j x v
 |[],[],n,_,P,[],_,_=>⟨rfl,fun j x v h=>by simp at h⟩
 |x::xs,y::ys,n,hk,P,v::vs,hr,hP=>by
  simp only[AF,Bool.and_eq_true,Bool.or_eq_true]at hk
  obtain⟨i1,i2⟩:=NR (n:=n+1) hk.2 (P:=fun j x v=>P (j+1) x v) hr.2 (fun j x y v h1 h2 h3 h4=>hP (j+1) x y v (by simpa using h1) (by simpa using h2) (by rw[show n+(j+1)=n+1+j by omega];exact h3) h4)
  refine⟨by simp[i1],fun j u z hu hz=> ?_⟩
  cases j with
  |zero=>simp at hu hz;subst hu hz;exact hP 0 x y v rfl rfl hk.1 hr.1
  |succ j=>exact i2 j u z (by simpa using hu) (by simpa using hz)
 |[],[],_,_,_,_::_,hr,_=>hr.elim
 |_::_,_::_,_,_,_,[],hr,_=>hr.elim
 |[],_::_,_,hk,_,_,_,_=>by simp[AF]at hk
 |_::_,[],_,hk,_,_,_,_=>by simp[AF]at hk
theorem akk:∀{xs:qE}{vs:dm},vs.length=xs.length->(∀(j:Nat) (x:At) (v:Value),xs[j]? =some x->vs[j]? =some v->x.rel c v)->fp c xs vs
 |[],[],_,_=>trivial
 |x::xs,v::vs,hl,h=>⟨h 0 x v rfl rfl,akk (by simpa using hl) (fun j x v h1 h2=>h (j+1) x v (by simpa using h1) (by simpa using h2))⟩
 |[],_::_,hl,_=>by simp at hl
 |_::_,[],hl,_=>by simp at hl
theorem Bf {h:As}:∀{l:List (Option Bk)}{p:Nat},NQ h nv nb nr σ p l=true->∀q k,l.getD q none=some k->∃k',σ.blk (p+q)=some k'/\k.ty=k'.ty/\k.kd=k'.kd/\AF h.cells nv nb nr (p+q) 0 k.cells k'.cells=true
 |[],p,_,q,k,hq=>by simp at hq
 |none::l,p,hk,q,k,hq=>by
  cases q with
  |zero=>simp at hq
  |succ q=>
   have:=Bf (p:=p+1) hk q k (by simpa using hq)
   rw[show p+(q+1)=p+1+q by omega];exact this
 |some k0::l,p,hk,q,k,hq=>by
  simp only[NQ,Bool.and_eq_true]at hk
  cases q with
  |zero=>
   simp at hq;subst hq
   have h1:=hk.1
   split at h1
   ·rename_i k' mi
    simp only[Bool.and_eq_true]at h1
    exact⟨k',mi,eq_of_beq_eq_true h1.1.1,eq_of_beq_eq_true h1.1.2,h1.2⟩
   ·cases h1
  |succ q=>
   have:=Bf (p:=p+1) hk.2 q k (by simpa using hq)
   rw[show p+(q+1)=p+1+q by omega];exact this
theorem Hp {h:As}{news:List (Nat×Nat)}:∀{l:List (Option Rw)}{r:Nat},NS h nv nr σ news r l=true->∀q k,l.getD q none=some k->
 (r+q<nr/\((r+q)∈h.rows\/∃k',σ.row (r+q)=some k'/\k.same k'=true/\k.cont.under nv=true/\k.Wo nv=true/\∀ix off q,k.hole=some (ix,off,q)->q<nr))\/(nr<=r+q/\∃z∈news,z.1=r+q)
 |[],p,_,q,k,hq=>by simp at hq
 |none::l,p,hk,q,k,hq=>by
  cases q with
  |zero=>simp at hq
  |succ q=>
   have:=Hp (r:=p+1) hk q k (by simpa using hq)
   rw[show p+(q+1)=p+1+q by omega];exact this
 |some k0::l,p,hk,q,k,hq=>by
  simp only[NS,Bool.and_eq_true]at hk
  cases q with
  |zero=>
   simp at hq;subst hq
   have h1:=hk.1
   split at h1
   ·rename_i fU
    simp only[Bool.or_eq_true]at h1
    refine .inl ⟨by simpa using fU,h1.imp pV.1 fun h=> ?_⟩
    split at h
    ·rename_i k' mi
     simp only[Bool.and_eq_true]at h
     refine⟨k',mi,h.1.1.1,h.1.1.2,h.1.2,fun ix off q hh=> ?_⟩
     have:=h.2
     rw[hh]at this
     exact Cp this
    ·cases h
   ·rename_i fU
    obtain⟨z,hz,e⟩:=any_eq_true.1 h1
    exact .inr ⟨by simpa using fU,z,hz,eq_of_beq_eq_true e⟩
  |succ q=>
   have:=Hp (r:=p+1) hk.2 q k (by simpa using hq)
   rw[show p+(q+1)=p+1+q by omega];exact this
theorem T6:∀{l:List (Option Rw)}{r:Nat} (q:Nat) (k:Rw),l.getD q none=some k->k.own=true->r+q<nr->(r+q)∈YB nr r l
 |[],_,q,k,hq,_,_=>by simp at hq
 |x::l,r,q,k,hq,ho,fU=>by
  simp only[YB,mem_append]
  cases q with
  |zero=>
   simp at hq;subst hq
   left
   simp only[Nat.add_zero]at fU⊢
   simp[ho,fU]
  |succ q=>
   right
   rw[show r+(q+1)=r+1+q by omega]
   exact T6 q k (by simpa using hq) ho (by omega)
theorem af5 {x y:Option (Ex×Nat×Nat)} (h:Z1 x y=true):x=y:=by
 unfold Z1 at h
 split at h
 ·rfl
 ·simp only[Bool.and_eq_true]at h
  rw[Ex.fX h.1.1,eq_of_beq h.1.2,eq_of_beq h.2]
 ·cases h
theorem Rw.fX {k k':Rw} (h:k.same k'=true):k=k':=by
 unfold Rw.same at h
 simp only[Bool.and_eq_true,decide_eq_true_eq]at h
 obtain⟨⟨⟨⟨⟨h1,h2⟩,h3⟩,h4⟩,h5⟩,h6⟩:=h
 cases k;cases k'
 simp only at h1 h2 h3 h4 h5 h6
 have h6:=af5 h6
 have h1:=eq_of_beq h1
 have h3:=eq_of_beq h3
 have h5:=eq_of_beq h5
 have h4:=Ex.fX h4
 subst h1 h2 h3 h4 h5 h6;rfl
def AM (news:List (Nat×Nat)) (nr r:Nat):Option Nat:=if r<nr then some r else(news.find? fun z=>Nat.beq z.1 r).map (·.2)
theorem afR:∀{news:List (Nat×Nat)},(news.map (·.1)).Nodup->∀z∈news,(news.find? fun y=>Nat.beq y.1 z.1)=some z
 |[],_,z,hz=>by cases hz
 |y::l,hd,z,hz=>by
  simp only[map_cons,nodup_cons]at hd
  simp only[find?_cons]
  by_cases he:y.1=z.1
  ·rcases mem_cons.1 hz with rfl|hz
   ·simp
   ·exact(hd.1 (mem_map.2 ⟨z,hz,he.symm⟩)).elim
  ·have:Nat.beq y.1 z.1=false:=by
    cases hb:Nat.beq y.1 z.1
    ·rfl
    ·exact absurd (eq_of_beq_eq_true hb) he
   rw[this]
   rcases mem_cons.1 hz with rfl|hz
   ·exact absurd rfl he
   ·exact afR hd.2 z hz
end
open Go.RowKit
theorem QB {α:Type}{f:α->Nat}:∀{l:List α},(l.map f).Nodup->∀{x y:α},x∈l->y∈l->f x=f y->x=y
 |[],_,_,_,hx,_,_=>by cases hx
 |z::l,hd,x,y,hx,hy,e=>by
  simp only[map_cons,nodup_cons]at hd
  rcases mem_cons.1 hx with h1|h1<;>rcases mem_cons.1 hy with h2|h2
  ·rw[h1,h2]
  ·exact(hd.1 (mem_map.2 ⟨y,h2,by rw[<-e,h1]⟩)).elim
  ·exact(hd.1 (mem_map.2 ⟨x,h1,by rw[e,h2]⟩)).elim
  ·exact QB hd.2 h1 h2 e
section
variable {P:Program}{B:mC}{w0:World}{tm σ:St}{c c0 c':Ct}{a:Act}{w:World}
theorem afm {h:As}{nr:Nat}{fY:mA}{ρ x:aP} (extra:aP) (hb:amN h ρ.length nr tm σ=some fY) (g:aX P B w0 σ c' a w) (EH:c'.ρ=ρ++x) (Cz:c.sub c'){σ0:St} (hf:nZ σ0 c) (hb0:σ0.aO.length=tm.aO.length) (Af:σ0.rows.length=nr):
 ∃c2,c.sub c2/\c2.ρ=ρ++(fY.map (Ex.ev c'.ρ)++extra)/\aX P B w0 tm c2 a w/\nZ tm c2/\ρ.length+fY.length=tm.nv/\(∀y p,tm.owns c2 y p->∃z,σ.owns c' z p)/\(∀p,p<tm.aO.length->c2.β p=c'.β p)/\c2.K=c'.K:=by
 unfold amN at hb
 split at hb
 rotate_left
 ·cases hb
 rename_i e1 r1 hb1
 split at hb
 rotate_left
 ·cases hb
 rename_i e2 r2 Rr
 split at hb
 rotate_left
 ·cases hb
 rename_i e3 hb3
 split at hb
 rotate_left
 ·cases hb
 rename_i hk
 cases hb
 simp only[Bool.and_eq_true,keeps]at hk
 obtain⟨⟨⟨⟨⟨⟨k1,k2⟩,k3⟩,k4⟩,k5⟩,k6⟩,k7⟩:=hk
 have hlen:=eq_of_beq_eq_true k6
 have hnr:=le_of_ble_eq_true k7
 have d1:=wF k4
 have d2:=wF k5
 generalize BZ:r1++r2=news at*
 generalize aoq:ρ++((e1++e2++e3).map (Ex.ev c'.ρ)++extra)=ρ2
 have acJ:zr ρ2 c'.ρ ρ.length (e1++e2++e3):=fun i e he=>by
  rw[<-aoq,getD_eq_getElem?_getD,getElem?_append_right (by omega),Nat.add_sub_cancel_left,getElem?_append_left (by rw[length_map];exact(List.getElem?_eq_some_iff.1 he).1),getElem?_map,he]
  rfl
 obtain⟨n1,v1⟩:=WR hb1 acJ.left.left
 obtain⟨n2,v2⟩:=SK Rr acJ.left.right
 have v3:=WQ hb3 (by have:=acJ.right;rw[length_append]at this;exact this)
 have an1:∀z∈news,ajn tm σ ρ2 c'.ρ nr z:=fun z hz=>by
  rw[<-BZ]at hz
  exact(mem_append.1 hz).elim (n1 z) (n2 z)
 let c2:Ct:=⟨ρ2,fun p=>if p<tm.aO.length then c'.β p else none,fun r=>(AM news nr r).bind c'.R,c'.K⟩
 have apB:∀r,r<nr->AM news nr r=some r:=fun r hr=>by unfold AM;rw[if_pos hr]
 have apC:∀z∈news,AM news nr z.1=some z.2:=fun z hz=>by
  obtain⟨_,_,_,_,_,_,_,_,_,_,_,_,_,hge⟩:=an1 z hz
  unfold AM
  rw[if_neg (by omega),afR d1 z hz];rfl
 have hR:∀r,r<nr->c2.R r=c'.R r:=fun r hr=>by show(AM news nr r).bind c'.R=_;rw[apB r hr];rfl
 have hRn:∀z∈news,c2.R z.1=c'.R z.2:=fun z hz=>by show(AM news nr z.1).bind c'.R=_;rw[apC z hz];rfl
 have hβ:∀p,p<tm.aO.length->c2.β p=c'.β p:=fun p hp=>by show(if p<tm.aO.length then c'.β p else none)=_;rw[if_pos hp]
 have arC:Cut c2 c' ρ.length tm.aO.length nr:=⟨fun i hi=>by
  show ρ2.getD i (.i 0)=_
  rw[<-aoq,EH,bj _ _ _ _ hi,bj _ _ _ _ hi],hβ,hR⟩
 have hq1:∀z∈r1,c2.R z.1=c'.R z.2:=fun z hz=>hRn z (by rw[<-BZ];exact mem_append_left _ hz)
 have hq2:∀z∈r2,c2.R z.1=c'.R z.2:=fun z hz=>hRn z (by rw[<-BZ];exact mem_append_right _ hz)
 obtain⟨sl,aA2⟩:=NT k1
 have aue:∀r k,tm.row r=some k->∃r',AM news nr r=some r'/\((∃k',σ.row r'=some k'/\k'.own=true/\k.own=true/\k'.el=k.el/\k'.ks=k.ks/\k'.agg=k.agg/\k.cont.ev ρ2=k'.cont.ev c'.ρ/\k'.plain=true/\k.plain=true)\/(σ.row r'=some k/\k.cont.ev ρ2=k.cont.ev c'.ρ/\∀ix off q,k.hole=some (ix,off,q)->q<nr/\ix.ev ρ2=ix.ev c'.ρ))/\((r<nr/\r'=r)\/∃z∈news,z.1=r/\z.2=r'):=fun r k hk=>by
  have:=Hp k3 r k hk
  rw[Nat.zero_add]at this
  rcases this with⟨fU,hm|⟨k',mi,hs,hu,huH,hqn⟩⟩|⟨hge,z,hz,e⟩
  ·obtain⟨w0',w1,m',a1,a2,a3,a4,a5,a6,a7,a8,a9,ap,aq⟩:=v3 r hm
   rw[hk]at a1;cases a1
   exact⟨r,apB r fU,.inl ⟨w1,a2,a3,a4,a5,a6,a7,by rw[a8];exact a9,ap,aq⟩,.inl ⟨fU,rfl⟩⟩
  ·have:=Rw.fX hs
   subst this
   exact⟨r,apB r fU,.inr ⟨mi,Ex.cg arC.ρ hu,fun ix off q hh=>⟨hqn ix off q hh,Ex.cg arC.ρ (by unfold Rw.Wo at huH;rw[hh]at huH;exact huH)⟩⟩,.inl ⟨fU,rfl⟩⟩
  ·subst e
   obtain⟨w0',w1,m',a1,a2,a3,a4,a5,a6,a7,a8,a9,⟨ap,aq⟩,a10⟩:=an1 z hz
   rw[hk]at a1;cases a1
   exact⟨z.2,apC z hz,.inl ⟨w1,a2,a3,a4,a5,a6,a7,by rw[a8];exact a9,ap,aq⟩,.inr ⟨z,hz,rfl,rfl⟩⟩
 have jq:∀y p,tm.owns c2 y p->∃y',σ.owns c' y' p/\y'.1=y.1/\(y.1=false->y'.2=y.2)/\(y.1=true->(∃k,tm.row y.2=some k/\k.own=true)/\((y.2<nr/\y'.2=y.2)\/∃z∈news,z.1=y.2/\z.2=y'.2)):=by
  rintro⟨t,q⟩ p h
  cases t
  ·obtain⟨⟨k,hk⟩,e⟩:=h
   have hkb:=Bf k2 q k hk
   rw[Nat.zero_add]at hkb
   obtain⟨k',mi,_⟩:=hkb
   have e:(if q<tm.aO.length then c'.β q else none)=some p:=e
   refine⟨(false,q),⟨⟨k',mi⟩,?_⟩,rfl,fun _=>rfl,fun h=>by cases h⟩
   split at e
   ·exact e
   ·cases e
  ·obtain⟨⟨k,hk,ho⟩,v,e,hp⟩:=h
   obtain⟨r',VQ,pc,jW⟩:=aue q k hk
   have e:(AM news nr q).bind c'.R=some v:=e
   rw[VQ]at e
   refine⟨(true,r'),⟨?_,v,e,hp⟩,rfl,(fun h=>by cases h),fun _=>⟨⟨k,hk,ho⟩,jW⟩⟩
   rcases pc with⟨k',mi,ho',_⟩|⟨mi,_⟩
   ·exact⟨k',mi,ho'⟩
   ·exact⟨k,mi,ho⟩
 refine⟨c2,⟨Cz.K,fun i n e=> ?_,fun i v e=> ?_⟩,rfl,⟨g.below,g.hB,g.defers,by rw[sl];exact g.size,fun t=> ?_,fun p k hp=> ?_,fun r k hk=> ?_,fun y z p hy hz=> ?_⟩,⟨fun p hp=> ?_,fun r hr=> ?_⟩,hlen,fun y p hy=>by
  obtain⟨y',hy',_⟩:=jq y p hy
  exact⟨y',hy'⟩,hβ,rfl⟩
 ·have fU:i<tm.aO.length:=by
   rcases Nat.lt_or_ge i tm.aO.length with h|h
   ·exact h
   ·rw[hf.β i (by omega)]at e;cases e
  rw[hβ i fU];exact Cz.β i n e
 ·have fU:i<nr:=by
   rcases Nat.lt_or_ge i nr with h|h
   ·exact h
   ·rw[hf.R i (by omega)]at e;cases e
  rw[hR i fU];exact Cz.R i v e
 ·by_cases ht:t<tm.aZ.length
  ·rcases aA2 t ht with⟨u,hu,e⟩|azN
   ·obtain⟨x',y',e',q',m',j1,j2,j3,j4,j5⟩:=v1 u hu
    rw[Nat.zero_add]at e
    rw[e]at j1 j2
    have hs:=g.aZ t
    rw[j2]at hs
    rw[j1]
    exact aaY g hR j3 j4 (fun z hz=>hq1 z (j5 z hz)) hs
   ·exact age arC azN (g.aZ t)
  ·rw[Od (Nat.le_of_not_lt ht)];trivial
 ·have hkb:=Bf k2 p k hp
  rw[Nat.zero_add]at hkb
  obtain⟨k',mi,Z9,UE,VO⟩:=hkb
  obtain⟨n,cs,e,h1,h2,h3⟩:=g.aO p k' mi
  have aDR:p<tm.aO.length:=by
   rcases Nat.lt_or_ge p tm.aO.length with h|h
   ·exact h
   ·exfalso
    have:tm.blk p=none:=by unfold St.blk;simp[getD_eq_getElem?_getD,getElem?_eq_none h]
    rw[this]at hp;cases hp
  refine⟨n,cs,by rw[hβ p aDR];exact e,h1,by rw[h2];unfold wX;rw[Z9,UE],?_⟩
  obtain⟨l1,l2⟩:=NR VO (P:=fun _ x v=>x.rel c2 v) h3 (fun j x y v hx hy hor i8=>by
   rcases hor with hc|azO
   ·obtain⟨t,ht,e⟩:=any_eq_true.1 hc
    simp only[Bool.and_eq_true]at e
    have t1:=eq_of_beq_eq_true e.1
    have t2:=eq_of_beq_eq_true e.2
    rw[Nat.zero_add]at t2
    obtain⟨x',y',e',q',m',j1,j2,j3,j4,j5⟩:=v2 t ht
    rw[t1,t2]at j1 j2
    unfold St.cellAt at j1 j2
    rw[hp]at j1
    rw[mi]at j2
    have j1:k.cells[j]? =some x':=j1
    have j2:k'.cells[j]? =some y':=j2
    rw[hx]at j1;cases j1
    rw[hy]at j2;cases j2
    exact aaY g hR j3 j4 (fun z hz=>hq2 z (j5 z hz)) i8
   ·exact agd arC azO i8)
  exact akk l1 l2
 ·obtain⟨r',VQ,pc,_⟩:=aue r k hk
  have Pl:c2.R r=c'.R r':=by show(AM news nr r).bind c'.R=_;rw[VQ];rfl
  have dI:∀p o u,fg B σ c' p->w.cell? ⟨p,o,none⟩=some u->fg B tm c2 p/\w.cell? ⟨p,o,none⟩=some u:=fun p o u hp hu=>⟨⟨fun y hy=>by
   obtain⟨y',hy',_⟩:=jq y p hy
   exact hp.1 y' hy',hp.2⟩,hu⟩
  rcases pc with⟨k',mi,ho',ho,f1,f2,f3,Ae,hp1,hp2⟩|⟨mi,Ae,anR⟩
  ·obtain⟨v,e,D,ad,n,cap,rfl,h0,h1,h2,h3,h4,h5,h6⟩:=g.rows r' k' mi
   have Ae:k.cont.ev c2.ρ=k'.cont.ev c'.ρ:=Ae
   refine⟨_,Pl.trans e,D,ad,n,cap,rfl,by rw[Ae];exact h0,h1,h2,h3,fun _=> ?_,(fun h=>by rw[ho]at h;cases h),fun x hx i k2 pJ=> ?_⟩
   ·rcases h4 ho' with hz|⟨hz,hb⟩
    ·exact .inl hz
    ·exact .inr ⟨.of (gr hp2) (by rw[<-f1,<-f2,<-f3];exact hz.plain (gr hp1)),hb⟩
   ·rw[<-f2]at pJ;rw[<-f3];exact(h6 x hx i k2 pJ).mono dI
  ·obtain⟨v,e,qq⟩:=g.rows r' k mi
   have Ae:k.cont.ev c2.ρ=k.cont.ev c'.ρ:=Ae
   refine⟨v,Pl.trans e,qq.mono dI (fun _ _ _ _=>rfl) (by rw[Ae]) (fun n l H hH=> ?_)⟩
   unfold tG at hH⊢
   split
   ·rename_i hh;rw[hh]at hH;exact hH
   ·rename_i ix off q hh
    rw[hh]at hH
    obtain⟨hq,hix⟩:=anR ix off q hh
    have hix:ix.ev c2.ρ=ix.ev c'.ρ:=hix
    simp only[hR q hq,hix]
    exact hH
 ·obtain⟨y',hy',y1,y2,y3⟩:=jq y p hy
  obtain⟨z',hz',z1,z2,z3⟩:=jq z p hz
  have:=g.apart y' z' p hy' hz'
  subst this
  have az9:y.1=z.1:=y1.symm.trans z1
  obtain⟨ty,qy⟩:=y
  obtain⟨tz,qz⟩:=z
  simp only at az9 y2 y3 z2 z3
  subst az9
  cases ty
  ·rw[<-y2 rfl,<-z2 rfl]
  ·obtain⟨⟨ky,hky,hoy⟩,py⟩:=y3 rfl
   obtain⟨⟨kz,hkz,hoz⟩,pz⟩:=z3 rfl
   have cv:∀q k,tm.row q=some k->k.own=true->q<nr->∀z∈news,z.2≠q:=fun q k hq ho fU z hz e=>by
    have m1:=T6 (r:=0) (nr:=nr) q k hq ho (by omega)
    rw[Nat.zero_add]at m1
    exact(nodup_append.1 d2).2.2 z.2 (mem_map_of_mem hz) q m1 e
   rcases py with⟨ly,ey⟩|⟨zy,my,ey,fy⟩<;>rcases pz with⟨lz,ez⟩|⟨zz,mz,ez,fz⟩
   ·rw[<-ey,<-ez]
   ·exact(cv qy ky hky hoy ly zz mz (fz.trans ey)).elim
   ·exact(cv qz kz hkz hoz lz zy my (fy.trans ez)).elim
   ·have:=QB (nodup_append.1 d2).1 my mz (fy.trans fz.symm)
    subst this
    rw[<-ey,<-ez]
 ·show(if p<tm.aO.length then c'.β p else none)=none
  rw[if_neg (by omega)]
 ·show(AM news nr r).bind c'.R=none
  have:AM news nr r=none:=by
   unfold AM
   rw[if_neg (by omega)]
   cases hfd:news.find? fun z=>Nat.beq z.1 r with
   |none=>rfl
   |some z=>
    have hz:=mem_of_find?_eq_some hfd
    have he:z.1=r:=eq_of_beq_eq_true (by simpa using find?_some hfd)
    obtain⟨w0',_,_,a1,_⟩:=an1 z hz
    have:=aiN a1
    omega
  rw[this];rfl
theorem Zm (g:aX P B w0 σ c a w){r:Nat}{σ':St} (h:Zl P σ r=some σ'):aX P B w0 σ' c a w/\σ'.aO=σ.aO/\σ'.aZ=σ.aZ/\σ'.nv=σ.nv:=by
 unfold Zl at h
 split at h
 rotate_left
 ·cases h
 rename_i k hk
 split at h
 rotate_left
 ·cases h;exact⟨g,rfl,rfl,rfl⟩
 rename_i ix off q anR
 split at h
 rotate_left
 ·cases h
 rename_i hc
 simp only[Bool.and_eq_true]at hc
 obtain⟨cv,EJ⟩:=hc
 split at h
 rotate_left
 ·cases h
 rename_i e fr he
 split at h
 rotate_left
 ·cases h
 rename_i af2
 cases h
 refine⟨?_,rfl,rfl,rfl⟩
 have af2:r∉fr.map (·.1):=fun hm=>by
  obtain⟨z,hz,ez⟩:=mem_map.1 hm
  have:=all_eq_true.1 af2 z hz
  rw[ez,beq_refl]at this;cases this
 obtain⟨dI,jW⟩:=jp EJ
 have hfo:=(OB he).1
 obtain⟨g1,hfz⟩:=AA g (fun _ _ h=>h) hfo
 have hk1:St.row {σ with rows:=aH σ.rows fr} r=some k:=by
  obtain⟨_,h2⟩:=aX.Yt g (fr:=fr) hfo
  rw[h2 r k hk,if_neg af2]
 obtain⟨v,hR,D,ad,n,cap,rfl,d0,h1,h2,h3,h4,_,h6⟩:=g1.rows r k hk1
 have hc:(fun i=>if i=r then some (Value.slice ad n cap)else c.R i)=c.R:=by
  funext i
  by_cases h:i=r
  ·subst h;simp[hR]
  ·simp[h]
 have fin:∀D':aP,((TV .Yh k.cont ix e).ev c.ρ).er= .l (mS D')->D'.length=n->(cap=0\/w.ownsRow 0 k.el k.ks.length (.slice ad n cap) n (aE k.agg k.ks D'))->(∀x∈D',lW P w (fg B {σ with rows:=aH σ.rows fr} c) k.agg k.ks x)->
  aX P B w0 {σ with rows:=aH σ.rows (fr++[(r,some {k with cont:=TV .Yh k.cont ix e,hole:=none})])} c a w:=fun D' q1 q2 q3 q4=>by
  have gg:=g1.K8 hk1 cv hR (w':=w) (World.grownBy.refl _ _) (r':=r) (k':={k with cont:=TV .Yh k.cont ix e,hole:=none}) cv rfl (D:=D') (ad:=ad) (n:=n) (cap:=cap) q1 q2 h2 h3 q3 (.inl rfl) (.inr ⟨rfl,rfl⟩) q4
  rw[hc]at gg
  simp only[D8]at gg
  rw[<-KQ]at gg
  exact gg
 have aui:((TV .Yh k.cont ix e).ev c.ρ)=Sc.l ((k.cont.ev c.ρ).list.set (ix.ev c.ρ).int.toNat (e.ev c.ρ)):=by rw[Hs];rfl
 rcases h4 cv with hz|⟨⟨H,hw,i8⟩,hbp⟩
 ·have hD:D=[]:=length_eq_zero_iff.1 (by omega)
  subst hD
  refine fin [] ?_ h1 (.inl hz) (fun x hx=>by cases hx)
  have hl:=iI d0
  have:(k.cont.ev c.ρ).list=[]:=by
   have:=o9 hl
   exact length_eq_zero_iff.1 (by rw[<-this];rfl)
  rw[aui,this]
  exact sk []
 unfold tG at i8
 rw[anR]at i8
 obtain⟨u,hu,aD9,i0,i1,ab2,hH⟩:=i8
 have NK:(k.elem ix).ev c.ρ=(k.cont.ev c.ρ).list.getD (ix.ev c.ρ).int.toNat (.i 0):=by unfold Rw.elem;rw[bP];rfl
 have hd0:(D.getD (ix.ev c.ρ).int.toNat (.i 0)).er=((k.elem ix).ev c.ρ).er:=by rw[NK];exact Yp (iI d0) _
 have Pv:D.getD (ix.ev c.ρ).int.toNat (.i 0)∈D:=by
  rw[getD_eq_getElem?_getD,getElem?_eq_getElem (by omega)];exact getElem_mem _
 obtain⟨d,hd,hdf,hdc,hdl⟩:=WX g1 he hfz (vs:=[u]) ⟨⟨hu,aD9⟩,trivial⟩ hd0 (h6 _ Pv)
 generalize hi:(ix.ev c.ρ).int.toNat=i at*
 have hil:i<D.length:=by omega
 have Mn:=eC dI (D.getD i (.i 0))
 have TF:=Nv dI D i (D.getD i (.i 0)) hil
 have aoe:D.set i (D.getD i (.i 0))=D:=by
  rw[getD_eq_getElem?_getD,getElem?_eq_getElem hil]
  simp
 rw[aoe]at TF
 have aia:=Nv dI D i d hil
 have EI:=bS dI D
 rw[h1]at EI
 have aHr:i*k.ks.length+k.ks.length<=n*k.ks.length:=by rw[<-succ_mul];exact mul_le_mul_right _ (by omega)
 have hAl:((aE k.agg k.ks D).take (i*k.ks.length)).length=i*k.ks.length:=by rw[length_take,EI];omega
 have aog:=ac3 ((aE k.agg k.ks D).take (i*k.ks.length)) (cY k.agg k.ks (D.getD i (.i 0))) ((aE k.agg k.ks D).drop (i*k.ks.length+k.ks.length)) [u] off hdl
 rw[<-TF,hAl,<-hdc,<-aia]at aog
 have Pw:(aE k.agg k.ks D).set (i*k.ks.length+off) u=(aE k.agg k.ks D).take (i*k.ks.length+off)++[u]++(aE k.agg k.ks D).drop (i*k.ks.length+off+1):=by
  rw[set_eq_take_append_cons_drop,if_pos (by rw[EI];omega)];simp
 refine fin (D.set i d) ?_ (by rw[length_set];exact h1) (.inr ?_) (fun x hx=>by
  rcases mem_or_eq_of_mem_set hx with hx|rfl
  ·exact h6 x hx
  ·exact hdf)
 ·rw[aui,sk,Yq,Yq,<-iI d0,hd]
 ·have:H=aE k.agg k.ks (D.set i d):=by
   rw[hH,Pw,<-aog,Nat.add_assoc];rfl
  rw[<-this];exact hw
theorem LE:∀{l:jl}{σ σ':St},Ia P l σ=some σ'->aX P B w0 σ c a w->aX P B w0 σ' c a w
 |[],σ,σ',h,g=>by simp only[Ia,Option.some.injEq]at h;rw[<-h];exact g
 |r::rs,σ,σ',h,g=>by
  simp only[Ia]at h
  split at h
  ·rename_i σ1 h1
   exact LE h (Zm g h1).1
  ·cases h
theorem ahD {h:As}{nr:Nat}{fY:mA}{ρ x:aP} (hb:back P h ρ.length nr tm σ=some fY) (g:aX P B w0 σ c' a w) (EH:c'.ρ=ρ++x) (Cz:c.sub c'){σ0:St} (hf:nZ σ0 c) (hb0:σ0.aO.length=tm.aO.length) (Af:σ0.rows.length=nr):
 ∃c2,c.sub c2/\c2.ρ=ρ++fY.map (Ex.ev c'.ρ)/\aX P B w0 (pS P h tm) c2 a w/\nZ (pS P h tm) c2/\ρ.length+fY.length=(pS P h tm).nv:=by
 unfold back at hb
 split at hb
 ·cases hb
 rename_i σ1 Mn
 have g1:=LE Mn g
 split at hb
 rotate_left
 ·cases hb
 rename_i eg fr hg
 have hg:(h.gcl.all fun x=>blt x.1 tm.aO.length)=true/\ZQ P h σ1=some (eg,fr):=by
  cases hh:(h.gcl.all fun x=>blt x.1 tm.aO.length)with
  |true=>rw[hh]at hg;exact⟨rfl,hg⟩
  |false=>rw[hh]at hg;cases hg
 obtain⟨fU,hg⟩:=hg
 split at hb
 rotate_left
 ·cases hb
 rename_i es hb1
 cases hb
 obtain⟨g2,i8,_⟩:=Th g1 hg
 obtain⟨c2,s1,s2,g3,f3,n1,o3,b3,k3⟩:=afm (eg.map (Ex.ev c'.ρ)) hb1 g2 EH Cz hf hb0 Af
 obtain⟨⟨c4,l4,g4,f4⟩,m1,_,_,_⟩:=A9 (l:=h.gcl) g3 f3 (ok:=fg B (vV h fr σ1) c') (fun p hp=>⟨fun x hx=>by
  obtain⟨y,hy⟩:=o3 x p hx
  exact hp.1 y hy,by rw[k3];exact hp.2⟩) (BR (fun _ h=>h) (fun z hz n e=>by rw[b3 z.1 (Cp (all_eq_true.1 fU z hz))];exact e) i8) (fun i hi=>by
  have bN:i<eg.length:=by simpa using hi
  rw[s2,<-n1,<-append_assoc,getD_eq_getElem?_getD,getElem?_append_right (by simp)]
  rw[getD_eq_getElem?_getD]
  congr 2
  simp)
 have hgl:=Ra i8
 simp only[length_map]at hgl
 refine⟨c4,s1.trans l4.sub,by rw[l4.ρ,s2,map_append],g4,f4,?_⟩
 show _=(kg P h.gcl tm).nv
 rw[m1,<-n1];simp;omega
end
end
section
open Go.RowKit
theorem T.JW {Γ:Nat->fF}{L M:Type}:∀{t:T L}{f:L->T M}{ρ:aP}{N:Nx}{Φ:M->aP->Nx->Prop},t.wp Γ ρ N (fun x ρ' N'=>(f x).wp Γ ρ' N' Φ)->(t.bind f).wp Γ ρ N Φ
 | .aa x,f,ρ,N,Φ,h=>h
 | .fail _,_,_,_,_,h=>h
 | .ite c p q,f,ρ,N,Φ,h=>by
   simp only[T.wp,T.bind]at h⊢
   split
   ·rename_i hc;rw[if_pos hc]at h;exact T.JW h
   ·rename_i hc;rw[if_neg hc]at h;exact T.JW h
 | .ag c t,f,ρ,N,Φ,h=>⟨h.1,T.JW h.2⟩
 | .call g es n t,f,ρ,N,Φ,⟨rs,h1,h2,h3⟩=>⟨rs,h1,h2,T.JW h3⟩
 | .loop NL t,f,ρ,N,Φ,⟨I,μ,h1,h2⟩=>⟨I,μ,h1,fun fY hl hI=>T.JW (h2 fY hl hI)⟩
 | .next l vs,_,_,_,_,h=>h
def Xt.axv:Xt->Exit| .norm=> .normal| .exit n=> .exit n| .ret=> .ret
section
variable {B:mC}{w0:World}{Γ:Nat->fF}{X:Cx}
theorem agr {c:Ct}{e:Ex}{x y:SV}{v:Value} (h:if(e.ev c.ρ).bool=true then x.rel c v else y.rel c v):(aeE e x y).rel c v:=by
 unfold aeE
 cases h1:x.le y
 ·cases h2:y.le x
  ·simp only[cond_false]
   split
   ·rename_i p q
    show v= .bool (U3.ev .ite (e.ev c.ρ) (p.ev c.ρ) (q.ev c.ρ)).bool
    simp only[U3.ev]
    split at h
    ·rename_i hc;rw[if_pos hc];exact h
    ·rename_i hc;rw[if_neg hc];exact h
   ·rename_i k p k' q
    split
    ·rename_i hk
     subst hk
     show v= .int k (U3.ev .ite (e.ev c.ρ) (p.ev c.ρ) (q.ev c.ρ)).int
     simp only[U3.ev]
     split at h
     ·rename_i hc;rw[if_pos hc];exact h
     ·rename_i hc;rw[if_neg hc];exact h
    ·trivial
   ·trivial
  ·simp only[cond_false,cond_true]
   split at h
   ·exact SV.Hq h2 h
   ·exact h
 ·simp only[cond_true]
  split at h
  ·exact h
  ·exact SV.Hq h1 h
theorem aam {e:Ex}:∀{xs ys zs:List SV},aeD e xs ys=some zs->zs.length=xs.length/\zs.length=ys.length/\∀(c:Ct) (t:Nat) (v:Value),(if(e.ev c.ρ).bool=true then(xs.getD t .top).rel c v else(ys.getD t .top).rel c v)->(zs.getD t .top).rel c v
 |[],[],zs,h=>by
  cases h
  exact⟨rfl,rfl,fun c t v _=>by simp only[getD_nil];trivial⟩
 |x::xs,y::ys,zs,h=>by
  unfold aeD at h
  split at h
  ·rename_i r hr
   cases h
   obtain⟨i1,i2,i3⟩:=aam hr
   refine⟨by simp[i1],by simp[i2],fun c t v hv=> ?_⟩
   cases t with
   |zero=>exact agr hv
   |succ t=>exact i3 c t v hv
  ·cases h
 |[],_::_,_,h=>by cases h
 |_::_,[],_,h=>by cases h
theorem aaA:∀{xs ys:qE},YF xs ys=true->xs=ys
 |[],[],_=>rfl
 |x::xs,y::ys,h=>by
  simp only[YF,Bool.and_eq_true]at h
  rw[At.fX h.1,aaA h.2]
 |[],_::_,h=>by cases h
 |_::_,[],h=>by cases h
theorem Ob:∀{xs ys:List (Option Bk)},EY xs ys=true->xs=ys
 |[],[],_=>rfl
 |none::xs,none::ys,h=>by rw[Ob (xs:=xs) (ys:=ys) h]
 |some a::xs,some b::ys,h=>by
  simp only[EY,Bool.and_eq_true]at h
  obtain⟨⟨⟨h1,h4⟩,h2⟩,h3⟩:=h
  obtain⟨ac,at_,ak⟩:=a
  obtain⟨bc,bt,bk⟩:=b
  have h1:=eq_of_beq_eq_true h1
  have h4:=eq_of_beq_eq_true h4
  have h2:=aaA h2
  simp only at h1 h2 h4
  rw[h1,h2,h4,Ob h3]
 |[],_::_,h=>by simp[EY]at h
 |_::_,[],h=>by simp[EY]at h
 |none::_,some _::_,h=>by cases h
 |some _::_,none::_,h=>by cases h
theorem Oc:∀{xs ys:List (Option Rw)},EZ xs ys=true->xs=ys
 |[],[],_=>rfl
 |none::xs,none::ys,h=>by rw[Oc (xs:=xs) (ys:=ys) h]
 |some a::xs,some b::ys,h=>by
  simp only[EZ,Bool.and_eq_true]at h
  rw[Rw.fX h.1,Oc h.2]
 |[],_::_,h=>by simp[EZ]at h
 |_::_,[],h=>by simp[EZ]at h
 |none::_,some _::_,h=>by cases h
 |some _::_,none::_,h=>by cases h
def MF (ρ:aP) (N:Nx) (σ' σm:St):Prop:=∀P B w0 c0 c a w,Is P B w0 c0 c σ' ρ N a w->Is P B w0 c0 c σm ρ N a w
theorem aan {e:Ex}{x y m:St} (h:aeF e x y=some m) (ρ:aP) (N:Nx):if(e.ev ρ).bool=true then MF ρ N x m else MF ρ N y m:=by
 unfold aeF at h
 split at h
 rotate_left
 ·cases h
 rename_i hc
 simp only[Bool.and_eq_true]at hc
 obtain⟨⟨⟨h1,h2⟩,h3⟩,h4⟩:=hc
 replace h1:=eq_of_beq_eq_true h1
 replace h2:=eq_of_beq_eq_true h2
 replace h3:=Ob h3
 replace h4:=Oc h4
 split at h
 rotate_left
 ·cases h
 rename_i s hs
 cases h
 obtain⟨l1,l2,hr⟩:=aam hs
 obtain⟨xn,xl,xs,xb,xr⟩:=x
 obtain⟨yn,yl,ys,yb,yr⟩:=y
 simp only at h1 h2 h3 h4 hs l1 l2 hr
 subst h1 h2 h3 h4
 split
 ·rename_i hb
  intro P B w0 c0 c a w hi
  refine⟨hi.sub,hi.env,⟨hi.dD.below,hi.dD.hB,hi.dD.defers,by simp only[l1];exact hi.dD.size,fun t=>hr c t _ ?_,hi.dD.aO,hi.dD.rows,hi.dD.apart⟩,⟨hi.fresh.β,hi.fresh.R⟩,hi.nv,hi.lv⟩
  rw[hi.env,if_pos hb];exact hi.dD.aZ t
 ·rename_i hb
  intro P B w0 c0 c a w hi
  refine⟨hi.sub,hi.env,⟨hi.dD.below,hi.dD.hB,hi.dD.defers,by simp only[l2];exact hi.dD.size,fun t=>hr c t _ ?_,hi.dD.aO,hi.dD.rows,hi.dD.apart⟩,⟨hi.fresh.β,hi.fresh.R⟩,hi.nv,hi.lv⟩
  rw[hi.env,if_neg hb];exact hi.dD.aZ t
theorem ahf {Γ:Nat->fF}{ρ:aP}{N:Nx}{a m:St} (hc:MF ρ N a m){t:T St} (h:t.wp Γ ρ N (fun σ' ρ' N'=>ρ'=ρ/\N'=N/\MF ρ N σ' a)):t.wp Γ ρ N (fun σ' ρ' N'=>ρ'=ρ/\N'=N/\MF ρ N σ' m):=
 T.wp_mono h (fun _ _ _ hx=>⟨hx.1,hx.2.1,fun P B w0 c0 c a' w hi=>hc P B w0 c0 c a' w (hx.2.2 P B w0 c0 c a' w hi)⟩)
theorem aix {Γ:Nat->fF}{ρ:aP}{N:Nx}:∀{t:T St}{σm:St},t.mrg=some σm->t.wp Γ ρ N (fun σ' ρ' N'=>ρ'=ρ/\N'=N/\MF ρ N σ' σm)
 | .aa σ,σm,h=>by
   cases h
   exact⟨rfl,rfl,fun _ _ _ _ _ _ _ hi=>hi⟩
 | .ite c p q,σm,h=>by
   unfold T.mrg at h
   split at h
   ·rename_i a b ha hb
    have hc:=aan h ρ N
    simp only[T.wp]
    split
    ·rename_i Ml
     rw[if_pos Ml]at hc
     exact ahf hc (aix ha)
    ·rename_i Ml
     rw[if_neg Ml]at hc
     exact ahf hc (aix hb)
   ·cases h
 | .fail _,_,h=>by cases h
 | .ag _ _,_,h=>by cases h
 | .call _ _ _ _,_,h=>by cases h
 | .loop _ _,_,h=>by cases h
 | .next _ _,_,h=>by cases h
theorem aaC {σ:St}{t:Nat}{e:Ex}{b:Bool}{ρ:aP}{N:Nx} (hs:σ.slot t= .c (.a (.bool e))) (hb:(e.ev ρ).bool=b):MF ρ N σ {σ with aZ:=σ.aZ.set t (.at (.bool (.b b)))}:=by
 intro P B w0 c0 c a w hi
 obtain⟨xn,xl,xs,xb,xr⟩:=σ
 refine⟨hi.sub,hi.env,⟨hi.dD.below,hi.dD.hB,hi.dD.defers,by simp only[length_set];exact hi.dD.size,fun q=> ?_,hi.dD.aO,hi.dD.rows,hi.dD.apart⟩,⟨hi.fresh.β,hi.fresh.R⟩,hi.nv,hi.lv⟩
 have h1:=hi.dD.aZ q
 by_cases hq:q=t
 ·subst hq
  have hv:a.tmps.getD q undef= .bool (e.ev c.ρ).bool:=by rw[hs]at h1;exact h1
  by_cases hl:q<xs.length
  ·have:St.slot {nv:=xn,lv:=xl,aZ:=xs.set q (.at (.bool (.b b))),aO:=xb,rows:=xr} q= .at (.bool (.b b)):=by
    simp[St.slot,getD_eq_getElem?_getD,hl]
   rw[this]
   show a.tmps.getD q undef= .bool b
   rw[hv,hi.env,hb]
  ·have:St.slot {nv:=xn,lv:=xl,aZ:=xs.set q (.at (.bool (.b b))),aO:=xb,rows:=xr} q= .top:=by
    simp[St.slot,getD_eq_getElem?_getD,hl]
   rw[this]
   trivial
 ·have:St.slot {nv:=xn,lv:=xl,aZ:=xs.set t (.at (.bool (.b b))),aO:=xb,rows:=xr} q=St.slot {nv:=xn,lv:=xl,aZ:=xs,aO:=xb,rows:=xr} q:=by
   simp[St.slot,getD_eq_getElem?_getD,Ne.symm hq]
  rw[this]
  exact h1
theorem aiL {L:Type}{Γ:Nat->fF}{ops:iu}{n:Nat}{σ:St}{k:St->T L}{ρ:aP}{N:Nx}{Φ:L->aP->Nx->Prop} (h:(YE ops n σ k).wp Γ ρ N Φ):∃σ',MF ρ N σ σ'/\(k σ').wp Γ ρ N Φ:=by
 unfold YE at h
 split at h
 rotate_left
 ·exact⟨σ,fun _ _ _ _ _ _ _ hi=>hi,h⟩
 split at h
 ·exact⟨σ,fun _ _ _ _ _ _ _ hi=>hi,h⟩
 ·rename_i hs
  simp only[T.wp]at h
  split at h
  ·rename_i hb
   exact⟨_,aaC hs hb,h⟩
  ·rename_i hb
   exact⟨_,aaC (b:=false) hs (by simpa using hb),h⟩
 ·exact⟨σ,fun _ _ _ _ _ _ _ hi=>hi,h⟩
theorem aaB (hX:X.ok Γ B w0){inl:Inl} (Kv:YP X Γ B w0 inl){ops:iu}:∀(ms:jl) (rest:iu) (n:Nat) (σ:St) (ρ:aP) (N:Nx) (Φ:St->aP->Nx->Prop) (c0 c:Ct) (a:Act) (w:World) (Q:Exit->Act->World->Prop),
 (apM X inl ops ms rest n σ).wp Γ ρ N Φ->Is X.P B w0 c0 c σ ρ N a w->(∀σ' r n c' a' w',Φ σ' (ρ++r) (N++n)->Is X.P B w0 c0 c' σ' (ρ++r) (N++n) a' w'->Q .normal a' w')->wpList X.P ops.toArray Q rest a w
 |[],rest,n,σ,ρ,N,Φ,c0,c,a,w,Q,h,hi,hQ=>Wb hX Kv rest n σ ρ N Φ c0 c a w Q h hi hQ
 |m::ms,rest,n,σ,ρ,N,Φ,c0,c,a,w,Q,h,hi,hQ=>by
  unfold apM at h
  have key:∀σ' r n' c' a' w',(YE ops (n+m-1) σ' (apM X inl ops ms (rest.drop m) (n+m))).wp Γ (ρ++r) (N++n') Φ->Is X.P B w0 c0 c' σ' (ρ++r) (N++n') a' w'->wpList X.P ops.toArray Q (rest.drop m) a' w':=by
   intro σ' r n' c' a' w' h1 uS
   obtain⟨σ2,hc,h2⟩:=aiL h1
   exact aaB hX Kv ms (rest.drop m) (n+m) σ2 (ρ++r) (N++n') Φ c0 c' a' w' Q h2 (hc _ _ _ _ _ _ _ uS) (fun σ3 r3 n3 c3 a3 w3 hΦ azL=>by
    rw[append_assoc,append_assoc]at hΦ azL
    exact hQ σ3 (r++r3) (n'++n3) c3 a3 w3 hΦ azL)
  have af7:=take_append_drop m rest
  rw[<-af7]
  unfold aoS at h
  split at h
  ·rename_i σm hm
   refine OU hX Kv (rest.take m) (rest.drop m) n σ ρ N _ c0 c a w Q (aix (Γ:=Γ) (ρ:=ρ) (N:=N) hm) hi (fun σ' r n c' a' w' hΦ uS=> ?_)
   obtain⟨e1,e2,X2⟩:=hΦ
   have e1:r=[]:=append_cancel_left (by rw[e1,append_nil])
   have e2:n=[]:=append_cancel_left (by rw[e2,append_nil])
   subst e1;subst e2
   have hI:=X2 X.P B w0 c0 c' a' w' (by simpa using uS)
   exact key σm [] [] c' a' w' (by simpa[T.bind,T.wp]using h) (by simpa using hI)
  ·exact OU hX Kv (rest.take m) (rest.drop m) n σ ρ N _ c0 c a w Q (T.wp_bind h) hi (fun σ' r n c' a' w' hΦ uS=>key σ' r n c' a' w' hΦ uS)
def YJ (P:Program) (B:mC) (w0:World) (Φ:Xt×St->aP->Nx->Prop) (c0:Ct) (ρ:aP) (N:Nx) (Q:Exit->Act->World->Prop):Prop:=
 ∀e σ' r n c' a' w',Φ (e,σ') (ρ++r) (N++n)->Is P B w0 c0 c' σ' (ρ++r) (N++n) a' w'->Q e.axv a' w'
theorem YJ.ext {P:Program}{Φ:Xt×St->aP->Nx->Prop}{c0:Ct}{ρ:aP}{N:Nx}{Q:Exit->Act->World->Prop} (h:YJ P B w0 Φ c0 ρ N Q) (r:aP) (n:Nx):YJ P B w0 Φ c0 (ρ++r) (N++n) Q:=fun e σ' r' n' c' a' w' hΦ hi=>by
 rw[append_assoc,append_assoc]at hΦ hi
 exact h e σ' _ _ c' a' w' hΦ hi
theorem YJ.sub {P:Program}{Φ:Xt×St->aP->Nx->Prop}{c0 c:Ct}{ρ:aP}{N:Nx}{Q:Exit->Act->World->Prop} (h:YJ P B w0 Φ c0 ρ N Q) (hs:c0.sub c):YJ P B w0 Φ c ρ N Q:=fun e σ' r n c' a' w' hΦ hi=>
 h e σ' r n c' a' w' hΦ ⟨hs.trans hi.sub,hi.env,hi.dD,hi.fresh,hi.nv,hi.lv⟩
theorem ahU (hX:X.ok Γ B w0){inl:Inl} (Kv:YP X Γ B w0 inl) (fk:Nat):∀(code:Code) (σ:St) (ρ:aP) (N:Nx) (Φ:Xt×St->aP->Nx->Prop) (c0 c:Ct) (a:Act) (w:World) (Q:Exit->Act->World->Prop),
 (exec X inl fk code σ).wp Γ ρ N Φ->Is X.P B w0 c0 c σ ρ N a w->YJ X.P B w0 Φ c0 ρ N Q->code.wp X.P Q a w:=by
 intro code
 induction code with
 |skip=>
  intro σ ρ N Φ c0 c a w Q h hi hQ
  refine wp_skip ?_
  have:=hQ .norm σ [] [] c a w
  simp only[append_nil]at this
  exact this h hi
 |exit id=>
  intro σ ρ N Φ c0 c a w Q h hi hQ
  refine wp_exit ?_
  have:=hQ (.exit id) σ [] [] c a w
  simp only[append_nil]at this
  exact this h hi
 |ret=>
  intro σ ρ N Φ c0 c a w Q h hi hQ
  refine wp_ret ?_
  have:=hQ .ret σ [] [] c a w
  simp only[append_nil]at this
  exact this h hi
 |region id ops draw=>
  intro σ ρ N Φ c0 c a w Q h hi hQ
  simp only[exec]at h
  cases draw
  ·simp only[cond_false]at h
   refine wp_region_list ?_
   cases hmg:oQ X.mg fk
   ·rw[hmg]at h
    exact Wb hX Kv ops.toList 0 σ ρ N _ c0 c a w Q (T.wp_bind h) hi (fun σ' r n c' a' w' hΦ uS=>hQ .norm σ' r n c' a' w' hΦ uS)
   ·rw[hmg]at h
    simp only[cond_true]at h
    exact aaB hX Kv _ ops.toList 0 σ ρ N _ c0 c a w Q (T.wp_bind h) hi (fun σ' r n c' a' w' hΦ uS=>hQ .norm σ' r n c' a' w' hΦ uS)
  ·simp only[cond_true]at h
   cases ht:akw ops.toList (acx X ops.toList)
   ·rw[ht]at h
    simp only[cond_false]at h
    refine ahR hX (Φ:=fun σ' ρ' N'=>Φ (.norm,σ') ρ' N') (σ:=σ) (ρ:=ρ) (N:=N) ?_ hi Q (fun σ' r c' a' w' hΦ uS=> ?_)
    ·split
     ·rename_i hu
      rw[if_pos hu]at h
      exact T.JW (T.wp_mono (T.wp_bind h) (fun x r n hx=>hx))
     ·rename_i hu
      rw[if_neg hu]at h;exact h
    ·have:=hQ .norm σ' r [] c' a' w'
     simp only[append_nil]at this
     exact this hΦ uS
   ·rw[ht]at h
    simp only[cond_true]at h
    split at h
    ·rename_i hu
     refine ai8 hX Kv ht (Φ:=fun σ' ρ' N'=>Φ (.norm,σ') ρ' N') hu (T.JW (T.wp_mono (T.wp_bind h) (fun x r n hx=>T.wp_bind hx))) hi Q (fun σ' r n c' a' w' hΦ uS=>hQ .norm σ' r n c' a' w' hΦ uS)
    ·exact h.elim
 |seq x y ihx ihy=>
  intro σ ρ N Φ c0 c a w Q h hi hQ
  simp only[exec]at h
  refine wp_seq (ihx σ ρ N _ c0 c a w _ (T.wp_bind h) hi ?_)
  intro e σ' r n c' a' w' hΦ uS
  cases e with
  |norm=>exact ihy σ' _ _ Φ c0 c' a' w' Q hΦ uS (hQ.ext r n)
  |exit id=>exact hQ (.exit id) σ' r n c' a' w' hΦ uS
  |ret=>exact hQ .ret σ' r n c' a' w' hΦ uS
 |cond o x y ihx ihy=>
  intro σ ρ N Φ c0 c a w Q h hi hQ
  simp only[exec]at h
  have hv:=ajA hi.dD.aZ o
  split at h
  ·rename_i he
   rw[he]at hv
   exact wp_cond_true hv (ihx σ ρ N Φ c0 c a w Q h hi hQ)
  ·rename_i he
   rw[he]at hv
   exact wp_cond_false hv (ihy σ ρ N Φ c0 c a w Q h hi hQ)
  ·rename_i e _ _ he
   rw[he]at hv
   have hv:a.eval o= .bool (e.ev c.ρ).bool:=hv
   rw[hi.env]at hv
   simp only[T.wp]at h
   refine wp_cond_split hv (fun ht=> ?_) (fun ht=> ?_)
   ·rw[if_pos ht]at h;exact ihx σ ρ N Φ c0 c a w Q h hi hQ
   ·rw[if_neg (by rw[ht];simp)]at h;exact ihy σ ρ N Φ c0 c a w Q h hi hQ
  ·exact h.elim
 |block id x ih=>
  intro σ ρ N Φ c0 c a w Q h hi hQ
  simp only[exec]at h
  refine wp_block (ih σ ρ N _ c0 c a w _ (T.wp_bind h) hi ?_)
  intro e σ' r n c' a' w' hΦ uS
  cases e with
  |norm=>exact hQ .norm σ' r n c' a' w' hΦ uS
  |exit id'=>
   have hΦ:Φ (cond (Nat.beq id' id) .norm (.exit id'),σ') (ρ++r) (N++n):=hΦ
   show if id'=id then Q .normal a' w' else Q (.exit id') a' w'
   by_cases he:id'=id
   ·subst he
    rw[if_pos rfl]
    rw[beq_refl]at hΦ
    exact hQ .norm σ' r n c' a' w' hΦ uS
   ·rw[if_neg he]
    have hb:Nat.beq id' id=false:=by
     cases hb:Nat.beq id' id
     ·rfl
     ·exact absurd (eq_of_beq_eq_true hb) he
    rw[hb]at hΦ
    exact hQ (.exit id') σ' r n c' a' w' hΦ uS
  |ret=>exact hQ .ret σ' r n c' a' w' hΦ uS
 |loop x ih=>
  intro σ ρ N Φ c0 c a w Q h hi hQ
  simp only[exec]at h
  split at h
  ·refine wp_loop_once (ih σ ρ N _ c0 c a w _ (T.wp_bind h) hi ?_)
   intro e σ' r n c' a' w' hΦ uS
   cases e with
   |norm=>exact hΦ.elim
   |exit id=>exact hQ (.exit id) σ' r n c' a' w' hΦ uS
   |ret=>exact hQ .ret σ' r n c' a' w' hΦ uS
  ·rename_i hint ajO
   cases hun:blt 0 hint.un with
   |true=>
    rw[hun]at h
    simp only[cond_true]at h
    refine wp_loop_rounds hint.un ?_
    clear hun ajO
    revert h
    generalize hint.un=m
    intro h
    induction m generalizing σ ρ N c a w with
    |zero=>exact h.elim
    |succ m ihm=>
     unfold ae0 at h
     rw[rounds_succ]
     refine ih σ ρ N _ c0 c a w _ (T.wp_bind h) hi ?_
     intro e σ' r n c' a' w' hΦ uS
     cases e with
     |norm=>
      exact ihm σ' (ρ++r) (N++n) c' a' w' uS (hQ.ext r n) hΦ
     |exit id=>exact hQ (.exit id) σ' r n c' a' w' hΦ uS
     |ret=>exact hQ .ret σ' r n c' a' w' hΦ uS
   |false=>
   rw[hun]at h
   simp only[cond_false]at h
   split at h
   rotate_left
   ·exact h.elim
   rename_i tm NL ht
   split at h
   rotate_left
   ·exact h.elim
   rename_i hc
   simp only[Bool.and_eq_true]at hc
   obtain⟨⟨hu,avO⟩,_⟩:=hc
   obtain⟨I,μ,hI0,av5⟩:=h
   obtain⟨c1,s1,s2,s3,s4,s5,s6,s7,s8⟩:=aaR hi ht hu avO
   have aDE:(NL.map (Ex.ev ρ)).length=NL.length:=by simp
   refine wp_loop_ghost (fun m a w=>∃fY c2,fY.length=NL.length/\I fY/\μ fY=m/\c.sub c2/\c2.ρ=ρ++fY/\aX X.P B w0 (pS X.P hint tm) c2 a w/\nZ (pS X.P hint tm) c2) (μ (NL.map (Ex.ev ρ))) ⟨_,c1,aDE,hI0,rfl,s1,s2,s3,s4⟩ ?_
   rintro m a2 w2 ⟨fY,c2,hl,hI,rfl,hs,EH,hg,hf⟩
   refine ih (pS X.P hint tm) (ρ++fY) _ _ c c2 a2 w2 _ (T.wp_bind (av5 fY hl hI)) ⟨hs,EH,hg,hf,by rw[s6,hi.nv];simp[hl],by rw[s5,hi.lv];simp⟩ ?_
   intro e σ' r n c' a' w' hΦ uS
   cases e with
   |norm=>
    simp only at hΦ
    split at hΦ
    ·rename_i nx hb
     have hN:(N++[fun v=>I v/\μ v<μ fY]++n)[σ.lv]? =some (fun v=>I v/\μ v<μ fY):=by
      rw[hi.lv];simp
     simp only[T.wp,hN]at hΦ
     rw[hi.nv]at hb
     obtain⟨c3,b1,b2,b3,b4,b5⟩:=ahD (σ0:=σ) (c:=c) hb uS.dD (x:=fY++r) (by rw[uS.env,append_assoc]) uS.sub hi.fresh s7.symm rfl
     refine⟨_,hΦ.2,_,c3,?_,hΦ.1,rfl,b1,?_,b3,b4⟩
     ·have:=hi.nv
      simp;omega
     ·rw[b2,uS.env]
    ·exact hΦ.elim
   |exit id=>
    have:=(hQ.sub hi.sub) (.exit id) σ' (fY++r) ([fun v=>I v/\μ v<μ fY]++n) c' a' w'
    rw[append_assoc,append_assoc]at hΦ uS
    exact this hΦ uS
   |ret=>
    have:=(hQ.sub hi.sub) .ret σ' (fY++r) ([fun v=>I v/\μ v<μ fY]++n) c' a' w'
    rw[append_assoc,append_assoc]at hΦ uS
    exact this hΦ uS
 |rangeFunc f ps x y _ _=>intro σ ρ N Φ c0 c a w Q h;simp only[exec]at h;exact h.elim
 |scope x ih=>
  intro σ ρ N Φ c0 c a w Q h hi hQ
  simp only[exec]at h
  refine wp_scope_straight (ih σ ρ N Φ c0 c a w _ h hi ?_)
  intro e σ' r n c' a' w' hΦ uS
  have:=hQ e σ' r n c' a' w' hΦ uS
  cases e<;>exact this
 |label l=>
  intro σ ρ N Φ c0 c a w Q h hi hQ
  refine wp_label ?_
  have:=hQ .norm σ [] [] c a w
  simp only[append_nil]at this
  exact this h hi
 |refuse u=>intro σ ρ N Φ c0 c a w Q h;simp only[exec]at h;exact h.elim
 |goto l=>intro σ ρ N Φ c0 c a w Q h;simp only[exec]at h;exact h.elim
end
end
section
open Go.RowKit
section
variable {P:Program}{B:mC}{w0:World}{σ:St}{c:Ct}{a:Act}{w:World}
theorem alH (g:aX P B w0 σ c a w){F:ResultVar->Sem Value} (h1:∀t,F (.tmp t)=pure (a.tmps.getD t undef)) (h2:∀t ty,F (.cell t ty)=(do loadVar ty (<-asAddr (a.tmps.getD t undef)))){r:ResultVar}{x:SC} (h:apx P σ r=some x):
 ∃v,(F r).run P w= .ok v w/\x.rel c v:=by
 unfold apx at h
 split at h
 ·rename_i t
  have hs:=g.aZ t
  unfold SV.sc at h
  split at h
  ·rename_i y hy
   cases h
   rw[hy]at hs
   exact⟨_,by rw[h1];rfl,hs⟩
  ·cases h
 ·rename_i t ty
  split at h
  ·rename_i p off hp
   split at h
   ·rename_i k hk
    have hs:=g.aZ t
    rw[hp]at hs
    obtain⟨n,hn,hv⟩:=hs
    obtain⟨n',cs,e,hB,hh,MD⟩:=g.aO p k hk
    rw[hn]at e;cases e
    split at h
    rotate_left
    ·cases h
    rename_i UE
    rw[dY UE]at hh
    obtain⟨sv,LO,hsc⟩:=Option.bind_eq_some_iff.1 h
    obtain⟨v,jX,i8⟩:=Xd (P:=P) (w:=w) (n:=n) (base:=0) LO MD (fun j v hj=>by
     unfold World.cell?
     simp[hh,hj])
    refine⟨v,?_,?_⟩
    ·rw[h2,hv]
     rw[Nat.zero_add]at jX
     simpa[asAddr]using jX
    ·unfold SV.sc at hsc
     split at hsc
     ·cases hsc;exact i8
     ·cases hsc
   ·cases h
  ·cases h
theorem RJ (g:aX P B w0 σ c a w){F:ResultVar->Sem Value} (h1:∀t,F (.tmp t)=pure (a.tmps.getD t undef)) (h2:∀t ty,F (.cell t ty)=(do loadVar ty (<-asAddr (a.tmps.getD t undef)))):∀{l:List ResultVar}{xs:List SC},aax P σ l=some xs->
 ∃vs,(l.mapM F).run P w= .ok vs w/\Pz c xs vs
 |[],xs,h=>by
  simp only[aax,Option.some.injEq]at h
  subst h
  exact⟨[],by simp,trivial⟩
 |r::rs,xs,h=>by
  simp only[aax]at h
  split at h
  ·rename_i x xs' hx TH
   cases h
   obtain⟨v,e1,q1⟩:=alH g h1 h2 hx
   obtain⟨vs,e2,q2⟩:=RJ g h1 h2 TH
   exact⟨v::vs,by simp[mapM_cons,e1,e2],q1,q2⟩
  ·cases h
theorem N5 {c:Ct}:∀{xs:List SC}{vs:dm},Pz c xs vs->vs.length=xs.length
 |[],[],_=>rfl
 |_::_,_::_,h=>by simp[N5 h.2]
 |[],_::_,h=>h.elim
 |_::_,[],h=>h.elim
theorem alI (g:aX P B w0 σ c a w){fn:Func}{sv:SV} (h:akm P σ fn.results.toList=some sv):∃v,(results fn a.tmps).run P w= .ok v w/\sv.rel c v:=by
 obtain⟨F,hF,h1,h2⟩:∃F:ResultVar->Sem Value,results fn a.tmps=(do let vs<-fn.results.mapM F;pure (if h:vs.size=1 then vs[0]else .tuple vs))/\(∀t,F (.tmp t)=pure (a.tmps.getD t undef))/\(∀t ty,F (.cell t ty)=(do loadVar ty (<-asAddr (a.tmps.getD t undef)))):=
  ⟨_,rfl,fun _=>rfl,fun _ _=>rfl⟩
 rw[hF]
 have hl:fn.results.mapM F=Functor.map toArray (fn.results.toList.mapM F):=by
  conv=>lhs;rw[<-Array.toArray_toList (xs:=fn.results)]
  exact mapM_toArray ..
 rw[hl]
 unfold akm at h
 split at h
 ·rename_i x hx
  cases h
  obtain⟨vs,e,q⟩:=RJ g h1 h2 hx
  have hlen:=N5 q
  match vs,q,hlen with
  |[v],q,_=>exact⟨v,by simp[e],q.1⟩
 ·rename_i xs rP hx
  cases h
  obtain⟨vs,e,q⟩:=RJ g h1 h2 hx
  have hlen:=N5 q
  refine⟨.tuple vs.toArray,?_,vs,rfl,q⟩
  have:vs.length≠1:=fun hh=>by
   rw[hlen]at hh
   match xs,hh with
   |[x],_=>exact rP x rfl
  simp[e,this]
 ·cases h
end
theorem ame {c:Ct}:(SV.t []).rel c undef:=⟨[],rfl,trivial⟩
theorem amU {l:aP} (h:l.all isByte=true):aE false [.int .u8] l=Lib.byteCells (l.map fun y=>UInt8.ofNat y.int.toNat):=by
 induction l with
 |nil=>rfl
 |cons x r ih=>
  simp only[all_cons,Bool.and_eq_true]at h
  have hx:CK.val (.int .u8) x= .int .u8 ((UInt8.ofNat x.int.toNat).toNat:Int):=by
   cases x with
   |i z=>
    simp only[isByte,Bool.and_eq_true,decide_eq_true_eq]at h
    have:(z.toNat%256:Nat)=z.toNat:=mod_eq_of_lt (by omega)
    simp only[CK.val,Sc.acL,UInt8.toNat_ofNat']
    rw[show(2^8:Nat)=256 from rfl,this]
    congr 1;omega
   |_=>simp[isByte]at h
  have e:aE false [.int .u8] (x::r)=CK.val (.int .u8) x::aE false [.int .u8] r:=rfl
  rw[e,ih h.2,hx];rfl
theorem rM.one {b:Nat}{X:lU}{w0 w w':World}{n:Nat} (h:rM b X w0 w) (hn:b<=n\/X n) (hb:Below n w w') (ho:∀m,m≠n->w'.heap[m]? =w.heap[m]?):rM b X w0 w':=
 h.trans ⟨hb.os,hb.tape,hb.output,hb.size,fun j hj hx=>ho j fun e=>by
   rcases hn with hn|hn
   ·omega
   ·exact hx (e▸hn)⟩
theorem ad8 {k:CK} (hk:∀el,k≠.sl el):∀{D L:aP},mS D=mS L->aE false [k] D=aE false [k] L
 |[],[],_=>rfl
 |x::D,y::L,h=>by
  simp only[M9,List.cons.injEq]at h
  have ih:=ad8 hk h.2
  simp only[aE,flatMap_cons]at ih⊢
  rw[ih]
  simp only[cY]
  rw[aqr hk h.1]
 |[],_::_,h=>by simp at h
 |_::_,[],h=>by simp at h
theorem ai1 {X:Cx}{Γ:Nat->fF}{B:mC}{w0:World} (hX:X.ok Γ B w0){g:Nat}{xs:List SV}{σ:St}{t:T (SV×St)} (hs:apW X.bd g xs σ=some t)
 {ρ:aP}{N:Nx}{Φ:SV×St->aP->Nx->Prop}{c0 c:Ct}{a:Act}{w:World}{vs:dm} (h:t.wp Γ ρ N Φ) (hi:Is X.P B w0 c0 c σ ρ N a w) (hl:xs.length=vs.length) (i8:∀i (h1:i<xs.length) (h2:i<vs.length),(xs[i]).rel c (vs[i])):
 Calls X.P g vs.toArray w fun e w'=>∃v sv σ' r n c',e= .returned v/\Φ (sv,σ') (ρ++r) (N++n)/\sv.rel c' v/\(∀a':Act,a'.defers=[]->Is X.P B w0 c c' {σ' with aZ:=[]} (ρ++r) (N++n) a' w'):=by
 unfold apW at hs
 split at hs
 ·cases hs
 rename_i b hb
 have hbd:=hX.bd b hb
 split at hs
 rotate_left
 ·cases hs
 rename_i p
 split at hs
 rotate_left
 ·cases hs
 rename_i k hk
 split at hs
 rotate_left
 ·cases hs
 rename_i UE
 simp only[Bool.and_eq_true]at UE
 obtain⟨UE,Z9⟩:=UE
 have UE:=eq_of_beq_eq_true UE
 split at hs
 rotate_left
 ·cases hs
 rename_i x y zs VO
 obtain⟨n,cs,hβ,hBn,ve,hrl⟩:=hi.dD.aO p k hk
 rw[dY UE]at ve
 rw[VO]at hrl
 obtain⟨v0,v1,us,rfl⟩:∃v0 v1 us,cs=v0::v1::us:=by
  match cs,hrl with
  |v0::v1::us,_=>exact⟨v0,v1,us,rfl⟩
  |[],h=>exact h.elim
  |[_],h=>exact h.2.elim
 obtain⟨Af,hr1,Z4⟩:=hrl
 have Z9:b.has k.ty (us.length+2)=true:=by
  rw[VO]at Z9
  have:=vo Z4
  simp only[length_cons]at Z9
  rw[this];exact Z9
 obtain⟨u,rfl⟩:∃u,vs=[u]:=by
  match vs,hl with
  |[u],_=>exact⟨u,rfl⟩
 have hu:=i8 0 (by simp) (by simp)
 simp only[getElem_cons_zero]at hu
 obtain⟨n',e1,rfl⟩:=hu
 rw[hβ]at e1;cases e1
 split at hs
 ·rename_i hf
  have hf:g=b.cc:=eq_of_beq_eq_true hf
  subst hf
  split at hs
  rotate_left
  ·cases hs
  rename_i hx
  cases hs
  have hp:v0= .pointer none\/v0= .pointer (some ⟨n,0,none⟩):=by
   unfold spB at hx
   split at hx
   ·exact .inl Af
   ·rename_i q
    obtain⟨m,e,rfl⟩:=Af
    have:q=p:=eq_of_beq_eq_true hx
    subst this
    rw[hβ]at e;cases e
    exact .inr rfl
   ·rename_i q
    have:q=p:=eq_of_beq_eq_true hx
    subst this
    rcases Af with h0|⟨m,e,h0⟩
    ·exact .inl h0
    ·rw[hβ]at e;cases e
     exact .inr h0
   ·cases hx
  refine(hbd.cc n v0 v1 us k.ty w Z9 ve hp).mono ?_
  rintro e w' ⟨rfl,h1,h2,h3,h4⟩
  have gg:=hi.dD.store hk hβ (cells:= .ptr p 0::y::zs) (cs:= .pointer (some ⟨n,0,none⟩)::v1::us) ⟨⟨n,hβ,rfl⟩,hr1,Z4⟩ (ty:=k.ty) (kd:=0) (hi.dD.below.one hBn (h4 n w (Below.refl n w) (Nat.le_refl n)) h3) h1 (by rw[dY rfl];exact h2) h3
  refine⟨_,.t [],{σ with aO:=dH none σ.aO p (some ⟨.ptr p 0::y::zs,k.ty,0⟩)},[],[],c,rfl,by simpa[T.wp]using h,⟨[],rfl,trivial⟩,fun a' ha'=> ?_⟩
  simp only[append_nil]
  refine⟨.refl _,hi.env,⟨gg.below,gg.hB,ha',zero_le _,fun t=>trivial,gg.aO,gg.rows,gg.apart⟩,⟨fun q hq=>hi.fresh.β q (Nat.le_trans ?_ hq),hi.fresh.R⟩,hi.nv,hi.lv⟩
  show σ.aO.length<=(dH none σ.aO p _).length
  rw[oY];omega
 ·split at hs
  rotate_left
  ·cases hs
  rename_i hf
  have hf:g=b.sf:=eq_of_beq_eq_true hf
  subst hf
  split at hs
  rotate_left
  ·cases hs
  rename_i r
  split at hs
  rotate_left
  ·cases hs
  rename_i kr hkr
  split at hs
  rotate_left
  ·cases hs
  rename_i jV
  simp only[Bool.and_eq_true,rK,beq_iff_eq,decide_eq_true_eq]at jV
  obtain⟨cv,⟨⟨NK,hks⟩,hag⟩,pK⟩:=jV
  cases hs
  simp only[T.wp]at h
  obtain⟨an0,h⟩:=h
  rw[kR,hi.env.symm]at an0
  simp only[U1.ev,Sc.amO,Bool.and_eq_true,Bool.not_eq_true']at an0
  obtain⟨rP,Rp⟩:=an0
  obtain⟨hR,ad,nn,cc,hv⟩:=hr1
  obtain⟨v',e',D,a',m,cap,hv',h0,anX,hmc,OG,how,_⟩:=hi.dD.rows r kr hkr
  have hlen:(kr.cont.ev c.ρ).list.length=m:=by rw[<-o9 (iI h0)];exact anX
  rw[hR]at e';cases e'
  rw[hv]at hv';cases hv'
  have aDI:(kr.cont.ev c.ρ).list≠[]:=fun e=>by rw[e]at rP;cases rP
  have hcc:0<cc:=by
   have:=length_pos_iff.2 aDI
   omega
  obtain⟨how,aDP⟩:=(how cv).resolve_left (by omega)
  replace how:=how.plain (gr pK)
  rw[hks,hag,NK]at how
  rw[ad8 (fun _ h=>by cases h) (iI h0),amU Rp]at how
  generalize hL:((kr.cont.ev c.ρ).list.map fun y=>UInt8.ofNat y.int.toNat)=L at how
  have hLl:L.length=nn:=by rw[<-hL,length_map,hlen]
  have ayN:L≠[]:=by
   intro e;rw[e]at hL
   rw[map_eq_nil_iff.1 hL]at rP;cases rP
  rw[hv]at how
  rcases how.2 with⟨hvn,_⟩|⟨gb,uI,cur,hvs,hBg,hgh,h1,h2,h3,h4⟩
  ·cases hvn
   exact absurd (eq_nil_of_length_eq_zero hLl) ayN
  cases hvs
  have hob:dG v1=some gb:=by rw[hv];exact sO hcc
  have Dk:σ.owns c (true,r) gb:=⟨⟨kr,hkr,cv⟩,v1,hR,hob⟩
  rw[hv]at ve
  refine(hbd.sf n gb cc v0 us k.ty L cur w Z9 ayN (by rw[hLl];exact ve) hgh (by rw[hLl];exact h1) h2 (by simpa using h3) (by rw[hLl];simpa using h4)).mono ?_
  rintro e w' ⟨rfl,q1,q2,q3⟩
  have pc:∀q k2,St.row {σ with rows:=dH none σ.rows r none} q=some k2->q≠r/\σ.row q=some k2:=fun q k2 h=>by
   have:(dH none σ.rows r none).getD q none=some k2:=h
   rw[tU]at this
   by_cases h3:q=r
   ·rw[if_pos h3]at this;cases this
   ·rw[if_neg h3]at this;exact⟨h3,this⟩
  have jq:∀x p',St.owns {σ with rows:=dH none σ.rows r none} c x p'->x≠(true,r)/\σ.owns c x p':=by
   rintro⟨t,q⟩ p' h
   cases t
   ·exact⟨by simp,h⟩
   ·obtain⟨⟨k2,pJ,ho2⟩,z⟩:=h
    obtain⟨z1,z2⟩:=pc q k2 pJ
    exact⟨by simp[z1],⟨k2,z2,ho2⟩,z⟩
  have ga:∀x p',σ.owns c x p'->x≠(true,r)->p'≠gb:=fun x p' hx hn e=>hn (hi.dD.apart x (true,r) p' hx (e▸Dk))
  refine⟨_,.at (.str (CB .ofb kr.cont)),{σ with rows:=dH none σ.rows r none},[],[],c,rfl,by simpa using h,?_,fun a' ha'=> ?_⟩
  ·show _=_
   rw[kR]
   simp only[U1.ev,Sc.ac6]
   rw[hL]
  simp only[append_nil]
  refine⟨.refl _,hi.env,⟨hi.dD.below.one (aDP gb hob) (q3 gb w (Below.refl gb w) (Nat.le_refl gb)) q2,by rw[q1];exact hi.dD.hB,ha',zero_le _,fun t=>trivial,fun q k2 hq=> ?_,fun q k2 hq=> ?_,fun x y' p' hx hy=>hi.dD.apart x y' p' (jq x p' hx).2 (jq y' p' hy).2⟩,⟨hi.fresh.β,fun q hq=>hi.fresh.R q (Nat.le_trans ?_ hq)⟩,hi.nv,hi.lv⟩
  ·obtain⟨m,cs2,e,z1,z2,z3⟩:=hi.dD.aO q k2 hq
   exact⟨m,cs2,e,z1,by rw[q2 m (ga (false,q) m ⟨⟨k2,hq⟩,e⟩ (by simp))];exact z2,z3⟩
  ·obtain⟨hqr,pJ⟩:=pc q k2 hq
   obtain⟨u,e,qq⟩:=hi.dD.rows q k2 pJ
   refine⟨u,e,qq.mono (fun p' o u' hp hu=>⟨⟨fun x hx=>hp.1 x (jq x p' hx).2,hp.2⟩,?_⟩) (fun ho2 p' hp _=>q2 p' (ga (true,q) p' ⟨⟨k2,pJ,ho2⟩,u,e,hp⟩ (by simp[hqr]))) rfl (fun _ _ _ h=>h)⟩
   rw[World.cell?_of_block (q2 p' (fun e'=>hp.1 _ (e'▸Dk)))];exact hu
  ·show σ.rows.length<=(dH none σ.rows r _).length
   rw[oY];omega
theorem akN {X:Cx}{Γ:Nat->fF}{B:mC}{w0:World} (hX:X.ok Γ B w0){inl:Inl} (Kv:YP X Γ B w0 inl){g:Nat}{xs:List SV}{σ:St}{t:T (SV×St)} (hs:au1 X X.att inl g xs σ=some t)
 {ρ:aP}{N:Nx}{Φ:SV×St->aP->Nx->Prop}{c0 c:Ct}{a:Act}{w:World}{vs:dm} (h:t.wp Γ ρ N Φ) (hi:Is X.P B w0 c0 c σ ρ N a w) (hl:xs.length=vs.length) (i8:∀i (h1:i<xs.length) (h2:i<vs.length),(xs[i]).rel c (vs[i])):
 Calls X.P g vs.toArray w fun e w'=>∃v sv σ' r n c',e= .returned v/\Φ (sv,σ') (ρ++r) (N++n)/\sv.rel c' v/\(∀a':Act,a'.defers=[]->Is X.P B w0 c c' {σ' with aZ:=[]} (ρ++r) (N++n) a' w'):=by
 unfold au1 at hs
 split at hs
 ·cases hs
 rename_i at_ ty aCZ
 split at hs
 rotate_left
 ·cases hs
 rename_i hf
 have hf:g=at_:=eq_of_beq_eq_true hf
 subst hf
 have hA:=hX.att _ ty aCZ
 split at hs
 rotate_left
 ·cases hs
 rename_i gg mR
 split at hs
 rotate_left
 ·cases hs
 rename_i Ru
 cases hs
 obtain⟨u,rfl⟩:∃u,vs=[u]:=by
  match vs,hl with
  |[u],_=>exact⟨u,rfl⟩
 have hu:=i8 0 (by simp) (by simp)
 simp only[getElem_cons_zero]at hu
 obtain⟨ns,hns,rfl⟩:=hu
 have hnl:ns.length=mR.length:=by have:=congrArg List.length hns;simpa using this.symm
 have hp:=hi.fresh.β σ.aO.length (Nat.le_refl _)
 have g1:=hi.dD.alloc hp (k:=⟨[.int .i64 (.i 0)],ty,0⟩) (cs:=[.int .i64 0]) ⟨rfl,trivial⟩
 generalize hc1:({c with β:=fun i=>if i=σ.aO.length then some w.heap.size else c.β i}:Ct)=c1 at g1
 have hle:c.le c1:=by
  rw[<-hc1]
  exact⟨rfl,rfl,fun i n e=>by
   by_cases h:i=σ.aO.length
   ·subst h;rw[hp]at e;cases e
   ·simp[h,e],fun _ _ e=>e⟩
 have aAh:c1.β σ.aO.length=some w.heap.size:=by rw[<-hc1];simp
 have hi1:Is X.P B w0 c1 c1 {σ with aO:=dH none σ.aO σ.aO.length (some ⟨[.int .i64 (.i 0)],ty,0⟩)} ρ N a (w.alloc (wX ⟨[.int .i64 (.i 0)],ty,0⟩ [.int .i64 0])):=by
  refine⟨.refl _,hle.ρ.trans hi.env,g1,⟨fun q hq=> ?_,fun r hr=>by rw[<-hc1];exact hi.fresh.R r hr⟩,hi.nv,hi.lv⟩
  have hq:(dH none σ.aO σ.aO.length (some (⟨[.int .i64 (.i 0)],ty,0⟩:Bk))).length<=q:=hq
  rw[oY]at hq
  rw[<-hc1]
  show(if q=σ.aO.length then some w.heap.size else c.β q)=none
  rw[if_neg (by omega)]
  exact hi.fresh.β q (by omega)
 have dU:=Kv gg (mR.map fun b=> .at (.ptr b 0)) _ ρ N _ c1 c1 a _ (ns.map fun n=>Value.pointer (some ⟨n,0,none⟩)) (T.wp_bind h) hi1 (by simp[hnl]) (fun i h1 h2=>by
  simp only[getElem_map]
  have h3:i<mR.length:=by simpa using h1
  refine⟨ns[i]'(by omega),?_,rfl⟩
  have:=congrArg (fun l=>l[i]?) hns
  simp only[getElem?_map,getElem?_eq_getElem h3,getElem?_eq_getElem (by omega:i<ns.length),Option.map_some,Option.some.injEq]at this
  exact hle.β _ _ this)
 let R:World->Prop:=fun w'=>∃(v:Value) (sv:SV) (σ':St) (r:aP) (n:Nx) (c':Ct) (z:At),σ'.blk σ.aO.length=some ⟨[z],ty,0⟩/\Φ (.at (.int .i64 (.i 0)),{σ' with aO:=dH none σ'.aO σ.aO.length (some ⟨[.int .i64 (.i 0)],ty,0⟩)}) (ρ++r) (N++n)/\SV.rel c' sv v/\(∀a':Act,a'.defers=[]->Is X.P B w0 c1 c' {σ' with aZ:=[]} (ρ++r) (N++n) a' w')
 refine(hA gg _ w R (hX.ins gg Ru _) (dU.mono ?_)).mono ?_
 ·rintro e w' ⟨v,sv,σ',r,n,c',rfl,hΦ,hrv,uS⟩
  have hb:=(uS ⟨#[],[]⟩ rfl)
  simp only at hΦ
  split at hΦ
  rotate_left
  ·exact hΦ.elim
  rename_i z t' qM
  split at hΦ
  rotate_left
  ·exact hΦ.elim
  rename_i ht
  have ht:=eq_of_beq_eq_true ht
  subst ht
  refine⟨⟨v,rfl⟩,?_,v,sv,σ',r,n,c',z,qM,hΦ,hrv,uS⟩
  obtain⟨m,cs,q1,_,q2,q3⟩:=hb.dD.aO σ.aO.length _ qM
  rw[hb.sub.β _ _ aAh]at q1;cases q1
  rw[dY rfl]at q2
  match cs,q3 with
  |[x],_=>exact⟨x,q2⟩
  |[],q3=>exact q3.elim
  |_::_::_,q3=>exact q3.2.elim
 ·rintro e w2 ⟨w',⟨v,sv,σ',r,n,c',z,qM,hΦ,hrv,uS⟩,rfl,rfl⟩
  have hb:=(uS ⟨#[],[]⟩ rfl)
  have hβ:=hb.sub.β _ _ aAh
  obtain⟨m,cs,q1,qB,q2,q3⟩:=hb.dD.aO σ.aO.length _ qM
  rw[hβ]at q1;cases q1
  have fU:w.heap.size<w'.heap.size:=(Array.getElem?_eq_some_iff.1 q2).1
  have Z2:∀m,m≠w.heap.size->(w'.heap.setIfInBounds w.heap.size (.cells #[.int .i64 0] ty (0,0)))[m]? =w'.heap[m]? :=fun m hm=>by
   rw[Array.getElem?_setIfInBounds,if_neg (fun e=>hm e.symm)]
  refine⟨_,_,_,r,n,c',rfl,hΦ,rfl,fun a' ha'=> ?_⟩
  have Ml:=uS a' ha'
  have gg:=Ml.dD.store qM hβ (cells:=[.int .i64 (.i 0)]) (cs:=[.int .i64 0]) ⟨rfl,trivial⟩ (ty:=ty) (kd:=0) (w':={w' with heap:=w'.heap.setIfInBounds w.heap.size (.cells #[.int .i64 0] ty (0,0))})
   (Ml.dD.below.trans ⟨rfl,rfl,rfl,by simp,fun j hj _=>Z2 j (by have:=hi.dD.hB;omega)⟩) (by simp) (by
     rw[dY rfl]
     simp[fU]) Z2
  refine⟨hle.sub.trans Ml.sub,Ml.env,gg,⟨fun q hq=>Ml.fresh.β q (Nat.le_trans ?_ hq),Ml.fresh.R⟩,Ml.nv,Ml.lv⟩
  show σ'.aO.length<=(dH none σ'.aO σ.aO.length _).length
  rw[oY];omega
theorem RM {X:Cx}{Γ:Nat->fF}{B:mC}{w0:World} (hX:X.ok Γ B w0):∀d,YP X Γ B w0 (alP X d)
 |0=>fun g xs σ ρ N Φ c0 c a w vs h=>by simp only[alP]at h;exact h.elim
 |d+1=>fun g xs σ ρ N Φ c0 c a w vs h hi hl i8=>by
  simp only[alP]at h
  split at h
  ·rename_i t hs
   exact ai1 hX hs h hi hl i8
  split at h
  ·rename_i t hs
   exact akN hX (RM hX d) hs h hi hl i8
  split at h
  rotate_left
  ·exact h.elim
  rename_i fn hfn
  split at h
  rotate_left
  ·exact h.elim
  rename_i code azw
  have h:=T.wp_bind h
  have hlen:(vs.toArray++Array.replicate (fn.ntmps-vs.toArray.size) undef).size=(xs++replicate (fn.ntmps-xs.length) (SV.t [])).length:=by simp[hl]
  refine calls_of_wp hfn azw (ahU hX (RM (B:=B) (w0:=w0) hX d) g code _ ρ N _ c c {tmps:=vs.toArray++Array.replicate (fn.ntmps-vs.toArray.size) undef,defers:=[]} w _ h ⟨.refl _,hi.env,⟨hi.dD.below,hi.dD.hB,rfl,by rw[hlen];exact Nat.le_refl _,fun t=> ?_,hi.dD.aO,hi.dD.rows,hi.dD.apart⟩,⟨hi.fresh.β,hi.fresh.R⟩,hi.nv,hi.lv⟩ ?_)
  ·show((xs++replicate (fn.ntmps-xs.length) (SV.t [])).getD t .top).rel c _
   by_cases ht:t<xs.length
   ·have h2:t<vs.length:=by omega
    have:=i8 t ht h2
    rw[bj _ _ _ _ ht]
    simpa[getD_eq_getElem?_getD,getElem?_eq_getElem ht,Array.getElem?_append,h2]using this
   ·by_cases ht2:t<xs.length+(fn.ntmps-xs.length)
    ·have e1:(xs++replicate (fn.ntmps-xs.length) (SV.t [])).getD t .top= .t []:=by
      rw[getD_eq_getElem?_getD,getElem?_append_right (by omega),getElem?_replicate,if_pos (by omega)];rfl
     have e2:(vs.toArray++Array.replicate (fn.ntmps-vs.toArray.size) undef).getD t undef=undef:=by
      rw[Array.getD_eq_getD_getElem?,Array.getElem?_append]
      split
      ·simp at*;omega
      ·rw[Array.getElem?_replicate];split<;>rfl
     rw[e1]
     show(SV.t []).rel c ((vs.toArray++Array.replicate (fn.ntmps-vs.toArray.size) undef).getD t undef)
     rw[e2];exact ame
    ·have e1:(xs++replicate (fn.ntmps-xs.length) (SV.t [])).getD t .top= .top:=by
      rw[getD_eq_getElem?_getD,getElem?_eq_none (by simp;omega)];rfl
     rw[e1];trivial
  ·intro e σ' r n c' a' w' hΦ uS
   have key:(match akm X.P σ' fn.results.toList with|some v=>T.aa (v,σ')|none=>T.fail "results").wp Γ (ρ++r) (N++n) Φ->a'.defers=[]/\∃v,(results fn a'.tmps).run X.P w'= .ok v w'/\∃v' sv σ' r n c',Ending.returned v= .returned v'/\Φ (sv,σ') (ρ++r) (N++n)/\sv.rel c' v'/\(∀a':Act,a'.defers=[]->Is X.P B w0 c c' {σ' with aZ:=[]} (ρ++r) (N++n) a' w'):=fun hk=>by
    split at hk
    ·rename_i sv LO
     obtain⟨v,jX,hrv⟩:=alI uS.dD LO
     refine⟨uS.dD.defers,v,jX,v,sv,σ',r,n,c',rfl,hk,hrv,fun a2 ha2=>⟨uS.sub,uS.env,⟨uS.dD.below,uS.dD.hB,ha2,zero_le _,fun t=>trivial,uS.dD.aO,uS.dD.rows,uS.dD.apart⟩,⟨uS.fresh.β,uS.fresh.R⟩,uS.nv,uS.lv⟩⟩
    ·exact hk.elim
   cases e with
   |norm=>exact key hΦ
   |ret=>exact key hΦ
   |exit id=>exact hΦ.elim
end
end Go.Proofs.YtlklkgdaegncaaaGreatDoor
