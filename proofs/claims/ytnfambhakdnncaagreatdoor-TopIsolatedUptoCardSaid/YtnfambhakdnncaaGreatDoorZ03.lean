/-
  A part of the proof of TopIsolated: SymX1, SymX2, SymX3, SymX4, SymX5, TcA, TcB, TcC, TcD, TcE, TcF, TcG, TcH, TcI, TcJ, TcK, TdA, Pa, Dat, Pb, Txt, Pc.
-/
import Derived.Test.YtnfambhakdnncaaGreatDoorZ02
import Derived.Deep.LoopGhost
import Derived.LoopN
import Derived.Scope
import Derived.Lib.ItoaNum
import Derived.Lib.Join
namespace Go.Proofs.YtnfambhakdnncaaGreatDoor
set_option linter.all false
set_option maxRecDepth 1000000
set_option maxHeartbeats 80000000
open List Nat Int Go.RowKit
section
variable{P:Program}{B:fZ}{w0:World}{σ σ':St}{c c0 c2:Ct}{a:Act}{w:World}
def nT(ρ2 ρ:ab)(m:Nat)(es:bZ):Prop:=∀i e,es[i]? =some e->ρ2.getD (m+i) (.i 0)=e.ev ρ
def nT.left{ρ2 ρ:ab}{m:Nat}{es xQ:bZ}(h:nT ρ2 ρ m (es++xQ)):nT ρ2 ρ m es:=fun i e he=>h i e (by rw[gA (kK.1 he).1];exact he)
def nT.right{ρ2 ρ:ab}{m:Nat}{es xQ:bZ}(h:nT ρ2 ρ m (es++xQ)):nT ρ2 ρ (m+es.length) xQ:=fun i e he=>by have:=h (es.length+i) e (by rw[lR (by omega),ta];exact he);rw[td];exact this
def nT.at{ρ2 ρ:ab}{m:Nat}{e:Ex}{es:bZ}(h:nT ρ2 ρ m (e::es)):ρ2.getD m (.i 0)=e.ev ρ:=by simpa using h 0 e rfl
def nT.at1{ρ2 ρ:ab}{m:Nat}{e e':Ex}{es:bZ}(h:nT ρ2 ρ m (e::e'::es)):ρ2.getD (m+1) (.i 0)=e'.ev ρ:=h 1 e' rfl
def nT.tail{ρ2 ρ:ab}{m:Nat}{e:Ex}{es:bZ}(h:nT ρ2 ρ m (e::es)):nT ρ2 ρ (m+1) es:=nT.right (es:=[e]) h
def Lu(g:av P B w0 σ c a w){r:Nat}{k:Rw}(hr:σ.row r=some k)(bT:bF k.agg k.ks=true)(iQ:k.plain=true){v:Value}(hv:c.R r=some v)(h2:c2.R r=some v){lo len:Ex}(Cq:(lo.ev c2.ρ).int=0)(hlen:(len.ev c2.ρ).int=(k.cont.ev c.ρ).list.length):
 (At.sl r k.ks.length lo len).rel c2 v:=by
 obtain⟨D,ad,n,cap,e,h0,DC,h3,h4,h6,h5⟩:=g.read hr (dF iQ)
 have h1:(k.cont.ev c.ρ).list.length=n:=by rw[<-eU (dh h0)];exact DC
 rw[hv]at e;cases e
 refine⟨ad,n,cap,ad,cap,h2,?_,by omega,by omega,by omega,by omega,h4,fun hp=> ?_⟩
 ·rw[hlen,h1];simp
 ·obtain⟨hf,Mo⟩:=dq bT;have hl:0<(ag k.agg k.ks D).length:=by rw[aD hf];exact Nat.mul_pos (by omega) Mo
  obtain⟨p,o,e1,_⟩:=h5 0 _ (cB hl);exact⟨p,o,e1,by rw[e1,Cq];simp⟩
def av.ZP(g:av P B w0 σ c a w){t:Nat}{sv:SV}(h:sv.rel c (a.tmps.getD t undef)):av P B w0 {σ with aC:=σ.aC.set t sv} c a w:=by
 refine⟨g.below,g.hB,g.defers,by simpa using g.size,fun u=> ?_,g.au,g.rows,g.apart⟩;show((σ.aC.set t sv).getD u .top).rel c _;rw[IW];split
 ·rename_i h2;rw[<-h2.1];exact h
 ·exact g.aC u
def Pq:∀{xs:eO}{vs:aW}{n:Nat}{x:At}{v:Value},cm c xs vs->vs[n]? =some v->x.rel c v->cm c (xs.set n x) vs
 |[],[],_,_,_,_,_,_=>trivial|_::_,v'::_,0,_,v,h,e,hx=>by simp at e;subst e;exact⟨hx,h.2⟩
 |_::_,_::_,n+1,_,_,h,e,hx=>⟨h.1,Pq h.2 (by simpa using e) hx⟩|[],_::_,_,_,_,h,_,_=>h.elim|_::_,[],_,_,_,h,_,_=>h.elim
def abv(l:List (Option Bk))(p:Nat)(k:Option Bk)(q:Nat)(h:p<l.length):(l.set p k).getD q none=if q=p then k else l.getD q none:=by
 simp only[cE,getElem?_set];by_cases hq:p=q
 ·subst hq;simp[h]
 ·simp[hq,Ne.symm hq]
def Ug(l:List (Option Rw))(r:Nat)(k:Option Rw)(q:Nat)(h:r<l.length):(l.set r k).getD q none=if q=r then k else l.getD q none:=by
 simp only[cE,getElem?_set];by_cases hq:r=q
 ·subst hq;simp[h]
 ·simp[hq,Ne.symm hq]
def RB{r:Nat}{k:Rw}(h:σ.row r=some k):r<σ.rows.length:=by
 rcases xU r σ.rows.length with h2|h2
 ·exact h2
 ·exfalso;have:σ.row r=none:=by unfold St.row;simp[cE,mB h2]
  rw[this]at h;cases h
def av.ah1(g:av P B w0 σ c a w){r:Nat}{k:Rw}(hr:σ.row r=some k)(ho:k.own=true){e:Ex}(he:e.ev c.ρ=k.cont.ev c.ρ):av P B w0 {σ with rows:=σ.rows.set r (some {k with cont:=e})} c a w:=by
 have dz:∀q,St.row {σ with rows:=σ.rows.set r (some {k with cont:=e})} q=if q=r then some {k with cont:=e}else σ.row q:=fun q=>Ug _ _ _ _ (RB hr)
 have dN:∀y n,St.owns {σ with rows:=σ.rows.set r (some {k with cont:=e})} c y n->σ.owns c y n:=by
  rintro⟨t,q⟩ n h;cases t
  ·exact h
  ·obtain⟨⟨k',fK,Jn⟩,e'⟩:=h;refine⟨?_,e'⟩;rw[dz]at fK;by_cases hq:q=r
   ·subst hq;exact⟨k,hr,ho⟩
   ·rw[aE hq]at fK;exact⟨k',fK,Jn⟩
 refine⟨g.below,g.hB,g.defers,g.size,g.aC,g.au,fun q k' hq=> ?_,fun y z n hy hz=>g.apart y z n (dN y n hy) (dN z n hz)⟩;rw[dz]at hq;by_cases h2:q=r
 ·rw[aA h2]at hq;cases hq;subst h2;obtain⟨v,e',D,ad,n,cap,rfl,h0,h1,h2,h3,h4,h5,h6⟩:=g.rows q k hr;exact⟨_,e',D,ad,n,cap,rfl,by rw[he];exact h0,h1,h2,h3,h4,fun h=>(by rw[ho]at h;cases h),fun x hx i k hk=>(h6 x hx i k hk).mono fun p o u hp hu=>⟨⟨fun y hy=>hp.1 y (dN y p hy),hp.2⟩,hu⟩⟩
 ·rw[aE h2]at hq;obtain⟨v,e',qq⟩:=g.rows q k' hq;exact⟨v,e',qq.mono (fun p o u hp hu=>⟨⟨fun y hy=>hp.1 y (dN y p hy),hp.2⟩,hu⟩) (fun _ _ _ _=>rfl) rfl (fun _ _ _ h=>h)⟩
def I4(g:av P B w0 σ c a w)(hf:io σ c){el:Nat}{x x':At}{es:bZ}{rs:cv}(h:adl P σ.rows σ.nv σ.rows.length el x=some (x',es,rs))(hv:nT c.ρ c.ρ σ.nv es){v:Value}(hx:x.rel c v):
 ∃c',c.le c'/\av P B w0 {σ with rows:=ai σ.rows rs} c' a w/\io {σ with rows:=ai σ.rows rs} c'/\σ.rows.length<=(ai σ.rows rs).length/\x'.rel c' v/\∀x p,St.owns {σ with rows:=ai σ.rows rs} c' x p->∃y,σ.owns c y p:=by
 unfold adl at h
 split at h
 ·cases h
  exact⟨c,.refl c,g,hf,aX _,by have hx:v=_:=hx;rw[hx];show _=Value.int _ (c.ρ.getD σ.nv (.i 0)).int;rw[hv.at],fun x _ h=>⟨x,h⟩⟩
 ·cases h
  exact⟨c,.refl c,g,hf,aX _,by have hx:v=_:=hx;rw[hx];show _=Value.bool (c.ρ.getD σ.nv (.i 0)).bool;rw[hv.at],fun x _ h=>⟨x,h⟩⟩
 ·cases h
  exact⟨c,.refl c,g,hf,aX _,by have hx:v=_:=hx;rw[hx];show _=Value.string (c.ρ.getD σ.nv (.i 0)).str;rw[hv.at],fun x _ h=>⟨x,h⟩⟩
 ·rename_i r;split at h
  ·rename_i k hk;have hk:σ.row r=some k:=hk;split at h
   ·rename_i ho;simp only[aL]at ho;obtain⟨ho,iQ⟩:=ho;have iQ:=dF iQ;cases h
    obtain⟨v',e,D,ad,n,cap,rfl,h0,h1,h2,h3,h4,h5,h6⟩:=g.rows r k hk;have mf:((Ex.v σ.nv).ev c.ρ)=k.cont.ev c.ρ:=by show c.ρ.getD σ.nv (.i 0)=_;rw[hv.at]
    have hRn:=hf.R σ.rows.length (aX _);have g2:=g.uf (w':=w) hk ho e (World.grownBy.refl _ _) (r':=σ.rows.length) (k':={k with cont:= .v σ.nv}) ho iQ (D:=D) (by rw[mf];exact h0) h1 h2 h3 ((h4 ho).imp id (fun z=>z.1.plain iQ)) (.inl rfl) (.inl hRn) h6;refine⟨{c with R:=fun i=>if i=σ.rows.length then some (.slice ad n cap)else c.R i},⟨rfl,rfl,fun _ _ h=>h,fun i u h=> ?_⟩,g2,⟨hf.β,fun q hq=> ?_⟩,?_,?_,?_⟩
    ·by_cases hi:i=σ.rows.length
     ·subst hi;rw[hRn]at h;cases h
     ·simp[hi,h]
    ·have hl:=ci [(r,none),(σ.rows.length,some {k with cont:=Ex.v σ.nv})] σ.rows;have h1:=hl.2 (σ.rows.length,some {k with cont:=Ex.v σ.nv}) (by simp);simp only at h1 hq;have vP:q≠σ.rows.length:=by omega
     simp only[aE vP];exact hf.R q (by omega)
    ·exact(ci _ _).1
    ·obtain⟨hx,a',n',iZ,rfl⟩:=hx;rw[e]at hx;refine⟨by simp[hx],a',n',iZ,rfl⟩
    ·rintro⟨t,q⟩ p hq;cases t
     ·exact⟨(false,q),hq⟩
     ·obtain⟨⟨k2,m5,Vb⟩,v2,HO,Ti⟩:=hq;have m5:(bU none (bU none σ.rows r none) σ.rows.length (some {k with cont:=Ex.v σ.nv})).getD q none=some k2:=m5;rw[ik,ik]at m5;have HO:(if q=σ.rows.length then some (Value.slice ad n cap)else c.R q)=some v2:=HO;by_cases hqn:q=σ.rows.length
      ·rw[aA hqn]at HO;cases HO;exact⟨(true,r),⟨k,hk,ho⟩,_,e,Ti⟩
      ·rw[aE hqn]at m5 HO;by_cases hqr:q=r
       ·rw[aA hqr]at m5;cases m5
       ·rw[aE hqr]at m5;exact⟨(true,q),⟨k2,m5,Vb⟩,v2,HO,Ti⟩
   ·split at h
    ·rename_i bT;simp only[aL]at bT;cases h
     refine⟨c,.refl c,g,hf,aX _,?_,fun x _ h=>⟨x,h⟩⟩;refine Lu g hk bT.1 bT.2 hx.1 hx.1 ?_ ?_
     ·show(c.ρ.getD σ.nv (.i 0)).int=0;rw[hv.at];rfl
     ·show(c.ρ.getD (σ.nv+1) (.i 0)).int=_;rw[hv.at1,eJ];rfl
    ·cases h
  ·cases h
 ·cases h
  refine⟨c,.refl c,g,hf,aX _,?_,fun x _ h=>⟨x,h⟩⟩;rename_i r xQ lo len;have e1:(Ex.v σ.nv).ev c.ρ=lo.ev c.ρ:=hv.at
  have e2:(Ex.v (σ.nv+1)).ev c.ρ=len.ev c.ρ:=hv.at1;simp only[At.rel,e1,e2]at hx⊢;exact hx
 ·split at h
  ·rename_i agg ks _;cases h
   have hRn:=hf.R σ.rows.length (aX _);have mf:((Ex.v σ.nv).ev c.ρ)= .l []:=by show c.ρ.getD σ.nv (.i 0)=_;rw[hv.at];rfl
   obtain⟨ad,rfl⟩:=hx;have g2:=g.newRow (w':=w) g.below (aX _) (fun _ _=>rfl) (r:=σ.rows.length) hRn (k:=⟨el,ks,agg,.v σ.nv,true,none⟩) rfl (D:=[]) (ad:=ad) (n:=0) (cap:=0) (by rw[mf];exact gh []) rfl (aX _) (by simp[maxLen])
    (fun _=> .inl rfl) (nofun) (nofun)
   refine⟨{c with R:=fun i=>if i=σ.rows.length then some (.slice ad 0 0)else c.R i},⟨rfl,rfl,fun _ _ h=>h,fun i u h=> ?_⟩,g2,⟨hf.β,fun q hq=> ?_⟩,(ci _ _).1,?_,?_⟩
   ·by_cases hi:i=σ.rows.length
    ·subst hi;rw[hRn]at h;cases h
    ·simp[hi,h]
   ·have hl:=ci [(σ.rows.length,some (⟨el,ks,agg,.v σ.nv,true,none⟩:Rw))] σ.rows;have h1:=hl.2 (σ.rows.length,some (⟨el,ks,agg,.v σ.nv,true,none⟩:Rw)) (by simp);simp only at h1 hq;have vP:q≠σ.rows.length:=by omega
    simp only[aE vP];exact hf.R q (by omega)
   ·exact⟨by simp,ad,0,0,rfl⟩
   ·rintro⟨t,q⟩ p hq;cases t
    ·exact⟨(false,q),hq⟩
    ·obtain⟨⟨k2,m5,Vb⟩,v2,HO,Ti⟩:=hq;have m5:(bU none σ.rows σ.rows.length (some (⟨el,ks,agg,.v σ.nv,true,none⟩:Rw))).getD q none=some k2:=m5;rw[ik]at m5;have HO:(if q=σ.rows.length then some (Value.slice ad 0 0)else c.R q)=some v2:=HO;by_cases hqn:q=σ.rows.length
     ·rw[aA hqn]at HO;cases HO;cases ad<;>cases Ti
     ·rw[aE hqn]at m5 HO;exact⟨(true,q),⟨k2,m5,Vb⟩,v2,HO,Ti⟩
  ·cases h
 ·cases h
  exact⟨c,.refl c,g,hf,aX _,by have hx:v=_:=hx;rw[hx];show _=Value.tuple (((c.ρ.getD σ.nv (.i 0)).list).map _).toArray;rw[hv.at],fun x _ h=>⟨x,h⟩⟩
 ·cases h
structure WA(P:Program)(B:fZ)(w0:World)(σ σ':St)(c:Ct)(a:Act)(w:World)(es:bZ):Prop where
 ex:∃c',c.le c'/\av P B w0 σ' c' a w/\io σ' c'/\∀x p,σ'.owns c' x p->∃y,σ.owns c y p
 nv:σ'.nv=σ.nv+es.length
 nb:σ'.au.length=σ.au.length
 nr:σ.rows.length<=σ'.rows.length
def Qi{sv:SV}{x:At}(h:sv.at? =some x):sv= .c (.a x):=by
 unfold SV.at? at h;split at h
 ·cases h;rfl
 ·cases h
def C8:∀{l:List (Nat×Nat)}{σ σ':St}{c:Ct}{es:bZ},I6 P l σ=some (σ',es)->av P B w0 σ c a w->io σ c->nT c.ρ c.ρ σ.nv es->WA P B w0 σ σ' c a w es
 |[],σ,σ',c,es,h,g,hf,_=>by simp only[I6,eF,iK]at h;obtain⟨rfl,rfl⟩:=h;exact⟨⟨c,.refl c,g,hf,fun x _ h=>⟨x,h⟩⟩,rfl,rfl,aX _⟩
 |(t,el)::r,σ,σ',c,es,h,g,hf,hv=>by
  simp only[I6]at h;split at h
  ·rename_i x hx;split at h
   ·rename_i x' e1 rs htm;split at h
    ·rename_i σ2 e2 lE;simp only[eF,iK]at h;obtain⟨rfl,rfl⟩:=h;have fC:(σ.slot t).rel c (a.tmps.getD t undef):=g.aC t;rw[Qi hx]at fC;obtain⟨c1,hle,g1,hf1,hlen,fp,how⟩:=I4 g hf htm hv.left fC;have g2:av P B w0 {σ with nv:=σ.nv+e1.length,aC:=σ.aC.set t (.at x'),rows:=ai σ.rows rs} c1 a w:=by have:=g1.ZP (t:=t) (sv:= .at x') fp;exact⟨this.below,this.hB,this.defers,this.size,this.aC,this.au,this.rows,this.apart⟩
     have ih:=C8 lE g2 ⟨hf1.β,hf1.R⟩ (by rw[hle.ρ];exact hv.right);obtain⟨⟨c2,HH,g3,hf3,Yv⟩,n1,n2,n3⟩:=ih;exact⟨⟨c2,hle.trans HH,g3,hf3,fun x p h=>by obtain⟨y,hy⟩:=Yv x p h;exact how y p hy⟩,by simp only at n1;rw[n1];simp;omega,n2,bI hlen n3⟩
    ·cases h
   ·cases h
  ·cases h
def E1{τ:St}{p off:Nat}{x:At}(q:Nat):(τ.setCell p off x).blk q=if q=p then(τ.blk p).map fun k=>{k with cells:=k.cells.set off x}else τ.blk q:=by
 unfold St.setCell;cases hk:τ.blk p with
 |none=>
  simp only[Option.map_none];split
  ·rename_i h;rw[h];exact hk
  ·rfl
 |some k=>
  simp only[Option.map_some];have hlen:p<τ.au.length:=by
   rcases xU p τ.au.length with h|h
   ·exact h
   ·exfalso;have:τ.blk p=none:=by unfold St.blk;simp[cE,mB h]
    rw[this]at hk;cases hk
  exact abv _ _ _ _ hlen
def rF(τ:St)(p off:Nat)(y:At):(τ.setCell p off y).au.length=τ.au.length/\(τ.setCell p off y).rows=τ.rows/\(τ.setCell p off y).nv=τ.nv/\(τ.setCell p off y).lv=τ.lv/\(τ.setCell p off y).aC=τ.aC:=by unfold St.setCell;split<;>simp
def kS{τ:St}{p off:Nat}{x:At}{c:Ct}(y:Bool×Nat)(m:Nat)(h:(τ.setCell p off x).owns c y m):τ.owns c y m:=by
 obtain⟨t,q⟩:=y;cases t
 ·obtain⟨⟨k',fK⟩,e⟩:=h;refine⟨?_,e⟩;rw[E1]at fK;by_cases hq:q=p
  ·subst hq;rw[aA rfl]at fK;obtain⟨k,hk,_⟩:=nW.1 fK;exact⟨k,hk⟩
  ·rw[aE hq]at fK;exact⟨k',fK⟩
 ·obtain⟨⟨k',fK,Jn⟩,e⟩:=h;have:(τ.setCell p off x).row q=τ.row q:=by unfold St.row;rw[(rF τ p off x).2.1]
  rw[this]at fK;exact⟨⟨k',fK,Jn⟩,e⟩
def av.setCell(g:av P B w0 σ c a w){p off:Nat}{x:At}(h:∀k,σ.blk p=some k->∃n cs,c.β p=some n/\(B.n<=n\/B.X n)/\w.heap[n]? =some (np k cs)/\cm c k.cells cs/\∀v,cs[off]? =some v->x.rel c v):av P B w0 (σ.setCell p off x) c a w:=by
 have hm:=rF σ p off x;have dz:∀q,(σ.setCell p off x).row q=σ.row q:=fun q=>by unfold St.row;rw[hm.2.1]
 refine⟨g.below,g.hB,g.defers,by rw[hm.2.2.2.2];exact g.size,fun t=>by unfold St.slot;rw[hm.2.2.2.2];exact g.aC t,fun q k' hq=> ?_,fun r k' hr=> ?_,fun y z m hy hz=>g.apart y z m (kS y m hy) (kS z m hz)⟩
 ·rw[E1]at hq;by_cases h2:q=p
  ·subst h2;rw[aA rfl]at hq;obtain⟨k,hk,rfl⟩:=nW.1 hq;obtain⟨n,cs,e,h1,h3,h4,h5⟩:=h k hk;refine⟨n,cs,e,h1,h3,?_⟩;cases hc:cs[off]? with
   |some v=>exact Pq h4 hc (h5 v hc)|none=>
    have hl:=nw h4;have:k.cells.set off x=k.cells:=set_eq_of_length_le (by rw[List.getElem?_eq_none_iff]at hc;omega);show cm c (k.cells.set off x) cs;rw[this];exact h4
  ·rw[aE h2]at hq;exact g.au q k' hq
 ·rw[dz]at hr;obtain⟨v,e,qq⟩:=g.rows r k' hr;exact⟨v,e,qq.mono (fun p o u hp hu=>⟨⟨fun y hy=>hp.1 y (kS y p hy),hp.2⟩,hu⟩) (fun _ _ _ _=>rfl) rfl (fun _ _ _ h=>h)⟩
def AJ:∀{l:List (Nat×Nat×Nat)}{σ σ':St}{c:Ct}{es:bZ},C5 P l σ=some (σ',es)->av P B w0 σ c a w->io σ c->nT c.ρ c.ρ σ.nv es->WA P B w0 σ σ' c a w es
 |[],σ,σ',c,es,h,g,hf,_=>by simp only[C5,eF,iK]at h;obtain⟨rfl,rfl⟩:=h;exact⟨⟨c,.refl c,g,hf,fun x _ h=>⟨x,h⟩⟩,rfl,rfl,aX _⟩
 |(p,off,el)::r,σ,σ',c,es,h,g,hf,hv=>by
  simp only[C5]at h;split at h
  ·rename_i x hx;split at h
   ·rename_i x' e1 rs htm;split at h
    ·rename_i σ2 e2 lE;simp only[eF,iK]at h;obtain⟨rfl,rfl⟩:=h;have hcell:∃k n cs v,σ.blk p=some k/\c.β p=some n/\(B.n<=n\/B.X n)/\w.heap[n]? =some (np k cs)/\cm c k.cells cs/\cs[off]? =some v/\x.rel c v:=by
      have hblk:∃k,σ.blk p=some k:=by
       unfold St.cellAt at hx;cases hk:σ.blk p with
       |none=>rw[hk]at hx;cases hx
       |some k=>exact⟨k,rfl⟩
      obtain⟨k,hk⟩:=hblk;have hxk:k.cells[off]? =some x:=by unfold St.cellAt at hx;rw[hk]at hx;exact hx
      obtain⟨n,cs,eb,hB1,lc,nP⟩:=g.au p k hk;obtain⟨v,hvv,Bf⟩:=vB nP hxk;exact⟨k,n,cs,v,hk,eb,hB1,lc,nP,hvv,Bf⟩
     obtain⟨k,n,cs,v,hk,eb,hB1,lc,nP,hvv,Bf⟩:=hcell;obtain⟨c1,hle,g1,hf1,hlen,fp,how⟩:=I4 g hf htm hv.left Bf;have g1':av P B w0 {σ with nv:=σ.nv+e1.length,rows:=ai σ.rows rs} c1 a w:=⟨g1.below,g1.hB,g1.defers,g1.size,g1.aC,g1.au,g1.rows,g1.apart⟩;have g2:av P B w0 (St.setCell {σ with nv:=σ.nv+e1.length,rows:=ai σ.rows rs} p off x') c1 a w:=g1'.setCell (fun k2 q1=>by have q1:σ.blk p=some k2:=q1;rw[hk]at q1;cases q1;exact⟨n,cs,hle.β _ _ eb,hB1,lc,jb hle nP,fun v2 q5=>by rw[hvv]at q5;cases q5;exact fp⟩)
     have hl:∀(τ:St)(y:At),(τ.setCell p off y).au.length=τ.au.length/\(τ.setCell p off y).rows=τ.rows/\(τ.setCell p off y).nv=τ.nv:=fun τ y=>by unfold St.setCell;split<;>simp
     have ih:=AJ lE g2 ⟨fun q hq=>hf1.β q (by rw[(hl _ _).1]at hq;exact hq),fun q hq=>hf1.R q (by rw[(hl _ _).2.1]at hq;exact hq)⟩ (by rw[hle.ρ,(hl _ _).2.2];exact hv.right);obtain⟨⟨c2,HH,g3,hf3,Yv⟩,n1,n2,n3⟩:=ih;rw[(hl _ _).2.2]at n1;rw[(hl _ _).1]at n2;rw[(hl _ _).2.1]at n3;exact⟨⟨c2,hle.trans HH,g3,hf3,fun x p0 h=>by obtain⟨y,hy⟩:=Yv x p0 h;have hz:St.owns {σ with nv:=σ.nv+e1.length,rows:=ai σ.rows rs} c1 y p0:=kS y p0 hy;exact how y p0 hz⟩,by rw[n1];simp;omega,n2,bI hlen n3⟩
    ·cases h
   ·cases h
  ·cases h
def C6:∀{l:bH}{σ σ':St}{c:Ct}{es:bZ},I5 l σ=some (σ',es)->av P B w0 σ c a w->io σ c->nT c.ρ c.ρ σ.nv es->WA P B w0 σ σ' c a w es
 |[],σ,σ',c,es,h,g,hf,_=>by simp only[I5,eF,iK]at h;obtain⟨rfl,rfl⟩:=h;exact⟨⟨c,.refl c,g,hf,fun x _ h=>⟨x,h⟩⟩,rfl,rfl,aX _⟩
 |r::rs,σ,σ',c,es,h,g,hf,hv=>by
  simp only[I5]at h;split at h
  ·rename_i k hk;split at h
   ·rename_i ho;simp only[aL]at ho;replace ho:=ho.1;split at h
    ·rename_i σ2 e2 lE;simp only[eF,iK]at h;obtain⟨rfl,rfl⟩:=h;have g1:=g.ah1 hk ho (e:= .v σ.nv) hv.at
     have g2:av P B w0 {σ with nv:=σ.nv+1,rows:=σ.rows.set r (some {k with cont:= .v σ.nv})} c a w:=⟨g1.below,g1.hB,g1.defers,g1.size,g1.aC,g1.au,g1.rows,g1.apart⟩;have ih:=C6 lE g2 ⟨hf.β,fun q hq=>hf.R q (by simpa using hq)⟩ hv.tail;obtain⟨⟨c2,HH,g3,hf3,Yv⟩,n1,n2,n3⟩:=ih;simp only[BO]at n1 n2 n3;exact⟨⟨c2,HH,g3,hf3,fun x p h=>by
      obtain⟨⟨t,q⟩,hy⟩:=Yv x p h;cases t
      ·exact⟨(false,q),hy⟩
      ·obtain⟨⟨k2,m5,Vb⟩,v2,HO,Ti⟩:=hy;have m5:(σ.rows.set r (some {k with cont:= .v σ.nv})).getD q none=some k2:=m5;rw[Ug _ _ _ _ (RB hk)]at m5;by_cases hq:q=r
       ·subst hq;exact⟨(true,q),⟨k,hk,ho⟩,v2,HO,Ti⟩
       ·rw[aE hq]at m5;exact⟨(true,q),⟨k2,m5,Vb⟩,v2,HO,Ti⟩⟩,by rw[n1];simp;omega,n2,n3⟩
    ·cases h
   ·cases h
  ·cases h
def C7:∀{l:bH}{σ:St},av P B w0 σ c a w->av P B w0 (BD l σ) c a w/\(BD l σ).nv=σ.nv/\(BD l σ).rows=σ.rows/\(BD l σ).au=σ.au
 |[],_,g=>⟨g,rfl,rfl,rfl⟩|t::r,σ,g=>C7 (l:=r) (σ:={σ with aC:=σ.aC.set t .top}) (g.ZP (t:=t) (sv:= .top) trivial)
def FM(g:av P B w0 σ c a w)(hf:io σ c){h:mw}{tm:St}{es:bZ}(ht:Ec P h σ=some (tm,es))(hv:nT c.ρ c.ρ σ.nv es):
 (∃c',c.le c'/\av P B w0 tm c' a w/\io tm c'/\∀x p,tm.owns c' x p->∃y,σ.owns c y p)/\tm.nv=σ.nv+es.length/\tm.au.length=σ.au.length/\σ.rows.length<=tm.rows.length/\tm.lv=σ.lv+1:=by
 unfold Ec at ht
 obtain⟨gt,t1,t2,t3⟩:=C7 (l:=h.C9) g
 have bj:∀x p,(BD h.C9 σ).owns c x p->σ.owns c x p:=fun x p hx=>by
  obtain⟨t,q⟩:=x;cases t
  ·obtain⟨⟨k,hk⟩,e⟩:=hx;refine⟨⟨k,?_⟩,e⟩;unfold St.blk at hk⊢;rw[t3]at hk;exact hk
  ·obtain⟨⟨k,hk,ho⟩,e⟩:=hx;refine⟨⟨k,?_,ho⟩,e⟩;unfold St.row at hk⊢;rw[t2]at hk;exact hk
 split at ht
 ·rename_i σ1 e1 h1;split at ht
  ·rename_i σ2 e2 h2;split at ht
   ·rename_i σ3 e3 h3;simp only[eF,iK]at ht;obtain⟨rfl,rfl⟩:=ht;obtain⟨⟨c1,l1,g1,f1,o1⟩,n1,b1,r1⟩:=C8 h1 gt ⟨fun p hp=>hf.β p (by rw[t3]at hp;exact hp),fun p hp=>hf.R p (by rw[t2]at hp;exact hp)⟩ (by rw[t1];exact hv.left.left);rw[t1]at n1;obtain⟨⟨c2,l2,g2,f2,o2⟩,n2,b2,r2⟩:=AJ h2 g1 f1 (by rw[l1.ρ,n1];exact hv.left.right);obtain⟨⟨c3,l3,g3,f3,o3⟩,n3,b3,r3⟩:=C6 h3 g2 f2 (by rw[l2.ρ,l1.ρ,n2,n1];have:=hv.right;rw[fR]at this;rw[td];exact this);have l:=(l1.trans l2).trans l3;refine⟨⟨c3,l,⟨g3.below,g3.hB,g3.defers,g3.size,g3.aC,g3.au,g3.rows,g3.apart⟩,⟨f3.β,f3.R⟩,fun x p hx=> ?_⟩,?_,?_,?_,rfl⟩
    ·obtain⟨y,hy⟩:=o3 x p hx;obtain⟨z,hz⟩:=o2 y p hy;obtain⟨u,hu⟩:=o1 z p hz;exact⟨u,bj u p hu⟩
    ·show σ3.nv=_;rw[n3,n2,n1];simp;omega
    ·show σ3.au.length=_;rw[b3,b2,b1,t3]
    ·show _<=σ3.rows.length;rw[t2]at r1;omega
   ·cases ht
  ·cases ht
 ·cases ht
def A9(P:Program)(w:World)(ok:dg)(c:Ct):List (Nat×Nat×CK)->ab->Prop
 |[],[]=>True|(p,off,k)::r,y::ys=>(∃n ty cs v,c.β p=some n/\w.heap[n]? =some (.cells cs ty (0,0))/\cs.toList[off]? =some v/\jk P w ok (.ck k) v y)/\A9 P w ok c r ys|_,_=>False
def Oo:∀{l:List (Nat×Nat×CK)}{es:bZ}{fr:cv},Cg P σ l=some (es,fr)->lM σ.row fr
 |[],es,fr,h=>by simp only[Cg,eF,iK]at h;rw[<-h.2];exact .nil
 |(p,off,k)::r,es,fr,h=>by
  simp only[Cg]at h;split at h
  ·split at h
   ·split at h
    ·split at h
     ·rename_i h1 h2;simp only[eF,iK]at h;rw[<-h.2];exact(rL h1).append (Oo h2)
     ·cases h
    ·cases h
   ·cases h
  ·cases h
def Ht{σ1:St}(g1:av P B w0 σ1 c a w)(hb:∀p,σ1.blk p=σ.blk p):∀{l:List (Nat×Nat×CK)}{es:bZ}{fr:cv},Cg P σ l=some (es,fr)->Fz σ.row σ1 fr->A9 P w (cD B σ1 c) c l (es.map (Ex.ev c.ρ))
 |[],es,fr,h,_=>by simp only[Cg,eF,iK]at h;rw[<-h.1];trivial
 |(p,off,k)::r,es,fr,h,hf=>by
  simp only[Cg]at h;split at h
  ·rename_i b Np;split at h
   ·rename_i JQ;split at h
    ·rename_i x hx;split at h
     ·rename_i e f xQ fs h1 h2;simp only[eF,iK]at h;obtain⟨rfl,rfl⟩:=h;obtain⟨n,cs,e1,_,e2,e3⟩:=g1.au p b (by rw[hb];exact Np);rw[dJ (fh JQ)]at e2;obtain⟨v,q1,q2⟩:=vB e3 hx;exact⟨⟨n,b.ty,cs.toArray,v,e1,e2,by simpa using q1,iP g1 h1 hf.left q2⟩,Ht g1 hb h2 hf.right⟩
     ·cases h
    ·cases h
   ·cases h
  ·cases h
def pP{ok ok':dg}{c':Ct}(h:∀p,ok p->ok' p):∀{l:List (Nat×Nat×CK)}{ys:ab},(∀z∈l,∀n,c.β z.1=some n->c'.β z.1=some n)->A9 P w ok c l ys->A9 P w ok' c' l ys
 |[],[],_,_=>trivial|(p,off,k)::r,y::ys,hβ,⟨⟨n,ty,cs,v,e1,e2,e3,e4⟩,hr⟩=>⟨⟨n,ty,cs,v,hβ _ (fc ..) _ e1,e2,e3,vX (fun p _ _ hp hu=>⟨h p hp,hu⟩) e4⟩,pP h (fun z hz=>hβ z (bB _ hz)) hr⟩|[],_::_,_,h=>h.elim|_::_,[],_,h=>h.elim
def Ba{ok:dg}:∀{l:List (Nat×Nat×CK)}{ys:ab},A9 P w ok c l ys->ys.length=l.length
 |[],[],_=>rfl|_::_,_::_,⟨_,h⟩=>by simp[Ba h]
 |[],_::_,h=>h.elim|_::_,[],h=>h.elim
def As:∀{l:List (Nat×Nat×CK)}{σ:St},av P B w0 σ c a w->av P B w0 (tI l σ) c a w/\(tI l σ).nv=σ.nv/\(tI l σ).lv=σ.lv/\(tI l σ).rows=σ.rows/\(tI l σ).au.length=σ.au.length/\(∀x p,(tI l σ).owns c x p->σ.owns c x p)
 |[],_,g=>⟨g,rfl,rfl,rfl,rfl,fun _ _ h=>h⟩|(p,off,k)::r,σ,g=>by
  have g1:av P B w0 (σ.setCell p off .top) c a w:=g.setCell (fun k hk=>by obtain⟨n,cs,e1,e2,e3,e4⟩:=g.au p k hk;exact⟨n,cs,e1,e2,e3,e4,fun _ _=>trivial⟩)
  have hm:=rF σ p off .top;obtain⟨i1,i2,i3,i4,i5,i6⟩:=As (l:=r) g1;exact⟨i1,i2.trans hm.2.2.1,i3.trans hm.2.2.2.1,i4.trans hm.2.1,i5.trans hm.1,fun x p h=>kS x p (i6 x p h)⟩
def oZ{ok:dg}:∀{l:List (Nat×Nat×CK)}{σ:St}{c:Ct}{ys:ab},av P B w0 σ c a w->io σ c->(∀p,ok p->cD B σ c p)->A9 P w ok c l ys->(∀i,i<ys.length->c.ρ.getD (σ.nv+i) (.i 0)=ys.getD i (.i 0))->(∃c',c.le c'/\av P B w0 (eV P l σ) c' a w/\io (eV P l σ) c')/\(eV P l σ).nv=σ.nv+l.length/\(eV P l σ).lv=σ.lv/\(eV P l σ).au.length=σ.au.length/\σ.rows.length<=(eV P l σ).rows.length
 |[],σ,c,ys,g,hf,_,_,_=>⟨⟨c,.refl c,g,hf⟩,rfl,rfl,rfl,aX _⟩|(p,off,k)::r,σ,c,[],_,_,_,h,_=>h.elim|(p,off,k)::r,σ,c,y::ys,g,hf,bT,⟨⟨n,ty,cs,v,e1,e2,e3,e4⟩,hr⟩,hy=>by
  have OK:∀i,i<ys.length->c.ρ.getD (σ.nv+1+i) (.i 0)=ys.getD i (.i 0):=fun i hi=>by have:=hy (i+1) (by simp;omega);rw[show σ.nv+1+i=σ.nv+(i+1)by omega];simpa using this
  have skip:(∃c',c.le c'/\av P B w0 (eV P r {σ with nv:=σ.nv+1}) c' a w/\io (eV P r {σ with nv:=σ.nv+1}) c')/\(eV P r {σ with nv:=σ.nv+1}).nv=σ.nv+(r.length+1)/\(eV P r {σ with nv:=σ.nv+1}).lv=σ.lv/\(eV P r {σ with nv:=σ.nv+1}).au.length=σ.au.length/\σ.rows.length<=(eV P r {σ with nv:=σ.nv+1}).rows.length:=by have ih:=oZ (σ:={σ with nv:=σ.nv+1}) (l:=r) (ys:=ys) ⟨g.below,g.hB,g.defers,g.size,g.aC,g.au,g.rows,g.apart⟩ ⟨hf.β,hf.R⟩ bT hr OK;exact⟨ih.1,by rw[ih.2.1];simp only;omega,ih.2.2.1,ih.2.2.2.1,ih.2.2.2.2⟩
  simp only[eV,AM];split;rotate_left
  ·exact skip
  rename_i b hb;split;rotate_left
  ·exact skip
  rename_i JQ;have JQ:=fh JQ;have hrw:=wC (P:=P) σ.rows.length (.v σ.nv) (.ck k);obtain⟨c1,q1,q2,q3,q4,q5⟩:=wD (s:= .ck k) (e:= .v σ.nv) g bT (nr:=σ.rows.length) (v:=v) (by show jk P w ok (.ck k) v (c.ρ.getD σ.nv (.i 0));have:=hy 0 (by simp);rw[pA]at this;rw[this];exact e4) (fun i h1 _=>hf.R i h1)
  have hA:jK P σ.rows.length (.v σ.nv) (.ck k)=sF P σ.rows.length (.v σ.nv) k:=rfl;rw[hA]at q2 q3 q4 q5 hrw;generalize sF P σ.rows.length (.v σ.nv) k=O at*;obtain⟨x,rs,tl⟩:=O;simp only at q2 q3 q4 q5 hrw⊢;have g2:av P B w0 {σ with nv:=σ.nv+1,rows:=ai σ.rows rs} c1 a w:=⟨q4.below,q4.hB,q4.defers,q4.size,q4.aC,q4.au,q4.rows,q4.apart⟩;have g3:av P B w0 (St.setCell {σ with nv:=σ.nv+1,rows:=ai σ.rows rs} p off x) c1 a w:=g2.setCell (fun k2 m5=>by have m5:σ.blk p=some k2:=m5;rw[hb]at m5;cases m5;obtain⟨n2,cs2,a1,a2,a3,a4⟩:=g.au p b hb;rw[e1]at a1;cases a1;refine⟨n,cs2,q5.le.β _ _ e1,a2,a3,jb q5.le a4,fun v2 HO=> ?_⟩;rw[dJ JQ,e2]at a3;have:=xX a3;simp only[Obj.cells.injEq]at this;rw[this.1]at e3;simp only[]at e3;rw[e3]at HO;cases HO;exact q3)
  have hm:=rF {σ with nv:=σ.nv+1,rows:=ai σ.rows rs} p off x;have hf3:io (St.setCell {σ with nv:=σ.nv+1,rows:=ai σ.rows rs} p off x) c1:=by
   refine⟨fun q hq=> ?_,fun q hq=> ?_⟩
   ·rw[hm.1]at hq;rw[q1];exact hf.β q hq
   ·rw[hm.2.1]at hq;have hl:=ci rs σ.rows;have hq:(ai σ.rows rs).length<=q:=hq;rw[q2 q ?_]
    ·exact hf.R q (by omega)
    ·by_cases bi:σ.rows.length<=q/\q<tl
     ·obtain⟨z,hz,e⟩:=pB.1 ((hrw.2 q).2 bi);have:=hl.2 z hz;omega
     ·omega
  have ih:=oZ (l:=r) (ys:=ys) g3 hf3 (ok:=ok) (fun p' hp=>⟨fun z hz=>(bT p' hp).1 z (q5.owns z p' (kS (τ:={σ with nv:=σ.nv+1,rows:=ai σ.rows rs}) z p' hz)),by rw[q5.le.K];exact(bT p' hp).2⟩) (pP (fun _ h=>h) (fun z _ n e=>by rw[q1];exact e) hr) (by rw[hm.2.2.1,q5.le.ρ];exact OK);obtain⟨⟨c2,l2,g4,f4⟩,n1,n2,n3,n4⟩:=ih;refine⟨⟨c2,q5.le.trans l2,g4,f4⟩,by rw[n1,hm.2.2.1];simp only;omega,by rw[n2,hm.2.2.2.1],by rw[n3,hm.1],?_⟩;rw[hm.2.1]at n4;exact bI (ci _ _).1 n4
def QH(σ:St)(l:bH):lM σ.row (F3 σ l):=fun q z hz=>by
 unfold F3 at hz;obtain⟨r,_,hr⟩:=LF.1 hz;cases hk:σ.row r with
 |none=>rw[hk]at hr;cases hr
 |some k=>
  rw[hk]at hr;simp only[Option.bind_some]at hr;split at hr
  ·rename_i hp;simp only[eF,iK]at hr;obtain⟨rfl,rfl⟩:=hr;exact⟨k,hk,dF hp,rfl⟩
  ·cases hr
def Ch(g:av P B w0 σ c a w){h:mw}{es:bZ}{fr:cv}(hg:Hy P h σ=some (es,fr)):
 av P B w0 (mF h fr σ) c a w/\A9 P w (cD B (mF h fr σ) c) c h.SQ (es.map (Ex.ev c.ρ))/\(mF h fr σ).nv=σ.nv/\(mF h fr σ).lv=σ.lv/\(mF h fr σ).au.length=σ.au.length/\(mF h fr σ).rows=ai σ.rows fr/\(∀x p,(mF h fr σ).owns c x p->St.owns {σ with rows:=ai σ.rows fr} c x p):=by
 unfold Hy at hg
 cases hh:h.grp.isEmpty with
 |false=>rw[hh]at hg;cases hg
 |true=>
  rw[hh]at hg;have hg:Cg P σ h.SQ=some (es,fr):=hg;obtain⟨g1,hfz⟩:=oB g (fun _ _ e=>e) (Oo hg);have fp:=Ht (σ:=σ) g1 (fun _=>rfl) hg hfz;obtain⟨i1,i2,i3,i4,i5,i6⟩:=As (l:=h.SQ) g1;exact⟨i1,pP (fun p hp=>⟨fun x hx=>hp.1 x (i6 x p hx),hp.2⟩) (fun _ _ _ e=>e) fp,i2,i3,i5,i4,i6⟩
def I1{ρ:ab}{N:Nx}(hi:Is P B w0 c0 c σ ρ N a w){h:mw}{tm:St}{jH:bZ}(ht:template P h σ=some (tm,jH))(hu:σ.under=true)(agZ:jH.all (·.under σ.nv)=true):
 ∃c1,c.sub c1/\c1.ρ=ρ++jH.map (Ex.ev ρ)/\av P B w0 (jl P h tm) c1 a w/\io (jl P h tm) c1/\(jl P h tm).lv=σ.lv+1/\(jl P h tm).nv=σ.nv+jH.length/\tm.au.length=σ.au.length/\σ.rows.length<=tm.rows.length:=by
 have sn:=hi.env
 subst sn
 have yw:∀i,i<σ.nv->(c.ρ++jH.map (Ex.ev c.ρ)).getD i (.i 0)=c.ρ.getD i (.i 0):=fun i h=>aZ _ _ _ _ (by rw[<-hi.nv];exact h)
 have g0:=hi.cO.env hu yw
 have KO:nT (c.ρ++jH.map (Ex.ev c.ρ)) (c.ρ++jH.map (Ex.ev c.ρ)) σ.nv jH:=fun i e he=>by have mZ:e.under σ.nv=true:=lO.1 agZ e (d9 he);rw[Ex.aH yw mZ,hi.nv,cE,lR (by omega),ta,vR,he];rfl
 unfold template at ht
 split at ht
 rotate_left
 ·cases ht
 rename_i eg fr hg
 split at ht
 rotate_left
 ·cases ht
 rename_i tm' es ht0
 simp only[eF,iK]at ht
 obtain⟨rfl,rfl⟩:=ht
 have g1:=(oB g0 (fun _ _ e=>e) (QH σ h.JZ)).1
 obtain⟨g2,fp,n1,n2,n3,n4,_⟩:=Ch (σ:=EK σ h.JZ) g1 hg
 have hlen:σ.rows.length<=(mF h fr (EK σ h.JZ)).rows.length:=by rw[n4];exact bI (ci (F3 σ h.JZ) σ.rows).1 (ci _ _).1
 have n1:(mF h fr (EK σ h.JZ)).nv=σ.nv:=n1
 have n2:(mF h fr (EK σ h.JZ)).lv=σ.lv:=n2
 have n3:(mF h fr (EK σ h.JZ)).au.length=σ.au.length:=n3
 obtain⟨⟨c1,l1,g3,f3,o3⟩,m1,m2,m3,m4⟩:=FM g2 ⟨fun q hq=>hi.fresh.β q (by rw[n3]at hq;exact hq),fun q hq=>hi.fresh.R q (by omega)⟩ ht0 (by rw[n1];exact KO.left)
 obtain⟨⟨c2,l2,g4,f4⟩,k1,k2,k3,k4⟩:=oZ (l:=h.SQ) (ok:=cD B (mF h fr (EK σ h.JZ)) {c with ρ:=c.ρ++(es++eg).map (Ex.ev c.ρ)}) g3 f3 (fun p hp=>⟨fun x hx=>by
  obtain⟨y,hy⟩:=o3 x p hx;exact hp.1 y hy,by rw[l1.K];exact hp.2⟩) (pP (fun _ h=>h) (fun z _=>l1.β z.1) fp) (fun i EO=>by
  rw[m1,n1,l1.ρ];have EO:i<eg.length:=by simpa using EO
  have:=KO.right i eg[i] (cB EO);show(c.ρ++(es++eg).map (Ex.ev c.ρ)).getD _ _=_;rw[this,cE,vR,cB EO];rfl)
 have l:=l1.trans l2
 have hgl:=Ba fp
 simp only[Ab]at hgl
 exact⟨c2,⟨l.K,l.β,l.R⟩,l.ρ,g4,f4,by show(eV P h.SQ tm').lv=_;rw[k2,m4,n2],by show(eV P h.SQ tm').nv=_;rw[k1,m1,n1];simp;omega,by rw[m2,n3],by omega⟩
end
section
variable{P:Program}{B:fZ}{w0:World}{tm σ:St}{c c0 c2:Ct}{a:Act}{w:World}{nv nb nr:Nat}
structure Cut(c2 c:Ct)(nv nb nr:Nat):Prop where
 ρ:∀i,i<nv->c2.ρ.getD i (.i 0)=c.ρ.getD i (.i 0)
 β:∀p,p<nb->c2.β p=c.β p
 R:∀r,r<nr->c2.R r=c.R r
def oz{a b:Nat}(h:blt a b=true):a<b:=by have:(a+1).ble b=true:=h;exact oo this
def At.tQ(hc:Cut c2 c nv nb nr){x:At}(hu:x.under nv=true)(hb:x.inB nb nr=true){v:Value}(h:x.rel c v):x.rel c2 v:=by
 unfold At.inB at hb;simp only[aL]at hb;obtain⟨b1,b2⟩:=hb;have mf:∀e:Ex,e.under nv=true->e.ev c2.ρ=e.ev c.ρ:=fun e he=>Ex.aH hc.ρ he;cases x<;>simp only[At.rel,At.under,aL]at hu h⊢
 case int k e=>rw[mf _ hu];exact h
 case bool e=>rw[mf _ hu];exact h
 case str e=>rw[mf _ hu];exact h
 case ptr p off=>rw[hc.β p (oz (by simpa[At.vY]using b2))];exact h
 case J3 r es ix off=>rw[mf _ hu,hc.R r (oz b1)];exact h
 case vec r=>rw[hc.R r (oz b1)];exact h
 case sl r es lo len=>rw[mf _ hu.1,mf _ hu.2,hc.R r (oz b1)];exact h
 case clip r es lo len=>rw[mf _ hu.1,mf _ hu.2,hc.R r (oz b1)];exact h
 case fn f mE=>
  obtain⟨ns,e,rfl⟩:=h;refine⟨ns,?_,rfl⟩;rw[<-e];refine ND fun p hp=>hc.β p (oz (lO.1 b2 p hp))
 case keys n e=>rw[mf _ hu];exact h
 case mp b=>rw[hc.β b (oz (by simpa[At.vY]using b2))];exact h
 case bs b lo m=>rw[hc.β b (oz (by simpa[At.vY]using b2))];exact h
 case fb f m b=>rw[hc.β b (oz (by simpa[At.vY]using b2))];exact h
 case sp b=>rw[hc.β b (oz (by simpa[At.vY]using b2))];exact h
 all_goals exact h
def Iy(hc:Cut c2 c nv nb nr):∀{xs:eO}{vs:aW},xs.all (·.under nv)=true->xs.all (·.inB nb nr)=true->cm c xs vs->cm c2 xs vs
 |[],[],_,_,_=>trivial|x::xs,v::vs,h1,h2,h=>by simp only[wZ,aL]at h1 h2;exact⟨At.tQ hc h1.1 h2.1 h.1,Iy hc h1.2 h2.2 h.2⟩
 |[],_::_,_,_,h=>h.elim|_::_,[],_,_,h=>h.elim
def SC.tQ(hc:Cut c2 c nv nb nr){x:SC}(hu:x.under nv=true)(hb:x.atoms.all (·.inB nb nr)=true){v:Value}(h:x.rel c v):x.rel c2 v:=by
 cases x with
 |a x=>simp only[SC.atoms,wZ,all_nil,Bool.and_true]at hb;exact At.tQ hc hu hb h|g xs=>obtain⟨vs,e,r⟩:=h;exact⟨vs,e,Iy hc hu hb r⟩
def Po(hc:Cut c2 c nv nb nr):∀{xs:List SC}{vs:aW},xs.all (·.under nv)=true->(xs.flatMap SC.atoms).all (·.inB nb nr)=true->wH c xs vs->wH c2 xs vs
 |[],[],_,_,_=>trivial|x::xs,v::vs,h1,h2,h=>by simp only[wZ,aL,AQ,all_append]at h1 h2;exact⟨SC.tQ hc h1.1 h2.1 h.1,Po hc h1.2 h2.2 h.2⟩
 |[],_::_,_,_,h=>h.elim|_::_,[],_,_,h=>h.elim
def SV.tQ(hc:Cut c2 c nv nb nr){x:SV}(hu:x.under nv=true)(hb:x.atoms.all (·.inB nb nr)=true){v:Value}(h:x.rel c v):x.rel c2 v:=by
 cases x with
 |c x=>exact SC.tQ hc hu hb h|t xs=>obtain⟨vs,e,r⟩:=h;exact⟨vs,e,Po hc hu hb r⟩
 |JU t cs=>obtain⟨vs,e,r⟩:=h;exact⟨vs,e,Iy hc hu hb r⟩
 |nx e p ch=>
  simp only[SV.under,aL]at hu;simp only[SV.rel]at h⊢;rw[Ex.aH hc.ρ hu.1.1,Ex.aH hc.ρ hu.1.2,Ex.aH hc.ρ hu.2];exact h
def OS(hc:Cut c2 c nv nb nr){x y:At}(hk:Mw nv nb nr x y=true){v:Value}(h:y.rel c v):x.rel c2 v:=by unfold Mw at hk;simp only[aL]at hk;exact At.tQ hc hk.1.2 hk.2 (At.uz hk.1.1 h)
def OT(hc:Cut c2 c nv nb nr){x y:SV}(hk:Mx nv nb nr x y=true){v:Value}(h:y.rel c v):x.rel c2 v:=by unfold Mx at hk;simp only[aL]at hk;obtain⟨⟨k1,k2⟩,k3⟩:=hk;exact SV.tQ hc k2 k3 (SV.uz k1 h)
def Sh(tm σ:St)(ρ2 ρ:ab)(nr:Nat)(z:Nat×Nat):Prop:=
 ∃w0 w1 m,tm.row z.1=some w0/\σ.row z.2=some w1/\w1.own=true/\w0.own=true/\w1.el=w0.el/\w1.ks=w0.ks/\w1.agg=w0.agg/\w0.cont= .v m/\ρ2.getD m (.i 0)=w1.cont.ev ρ/\(w1.plain=true/\w0.plain=true)/\nr<=z.1
def I2{m:Nat}{x y:At}{es:bZ}{qs:List (Nat×Nat)}(h:zx tm.rows σ.rows nr m x y=some (es,qs)){ρ2 ρ:ab}(hv:nT ρ2 ρ m es):∀z∈qs,Sh tm σ ρ2 ρ nr z:=by
 unfold zx at h;split at h<;>(try(split at h<;>(try split at h)<;>(try cases h)<;>(intro z hz;cases hz);done))
 ·rename_i r;split at h
  ·rename_i w1 hw1;split at h
   ·rename_i q;split at h
    ·rename_i w0' hw0;split at h
     ·rename_i hc;cases h
      intro z hz;simp only[cw]at hz;subst hz;obtain⟨h1,h2,h3,h4,h5,h6,h6p,h6q,h7⟩:=hc;exact⟨w0',w1,m,hw0,hw1,h1,h2,h3,h4,h5,Ex.aG h6,hv.at,⟨h6p,h6q⟩,h7⟩
     ·cases h
    ·cases h
   ·split at h<;>cases h;intro z hz;cases hz
   ·cases h
  ·cases h
 all_goals cases h
def I3(g:av P B w0 σ c a w)(hR:∀r,r<nr->c2.R r=c.R r){m:Nat}{x y:At}{es:bZ}{qs:List (Nat×Nat)}(h:zx tm.rows σ.rows nr m x y=some (es,qs))(hv:nT c2.ρ c.ρ m es)(hn:∀z∈qs,c2.R z.1=c.R z.2){v:Value}(hy:y.rel c v):x.rel c2 v:=by
 unfold zx at h
 split at h
 ·split at h
  ·split at h
   ·rename_i hc;cases h
    obtain⟨rfl,rfl⟩:=hc;have hy:v=_:=hy;rw[hy];show _=Value.int _ (c2.ρ.getD _ (.i 0)).int;rw[hv.at]
   ·cases h
  ·cases h
 ·split at h
  ·split at h
   ·rename_i hc;cases h
    subst hc;have hy:v=_:=hy;rw[hy];show _=Value.bool (c2.ρ.getD _ (.i 0)).bool;rw[hv.at]
   ·cases h
  ·cases h
 ·split at h
  ·split at h
   ·rename_i hc;cases h
    subst hc;have hy:v=_:=hy;rw[hy];show _=Value.string (c2.ρ.getD _ (.i 0)).str;rw[hv.at]
   ·cases h
  ·cases h
 ·rename_i r;split at h
  ·rename_i w1 hw1;split at h
   ·rename_i q;split at h
    ·split at h
     ·cases h
      have:=hn (q,r) (by simp);exact⟨this.trans hy.1,hy.2⟩
     ·cases h
    ·cases h
   ·split at h
    ·rename_i hc;cases h
     obtain⟨rfl,rfl,bT,rfl,rfl,bi⟩:=hc;simp only[aL]at bT;refine Lu g hw1 bT.1 bT.2 hy.1 ((hR _ bi).trans hy.1) ?_ ?_
     ·show(c2.ρ.getD _ (.i 0)).int=0;rw[hv.at];rfl
     ·show(c2.ρ.getD _ (.i 0)).int=_;rw[hv.at1,eJ];rfl
    ·cases h
   ·cases h
  ·cases h
 ·rename_i r xQ lo len;split at h
  ·split at h
   ·rename_i hc;cases h
    obtain⟨rfl,rfl,rfl,rfl,bi⟩:=hc;rename_i j';have e1:(Ex.v j').ev c2.ρ=lo.ev c.ρ:=hv.at
    have e2:(Ex.v (j'+1)).ev c2.ρ=len.ev c.ρ:=hv.at1;simp only[At.rel,e1,e2,hR _ bi]at hy⊢;exact hy
   ·cases h
  ·cases h
 ·split at h
  ·split at h
   ·rename_i hc;cases h
    obtain⟨rfl,rfl⟩:=hc;have hy:v=_:=hy;rw[hy];show _=Value.tuple (((c2.ρ.getD _ (.i 0)).list).map _).toArray;rw[hv.at]
   ·cases h
  ·cases h
 ·cases h
def Ew{ρ2 ρ:ab}:∀{l:List (Nat×Nat)}{m:Nat}{es:bZ}{qs:List (Nat×Nat)},GV tm σ nr m l=some (es,qs)->nT ρ2 ρ m es->(∀z∈qs,Sh tm σ ρ2 ρ nr z)/\∀t∈l,∃x y e q m',tm.slot t.1= .c (.a x)/\σ.slot t.1= .c (.a y)/\zx tm.rows σ.rows nr m' x y=some (e,q)/\nT ρ2 ρ m' e/\∀z∈q,z∈qs
 |[],m,es,qs,h,_=>by simp only[GV,eF,iK]at h;obtain⟨rfl,rfl⟩:=h;exact⟨fun z hz=>(by cases hz),fun t ht=>(by cases ht)⟩
 |(t,el)::r,m,es,qs,h,hv=>by
  simp only[GV]at h;split at h
  ·rename_i x y hx hy;split at h
   ·rename_i e q hb;split at h
    ·rename_i xQ qs' lE;simp only[eF,iK]at h;obtain⟨rfl,rfl⟩:=h;obtain⟨i1,i2⟩:=Ew lE hv.right;refine⟨fun z hz=>(ic.1 hz).elim (I2 hb hv.left z) (i1 z),fun u hu=> ?_⟩;rcases bX.1 hu with rfl|hu
     ·exact⟨x,y,e,q,m,Qi hx,Qi hy,hb,hv.left,fun z hz=>iv _ hz⟩
     ·obtain⟨x',y',e',q',m',j1,j2,j3,j4,j5⟩:=i2 u hu;exact⟨x',y',e',q',m',j1,j2,j3,j4,fun z hz=>cz _ (j5 z hz)⟩
    ·cases h
   ·cases h
  ·cases h
def B1{ρ2 ρ:ab}:∀{l:List (Nat×Nat×Nat)}{m:Nat}{es:bZ}{qs:List (Nat×Nat)},B0 tm σ nr m l=some (es,qs)->nT ρ2 ρ m es->(∀z∈qs,Sh tm σ ρ2 ρ nr z)/\∀t∈l,∃x y e q m',tm.cellAt t.1 t.2.1=some x/\σ.cellAt t.1 t.2.1=some y/\zx tm.rows σ.rows nr m' x y=some (e,q)/\nT ρ2 ρ m' e/\∀z∈q,z∈qs
 |[],m,es,qs,h,_=>by simp only[B0,eF,iK]at h;obtain⟨rfl,rfl⟩:=h;exact⟨fun z hz=>(by cases hz),fun t ht=>(by cases ht)⟩
 |(p,off,el)::r,m,es,qs,h,hv=>by
  simp only[B0]at h;split at h
  ·rename_i x y hx hy;split at h
   ·rename_i e q hb;split at h
    ·rename_i xQ qs' lE;simp only[eF,iK]at h;obtain⟨rfl,rfl⟩:=h;obtain⟨i1,i2⟩:=B1 lE hv.right;refine⟨fun z hz=>(ic.1 hz).elim (I2 hb hv.left z) (i1 z),fun u hu=> ?_⟩;rcases bX.1 hu with rfl|hu
     ·exact⟨x,y,e,q,m,hx,hy,hb,hv.left,fun z hz=>iv _ hz⟩
     ·obtain⟨x',y',e',q',m',j1,j2,j3,j4,j5⟩:=i2 u hu;exact⟨x',y',e',q',m',j1,j2,j3,j4,fun z hz=>cz _ (j5 z hz)⟩
    ·cases h
   ·cases h
  ·cases h
def Ev{ρ2 ρ:ab}:∀{l:bH}{m:Nat}{es:bZ},LO tm σ m l=some es->nT ρ2 ρ m es->∀r∈l,∃w0 w1 m',tm.row r=some w0/\σ.row r=some w1/\w1.own=true/\w0.own=true/\w1.el=w0.el/\w1.ks=w0.ks/\w1.agg=w0.agg/\w0.cont= .v m'/\ρ2.getD m' (.i 0)=w1.cont.ev ρ/\w1.plain=true/\w0.plain=true
 |[],m,es,h,_=>nofun
 |r::rr,m,es,h,hv=>by
  simp only[LO]at h;split at h
  ·rename_i w0' w1 hx hy;split at h
   ·rename_i hc;obtain⟨h1,h2,h3,h4,h5,h6,h6p,h6q⟩:=hc;split at h
    ·rename_i xQ lE;cases h
     intro u hu;rcases bX.1 hu with rfl|hu
     ·exact⟨w0',w1,m,hx,hy,h1,h2,h3,h4,h5,Ex.aG h6,hv.at,h6p,h6q⟩
     ·exact Ev lE hv.tail u hu
    ·cases h
   ·cases h
  ·cases h
def yF{h:mw}:∀{xs ys:List SV}{n:Nat},rR h nv nb nr n xs ys=true->xs.length=ys.length/\∀t,t<xs.length->(∃u∈h.vars,u.1=n+t)\/Mx nv nb nr (xs.getD t .top) (ys.getD t .top)=true
 |[],[],n,_=>⟨rfl,nofun⟩|x::xs,y::ys,n,hk=>by
  simp only[rR,aL,bY,fS]at hk;obtain⟨i1,i2⟩:=yF hk.2;refine⟨by simp[i1],fun t ht=> ?_⟩;cases t with
  |zero=>
   refine hk.1.imp (fun⟨u,hu,e⟩=>⟨u,hu,fh e⟩) (fun h=> ?_);simpa using h
  |succ t=>
   refine(i2 t (by simpa using ht)).imp (fun⟨u,hu,e⟩=>⟨u,hu,by omega⟩) (fun h=> ?_);simpa using h
 |[],_::_,_,hk=>by simp[rR]at hk
 |_::_,[],_,hk=>by simp[rR]at hk
def yD{cells:List (Nat×Nat×Nat)}{p:Nat}:∀{xs ys:eO}{n:Nat},oH cells nv nb nr p n xs ys=true->∀{P:Nat->At->Value->Prop}{vs:aW},cm c ys vs->(∀(j:Nat)(x y:At)(v:Value),xs[j]? =some x->ys[j]? =some y->(YQ cells p (n+j)=true\/Mw nv nb nr x y=true)->y.rel c v->P j x v)->vs.length=xs.length/\∀(j:Nat)(x:At)(v:Value),xs[j]? =some x->vs[j]? =some v->P j x v
 |[],[],n,_,P,[],_,_=>⟨rfl,fun j x v h=>by simp at h⟩|x::xs,y::ys,n,hk,P,v::vs,hr,hP=>by
  simp only[oH,aL,bY]at hk;obtain⟨i1,i2⟩:=yD (n:=n+1) hk.2 (P:=fun j x v=>P (j+1) x v) hr.2 (fun j x y v h1 h2 h3 h4=>hP (j+1) x y v (by simpa using h1) (by simpa using h2) (by rw[show n+(j+1)=n+1+j by omega];exact h3) h4);refine⟨by simp[i1],fun j u z hu hz=> ?_⟩;cases j with
  |zero=>simp at hu hz;subst hu hz;exact hP 0 x y v rfl rfl hk.1 hr.1|succ j=>exact i2 j u z (by simpa using hu) (by simpa using hz)
 |[],[],_,_,_,_::_,hr,_=>hr.elim|_::_,_::_,_,_,_,[],hr,_=>hr.elim|[],_::_,_,hk,_,_,_,_=>by simp[oH]at hk
 |_::_,[],_,hk,_,_,_,_=>by simp[oH]at hk
def T4:∀{xs:eO}{vs:aW},vs.length=xs.length->(∀(j:Nat)(x:At)(v:Value),xs[j]? =some x->vs[j]? =some v->x.rel c v)->cm c xs vs
 |[],[],_,_=>trivial|x::xs,v::vs,hl,h=>⟨h 0 x v rfl rfl,T4 (by simpa using hl) (fun j x v h1 h2=>h (j+1) x v (by simpa using h1) (by simpa using h2))⟩|[],_::_,hl,_=>by simp at hl
 |_::_,[],hl,_=>by simp at hl
def pb{h:mw}:∀{l:List (Option Bk)}{p:Nat},yC h nv nb nr σ p l=true->∀q k,l.getD q none=some k->∃k',σ.blk (p+q)=some k'/\k.ty=k'.ty/\k.kd=k'.kd/\oH h.cells nv nb nr (p+q) 0 k.cells k'.cells=true
 |[],p,_,q,k,hq=>by simp at hq
 |none::l,p,hk,q,k,hq=>by
  cases q with
  |zero=>simp at hq|succ q=>
   have:=pb (p:=p+1) hk q k (by simpa using hq);rw[show p+(q+1)=p+1+q by omega];exact this
 |some k0::l,p,hk,q,k,hq=>by
  simp only[yC,aL]at hk;cases q with
  |zero=>
   simp at hq;subst hq;have h1:=hk.1;split at h1
   ·rename_i k' fK;simp only[aL]at h1;exact⟨k',fK,fh h1.1.1,fh h1.1.2,h1.2⟩
   ·cases h1
  |succ q=>
   have:=pb (p:=p+1) hk.2 q k (by simpa using hq);rw[show p+(q+1)=p+1+q by omega];exact this
def uy{h:mw}{news:List (Nat×Nat)}:∀{l:List (Option Rw)}{r:Nat},yE h nv nr σ news r l=true->∀q k,l.getD q none=some k->(r+q<nr/\((r+q)∈h.rows\/∃k',σ.row (r+q)=some k'/\k.same k'=true/\k.cont.under nv=true/\k.Ed nv=true/\∀ix off q,k.hole=some (ix,off,q)->q<nr))\/(nr<=r+q/\∃z∈news,z.1=r+q)
 |[],p,_,q,k,hq=>by simp at hq
 |none::l,p,hk,q,k,hq=>by
  cases q with
  |zero=>simp at hq|succ q=>
   have:=uy (r:=p+1) hk q k (by simpa using hq);rw[show p+(q+1)=p+1+q by omega];exact this
 |some k0::l,p,hk,q,k,hq=>by
  simp only[yE,aL]at hk;cases q with
  |zero=>
   simp at hq;subst hq;have h1:=hk.1;split at h1
   ·rename_i bi;simp only[bY]at h1;refine .inl ⟨by simpa using bi,h1.imp jm.1 fun h=> ?_⟩;split at h
    ·rename_i k' fK;simp only[aL]at h;refine⟨k',fK,h.1.1.1,h.1.1.2,h.1.2,fun ix off q hh=> ?_⟩;have:=h.2;rw[hh]at this;exact oz this
    ·cases h
   ·rename_i bi;obtain⟨z,hz,e⟩:=fS.1 h1;exact .inr ⟨by simpa using bi,z,hz,fh e⟩
  |succ q=>
   have:=uy (r:=p+1) hk.2 q k (by simpa using hq);rw[show p+(q+1)=p+1+q by omega];exact this
def CJ:∀{l:List (Option Rw)}{r:Nat}(q:Nat)(k:Rw),l.getD q none=some k->k.own=true->r+q<nr->(r+q)∈Gh nr r l
 |[],_,q,k,hq,_,_=>by simp at hq
 |x::l,r,q,k,hq,ho,bi=>by
  simp only[Gh,ic];cases q with
  |zero=>
   simp at hq;subst hq;left;simp only[pA]at bi⊢;simp[ho,bi]
  |succ q=>
   right;rw[show r+(q+1)=r+1+q by omega];exact CJ q k (by simpa using hq) ho (by omega)
def OA{x y:Option (Ex×Nat×Nat)}(h:HK x y=true):x=y:=by
 unfold HK at h;split at h
 ·rfl
 ·simp only[aL]at h;rw[Ex.aG h.1.1,eq_of_beq h.1.2,eq_of_beq h.2]
 ·cases h
def Rw.aG{k k':Rw}(h:k.same k'=true):k=k':=by
 unfold Rw.same at h;simp only[aL,ei]at h;obtain⟨⟨⟨⟨⟨h1,h2⟩,h3⟩,h4⟩,h5⟩,h6⟩:=h;cases k;cases k'
 simp only at h1 h2 h3 h4 h5 h6;have h6:=OA h6;have h1:=eq_of_beq h1;have h3:=eq_of_beq h3;have h5:=eq_of_beq h5;have h4:=Ex.aG h4;subst h1 h2 h3 h4 h5 h6;rfl
def oN(news:List (Nat×Nat))(nr r:Nat):Option Nat:=if r<nr then some r else(news.find? fun z=>Nat.beq z.1 r).map (·.2)
def Oi:∀{news:List (Nat×Nat)},(news.map (·.1)).Nodup->∀z∈news,(news.find? fun y=>Nat.beq y.1 z.1)=some z
 |[],_,z,hz=>by cases hz
 |y::l,hd,z,hz=>by
  simp only[jQ,xV]at hd;simp only[find?_cons];by_cases he:y.1=z.1
  ·rcases bX.1 hz with rfl|hz
   ·simp
   ·exact(hd.1 (pB.2 ⟨z,hz,he.symm⟩)).elim
  ·have:Nat.beq y.1 z.1=false:=by
    cases hb:Nat.beq y.1 z.1
    ·rfl
    ·exact absurd (fh hb) he
   rw[this];rcases bX.1 hz with rfl|hz
   ·exact absurd rfl he
   ·exact Oi hd.2 z hz
end
def Az{α:Type}{f:α->Nat}:∀{l:List α},(l.map f).Nodup->∀{x y:α},x∈l->y∈l->f x=f y->x=y
 |[],_,_,_,hx,_,_=>by cases hx
 |z::l,hd,x,y,hx,hy,e=>by
  simp only[jQ,xV]at hd;rcases bX.1 hx with h1|h1<;>rcases bX.1 hy with h2|h2
  ·rw[h1,h2]
  ·exact(hd.1 (pB.2 ⟨y,h2,by rw[<-e,h1]⟩)).elim
  ·exact(hd.1 (pB.2 ⟨x,h1,by rw[e,h2]⟩)).elim
  ·exact Az hd.2 h1 h2 e
section
variable{P:Program}{B:fZ}{w0:World}{tm σ:St}{c c0 c':Ct}{a:Act}{w:World}
def NQ{h:mw}{nr:Nat}{jw:bZ}{ρ x:ab}(extra:ab)(hb:WP h ρ.length nr tm σ=some jw)(g:av P B w0 σ c' a w)(sn:c'.ρ=ρ++x)(qD:c.sub c'){σ0:St}(hf:io σ0 c)(hb0:σ0.au.length=tm.au.length)(qb:σ0.rows.length=nr):
 ∃c2,c.sub c2/\c2.ρ=ρ++(jw.map (Ex.ev c'.ρ)++extra)/\av P B w0 tm c2 a w/\io tm c2/\ρ.length+jw.length=tm.nv/\(∀y p,tm.owns c2 y p->∃z,σ.owns c' z p)/\(∀p,p<tm.au.length->c2.β p=c'.β p)/\c2.K=c'.K:=by
 unfold WP at hb
 split at hb
 rotate_left
 ·cases hb
 rename_i e1 r1 SX
 split at hb
 rotate_left
 ·cases hb
 rename_i e2 r2 SY
 split at hb
 rotate_left
 ·cases hb
 rename_i e3 hb3
 split at hb
 rotate_left
 ·cases hb
 rename_i hk
 cases hb
 simp only[aL,keeps]at hk
 obtain⟨⟨⟨⟨⟨⟨k1,k2⟩,k3⟩,k4⟩,k5⟩,k6⟩,k7⟩:=hk
 have hlen:=fh k6
 have hnr:=oo k7
 have d1:=mS k4
 have d2:=mS k5
 generalize gC:r1++r2=news at*
 generalize acp:ρ++((e1++e2++e3).map (Ex.ev c'.ρ)++extra)=ρ2
 have KO:nT ρ2 c'.ρ ρ.length (e1++e2++e3):=fun i e he=>by rw[<-acp,cE,lR (by omega),ta,gA (by rw[Ab];exact(kK.1 he).1),vR,he];rfl
 obtain⟨n1,v1⟩:=Ew SX KO.left.left
 obtain⟨n2,v2⟩:=B1 SY KO.left.right
 have v3:=Ev hb3 (by have:=KO.right;rw[fR]at this;exact this)
 have Yp:∀z∈news,Sh tm σ ρ2 c'.ρ nr z:=fun z hz=>by rw[<-gC]at hz;exact(ic.1 hz).elim (n1 z) (n2 z)
 let c2:Ct:=⟨ρ2,fun p=>if p<tm.au.length then c'.β p else none,fun r=>(oN news nr r).bind c'.R,c'.K⟩
 have ZV:∀r,r<nr->oN news nr r=some r:=fun r hr=>by unfold oN;rw[aA hr]
 have ZW:∀z∈news,oN news nr z.1=some z.2:=fun z hz=>by obtain⟨_,_,_,_,_,_,_,_,_,_,_,_,_,xj⟩:=Yp z hz;unfold oN;rw[aE (by omega),Oi d1 z hz];rfl
 have hR:∀r,r<nr->c2.R r=c'.R r:=fun r hr=>by show(oN news nr r).bind c'.R=_;rw[ZV r hr];rfl
 have hRn:∀z∈news,c2.R z.1=c'.R z.2:=fun z hz=>by show(oN news nr z.1).bind c'.R=_;rw[ZW z hz];rfl
 have hβ:∀p,p<tm.au.length->c2.β p=c'.β p:=fun p hp=>by show(if p<tm.au.length then c'.β p else none)=_;rw[aA hp]
 have ab8:Cut c2 c' ρ.length tm.au.length nr:=⟨fun i hi=>by show ρ2.getD i (.i 0)=_;rw[<-acp,sn,aZ _ _ _ _ hi,aZ _ _ _ _ hi],hβ,hR⟩
 have hq1:∀z∈r1,c2.R z.1=c'.R z.2:=fun z hz=>hRn z (by rw[<-gC];exact iv _ hz)
 have Tj:∀z∈r2,c2.R z.1=c'.R z.2:=fun z hz=>hRn z (by rw[<-gC];exact cz _ hz)
 obtain⟨sl,anU⟩:=yF k1
 have aex:∀r k,tm.row r=some k->∃r',oN news nr r=some r'/\((∃k',σ.row r'=some k'/\k'.own=true/\k.own=true/\k'.el=k.el/\k'.ks=k.ks/\k'.agg=k.agg/\k.cont.ev ρ2=k'.cont.ev c'.ρ/\k'.plain=true/\k.plain=true)\/(σ.row r'=some k/\k.cont.ev ρ2=k.cont.ev c'.ρ/\∀ix off q,k.hole=some (ix,off,q)->q<nr/\ix.ev ρ2=ix.ev c'.ρ))/\((r<nr/\r'=r)\/∃z∈news,z.1=r/\z.2=r'):=fun r k hk=>by
  have:=uy k3 r k hk;rw[eG]at this;rcases this with⟨bi,hm|⟨k',fK,hs,hu,huH,hqn⟩⟩|⟨xj,z,hz,e⟩
  ·obtain⟨w0',w1,m',a1,a2,a3,a4,a5,a6,a7,a8,a9,ap,aq⟩:=v3 r hm;rw[hk]at a1;cases a1;exact⟨r,ZV r bi,.inl ⟨w1,a2,a3,a4,a5,a6,a7,by rw[a8];exact a9,ap,aq⟩,.inl ⟨bi,rfl⟩⟩
  ·have:=Rw.aG hs;subst this;exact⟨r,ZV r bi,.inr ⟨fK,Ex.aH ab8.ρ hu,fun ix off q hh=>⟨hqn ix off q hh,Ex.aH ab8.ρ (by unfold Rw.Ed at huH;rw[hh]at huH;exact huH)⟩⟩,.inl ⟨bi,rfl⟩⟩
  ·subst e;obtain⟨w0',w1,m',a1,a2,a3,a4,a5,a6,a7,a8,a9,⟨ap,aq⟩,Fb⟩:=Yp z hz;rw[hk]at a1;cases a1;exact⟨z.2,ZW z hz,.inl ⟨w1,a2,a3,a4,a5,a6,a7,by rw[a8];exact a9,ap,aq⟩,.inr ⟨z,hz,rfl,rfl⟩⟩
 have dN:∀y p,tm.owns c2 y p->∃y',σ.owns c' y' p/\y'.1=y.1/\(y.1=false->y'.2=y.2)/\(y.1=true->(∃k,tm.row y.2=some k/\k.own=true)/\((y.2<nr/\y'.2=y.2)\/∃z∈news,z.1=y.2/\z.2=y'.2)):=by
  rintro⟨t,q⟩ p h;cases t
  ·obtain⟨⟨k,hk⟩,e⟩:=h;have hkb:=pb k2 q k hk;rw[eG]at hkb;obtain⟨k',fK,_⟩:=hkb;have e:(if q<tm.au.length then c'.β q else none)=some p:=e;refine⟨(false,q),⟨⟨k',fK⟩,?_⟩,rfl,fun _=>rfl,nofun⟩;split at e
   ·exact e
   ·cases e
  ·obtain⟨⟨k,hk,ho⟩,v,e,hp⟩:=h;obtain⟨r',Jo,dz,i8⟩:=aex q k hk;have e:(oN news nr q).bind c'.R=some v:=e;rw[Jo]at e;refine⟨(true,r'),⟨?_,v,e,hp⟩,rfl,(nofun),fun _=>⟨⟨k,hk,ho⟩,i8⟩⟩;rcases dz with⟨k',fK,Jn,_⟩|⟨fK,_⟩
   ·exact⟨k',fK,Jn⟩
   ·exact⟨k,fK,ho⟩
 refine⟨c2,⟨qD.K,fun i n e=> ?_,fun i v e=> ?_⟩,rfl,⟨g.below,g.hB,g.defers,by rw[sl];exact g.size,fun t=> ?_,fun p k hp=> ?_,fun r k hk=> ?_,fun y z p hy hz=> ?_⟩,⟨fun p hp=> ?_,fun r hr=> ?_⟩,hlen,fun y p hy=>by obtain⟨y',hy',_⟩:=dN y p hy;exact⟨y',hy'⟩,hβ,rfl⟩
 ·have bi:i<tm.au.length:=by
   rcases xU i tm.au.length with h|h
   ·exact h
   ·rw[hf.β i (by omega)]at e;cases e
  rw[hβ i bi];exact qD.β i n e
 ·have bi:i<nr:=by
   rcases xU i nr with h|h
   ·exact h
   ·rw[hf.R i (by omega)]at e;cases e
  rw[hR i bi];exact qD.R i v e
 ·by_cases ht:t<tm.aC.length
  ·rcases anU t ht with⟨u,hu,e⟩|amj
   ·obtain⟨x',y',e',q',m',j1,j2,j3,j4,j5⟩:=v1 u hu;rw[eG]at e;rw[e]at j1 j2;have hs:=g.aC t;rw[j2]at hs;rw[j1];exact I3 g hR j3 j4 (fun z hz=>hq1 z (j5 z hz)) hs
   ·exact OT ab8 amj (g.aC t)
  ·rw[zb (Kg ht)];trivial
 ·have hkb:=pb k2 p k hp;rw[eG]at hkb;obtain⟨k',fK,Rb,JQ,Bc⟩:=hkb;obtain⟨n,cs,e,h1,h2,h3⟩:=g.au p k' fK;have atK:p<tm.au.length:=by
   rcases xU p tm.au.length with h|h
   ·exact h
   ·exfalso;have:tm.blk p=none:=by unfold St.blk;simp[cE,mB h]
    rw[this]at hp;cases hp
  refine⟨n,cs,by rw[hβ p atK];exact e,h1,by rw[h2];unfold np;rw[Rb,JQ],?_⟩;obtain⟨l1,l2⟩:=yD Bc (P:=fun _ x v=>x.rel c2 v) h3 (fun j x y v hx hy hor fp=>by
   rcases hor with hc|amk
   ·obtain⟨t,ht,e⟩:=fS.1 hc;simp only[aL]at e;have t1:=fh e.1;have t2:=fh e.2;rw[eG]at t2;obtain⟨x',y',e',q',m',j1,j2,j3,j4,j5⟩:=v2 t ht;rw[t1,t2]at j1 j2;unfold St.cellAt at j1 j2;rw[hp]at j1;rw[fK]at j2;have j1:k.cells[j]? =some x':=j1;have j2:k'.cells[j]? =some y':=j2;rw[hx]at j1;cases j1;rw[hy]at j2;cases j2;exact I3 g hR j3 j4 (fun z hz=>Tj z (j5 z hz)) fp
   ·exact OS ab8 amk fp)
  exact T4 l1 l2
 ·obtain⟨r',Jo,dz,_⟩:=aex r k hk;have xR:c2.R r=c'.R r':=by show(oN news nr r).bind c'.R=_;rw[Jo];rfl
  have bT:∀p o u,cD B σ c' p->w.cell? ⟨p,o,none⟩=some u->cD B tm c2 p/\w.cell? ⟨p,o,none⟩=some u:=fun p o u hp hu=>⟨⟨fun y hy=>by obtain⟨y',hy',_⟩:=dN y p hy;exact hp.1 y' hy',hp.2⟩,hu⟩
  rcases dz with⟨k',fK,Jn,ho,f1,f2,f3,mf,hp1,Ti⟩|⟨fK,mf,Yg⟩
  ·obtain⟨v,e,D,ad,n,cap,rfl,h0,h1,h2,h3,h4,h5,h6⟩:=g.rows r' k' fK;have mf:k.cont.ev c2.ρ=k'.cont.ev c'.ρ:=mf;refine⟨_,xR.trans e,D,ad,n,cap,rfl,by rw[mf];exact h0,h1,h2,h3,fun _=> ?_,(fun h=>by rw[ho]at h;cases h),fun x hx i k2 m5=> ?_⟩
   ·rcases h4 Jn with hz|⟨hz,hb⟩
    ·exact .inl hz
    ·exact .inr ⟨.of (dF Ti) (by rw[<-f1,<-f2,<-f3];exact hz.plain (dF hp1)),hb⟩
   ·rw[<-f2]at m5;rw[<-f3];exact(h6 x hx i k2 m5).mono bT
  ·obtain⟨v,e,qq⟩:=g.rows r' k fK;have mf:k.cont.ev c2.ρ=k.cont.ev c'.ρ:=mf;refine⟨v,xR.trans e,qq.mono bT (fun _ _ _ _=>rfl) (by rw[mf]) (fun n l H hH=> ?_)⟩;unfold kP at hH⊢;split
   ·rename_i hh;rw[hh]at hH;exact hH
   ·rename_i ix off q hh;rw[hh]at hH;obtain⟨hq,Va⟩:=Yg ix off q hh;have Va:ix.ev c2.ρ=ix.ev c'.ρ:=Va;simp only[hR q hq,Va];exact hH
 ·obtain⟨y',hy',y1,y2,y3⟩:=dN y p hy;obtain⟨z',hz',z1,z2,z3⟩:=dN z p hz;have:=g.apart y' z' p hy' hz';subst this;have amG:y.1=z.1:=y1.symm.trans z1;obtain⟨ty,qy⟩:=y;obtain⟨tz,qz⟩:=z;simp only at amG y2 y3 z2 z3;subst amG;cases ty
  ·rw[<-y2 rfl,<-z2 rfl]
  ·obtain⟨⟨ky,hky,hoy⟩,py⟩:=y3 rfl;obtain⟨⟨kz,gB,hoz⟩,pz⟩:=z3 rfl;have bj:∀q k,tm.row q=some k->k.own=true->q<nr->∀z∈news,z.2≠q:=fun q k hq ho bi z hz e=>by have m1:=CJ (r:=0) (nr:=nr) q k hq ho (by omega);rw[eG]at m1;exact(Kh.1 d2).2.2 z.2 (NB hz) q m1 e
   rcases py with⟨ly,ey⟩|⟨zy,my,ey,fy⟩<;>rcases pz with⟨lz,ez⟩|⟨zz,mz,ez,fz⟩
   ·rw[<-ey,<-ez]
   ·exact(bj qy ky hky hoy ly zz mz (fz.trans ey)).elim
   ·exact(bj qz kz gB hoz lz zy my (fy.trans ez)).elim
   ·have:=Az (Kh.1 d2).1 my mz (fy.trans fz.symm);subst this;rw[<-ey,<-ez]
 ·show(if p<tm.au.length then c'.β p else none)=none;rw[aE (by omega)]
 ·show(oN news nr r).bind c'.R=none;have:oN news nr r=none:=by
   unfold oN;rw[aE (by omega)];cases hfd:news.find? fun z=>Nat.beq z.1 r with
   |none=>rfl|some z=>
    have hz:=mem_of_find?_eq_some hfd;have he:z.1=r:=fh (by simpa using find?_some hfd);obtain⟨w0',_,_,a1,_⟩:=Yp z hz;have:=RB a1;omega
  rw[this];rfl
def G4(g:av P B w0 σ c a w){r:Nat}{σ':St}(h:G3 P σ r=some σ'):av P B w0 σ' c a w/\σ'.au=σ.au/\σ'.aC=σ.aC/\σ'.nv=σ.nv:=by
 unfold G3 at h;split at h;rotate_left
 ·cases h
 rename_i k hk;split at h;rotate_left
 ·cases h;exact⟨g,rfl,rfl,rfl⟩
 rename_i ix off q Yg;split at h;rotate_left
 ·cases h
 rename_i hc;simp only[aL]at hc;obtain⟨bj,qv⟩:=hc;split at h;rotate_left
 ·cases h
 rename_i e fr he;split at h;rotate_left
 ·cases h
 rename_i Q5;cases h
 refine⟨?_,rfl,rfl,rfl⟩;have Q5:r∉fr.map (·.1):=fun hm=>by obtain⟨z,hz,ez⟩:=pB.1 hm;have:=lO.1 Q5 z hz;rw[ez,BK]at this;cases this
 obtain⟨bT,i8⟩:=dq qv;have DJ:=(zK he).1;obtain⟨g1,hfz⟩:=oB g (fun _ _ h=>h) DJ;have Tc:St.row {σ with rows:=ai σ.rows fr} r=some k:=by obtain⟨_,h2⟩:=av.F2 g (fr:=fr) DJ;rw[h2 r k hk,aE Q5]
 obtain⟨v,hR,D,ad,n,cap,rfl,d0,h1,h2,h3,h4,_,h6⟩:=g1.rows r k Tc;have hc:(fun i=>if i=r then some (Value.slice ad n cap)else c.R i)=c.R:=by
  funext i;by_cases h:i=r
  ·subst h;simp[hR]
  ·simp[h]
 have fin:∀D':ab,((xO .mu k.cont ix e).ev c.ρ).er= .l (dP D')->D'.length=n->(cap=0\/w.ownsRow 0 k.el k.ks.length (.slice ad n cap) n (ag k.agg k.ks D'))->(∀x∈D',dR P w (cD B {σ with rows:=ai σ.rows fr} c) k.agg k.ks x)->
  av P B w0 {σ with rows:=ai σ.rows (fr++[(r,some {k with cont:=xO .mu k.cont ix e,hole:=none})])} c a w:=fun D' q1 q2 q3 q4=>by
  have gg:=g1.uf Tc bj hR (w':=w) (World.grownBy.refl _ _) (r':=r) (k':={k with cont:=xO .mu k.cont ix e,hole:=none}) bj rfl (D:=D') (ad:=ad) (n:=n) (cap:=cap) q1 q2 h2 h3 q3 (.inl rfl) (.inr ⟨rfl,rfl⟩) q4
  rw[hc]at gg
  simp only[oQ]at gg
  rw[<-wE]at gg
  exact gg
 have aeE:((xO .mu k.cont ix e).ev c.ρ)=Sc.l ((k.cont.ev c.ρ).list.set (ix.ev c.ρ).int.toNat (e.ev c.ρ)):=by rw[qE];rfl
 rcases h4 bj with hz|⟨⟨H,hw,fp⟩,hbp⟩
 ·have hD:D=[]:=length_eq_zero_iff.1 (by omega);subst hD;refine fin [] ?_ h1 (.inl hz) (nofun);have hl:=dh d0;have:(k.cont.ev c.ρ).list=[]:=by have:=eU hl;exact length_eq_zero_iff.1 (by rw[<-this];rfl)
  rw[aeE,this];exact gh []
 unfold kP at fp;rw[Yg]at fp;obtain⟨u,hu,at0,i0,i1,DP,hH⟩:=fp;have rQ:(k.elem ix).ev c.ρ=(k.cont.ev c.ρ).list.getD (ix.ev c.ρ).int.toNat (.i 0):=by unfold Rw.elem;rw[aR];rfl
 have hd0:(D.getD (ix.ev c.ρ).int.toNat (.i 0)).er=((k.elem ix).ev c.ρ).er:=by rw[rQ];exact FY (dh d0) _
 have ti:D.getD (ix.ev c.ρ).int.toNat (.i 0)∈D:=by rw[cE,cB (by omega)];exact BQ _
 obtain⟨d,hd,QU,hdc,Mt⟩:=ED g1 he hfz (vs:=[u]) ⟨⟨hu,at0⟩,trivial⟩ hd0 (h6 _ ti);generalize hi:(ix.ev c.ρ).int.toNat=i at*;have hil:i<D.length:=by omega
 have fm:=cg bT (D.getD i (.i 0));have yx:=yq bT D i (D.getD i (.i 0)) hil;have HN:D.set i (D.getD i (.i 0))=D:=by rw[cE,cB hil];simp
 rw[HN]at yx;have QW:=yq bT D i d hil;have ut:=aD bT D;rw[h1]at ut;have ayZ:i*k.ks.length+k.ks.length<=n*k.ks.length:=by rw[<-succ_mul];exact fu _ (by omega)
 have XQ:((ag k.agg k.ks D).take (i*k.ks.length)).length=i*k.ks.length:=by rw[iW,ut];omega
 have YF:=Ln ((ag k.agg k.ks D).take (i*k.ks.length)) (bP k.agg k.ks (D.getD i (.i 0))) ((ag k.agg k.ks D).drop (i*k.ks.length+k.ks.length)) [u] off Mt;rw[<-yx,XQ,<-hdc,<-QW]at YF;have Ag:(ag k.agg k.ks D).set (i*k.ks.length+off) u=(ag k.agg k.ks D).take (i*k.ks.length+off)++[u]++(ag k.agg k.ks D).drop (i*k.ks.length+off+1):=by rw[set_eq_take_append_cons_drop,aA (by rw[ut];omega)];simp
 refine fin (D.set i d) ?_ (by rw[BO];exact h1) (.inr ?_) (fun x hx=>by
  rcases Ke hx with hx|rfl
  ·exact h6 x hx
  ·exact QU)
 ·rw[aeE,gh,FZ,FZ,<-dh d0,hd]
 ·have:H=ag k.agg k.ks (D.set i d):=by rw[hH,Ag,<-YF,td];rfl
  rw[<-this];exact hw
def xe:∀{l:bH}{σ σ':St},uW P l σ=some σ'->av P B w0 σ c a w->av P B w0 σ' c a w
 |[],σ,σ',h,g=>by simp only[uW,eF]at h;rw[<-h];exact g
 |r::rs,σ,σ',h,g=>by
  simp only[uW]at h;split at h
  ·rename_i σ1 h1;exact xe h (G4 g h1).1
  ·cases h
def Qj{h:mw}{nr:Nat}{jw:bZ}{ρ x:ab}(hb:back P h ρ.length nr tm σ=some jw)(g:av P B w0 σ c' a w)(sn:c'.ρ=ρ++x)(qD:c.sub c'){σ0:St}(hf:io σ0 c)(hb0:σ0.au.length=tm.au.length)(qb:σ0.rows.length=nr):
 ∃c2,c.sub c2/\c2.ρ=ρ++jw.map (Ex.ev c'.ρ)/\av P B w0 (jl P h tm) c2 a w/\io (jl P h tm) c2/\ρ.length+jw.length=(jl P h tm).nv:=by
 unfold back at hb
 split at hb
 ·cases hb
 rename_i σ1 fm
 have g1:=xe fm g
 split at hb
 rotate_left
 ·cases hb
 rename_i eg fr hg
 have hg:(h.SQ.all fun x=>blt x.1 tm.au.length)=true/\Hy P h σ1=some (eg,fr):=by
  cases hh:(h.SQ.all fun x=>blt x.1 tm.au.length)with
  |true=>rw[hh]at hg;exact⟨rfl,hg⟩|false=>rw[hh]at hg;cases hg
 obtain⟨bi,hg⟩:=hg
 split at hb
 rotate_left
 ·cases hb
 rename_i es SX
 cases hb
 obtain⟨g2,fp,_⟩:=Ch g1 hg
 obtain⟨c2,s1,s2,g3,f3,n1,o3,b3,k3⟩:=NQ (eg.map (Ex.ev c'.ρ)) SX g2 sn qD hf hb0 qb
 obtain⟨⟨c4,l4,g4,f4⟩,m1,_,_,_⟩:=oZ (l:=h.SQ) g3 f3 (ok:=cD B (mF h fr σ1) c') (fun p hp=>⟨fun x hx=>by
  obtain⟨y,hy⟩:=o3 x p hx;exact hp.1 y hy,by rw[k3];exact hp.2⟩) (pP (fun _ h=>h) (fun z hz n e=>by rw[b3 z.1 (oz (lO.1 bi z hz))];exact e) fp) (fun i hi=>by
  have EO:i<eg.length:=by simpa using hi
  rw[s2,<-n1,<-eh,cE,lR (by simp)];rw[cE];congr 2;simp)
 have hgl:=Ba fp
 simp only[Ab]at hgl
 refine⟨c4,s1.trans l4.sub,by rw[l4.ρ,s2,BP],g4,f4,?_⟩
 show _=(eV P h.SQ tm).nv
 rw[m1,<-n1];simp;omega
end
def T.vZ{Γ:Nat->dK}{L M:Type}:∀{t:T L}{f:L->T M}{ρ:ab}{N:Nx}{Φ:M->ab->Nx->Prop},t.wp Γ ρ N (fun x ρ' N'=>(f x).wp Γ ρ' N' Φ)->(t.bind f).wp Γ ρ N Φ
 | .ah x,f,ρ,N,Φ,h=>h| .fail _,_,_,_,_,h=>h| .ite c p q,f,ρ,N,Φ,h=>by
   simp only[T.wp,T.bind]at h⊢;split
   ·rename_i hc;rw[aA hc]at h;exact T.vZ h
   ·rename_i hc;rw[aE hc]at h;exact T.vZ h
 | .aa c t,f,ρ,N,Φ,h=>⟨h.1,T.vZ h.2⟩| .call g es n t,f,ρ,N,Φ,⟨rs,h1,h2,h3⟩=>⟨rs,h1,h2,T.vZ h3⟩| .loop jH t,f,ρ,N,Φ,⟨I,μ,h1,h2⟩=>⟨I,μ,h1,fun jw hl hI=>T.vZ (h2 jw hl hI)⟩| .next l vs,_,_,_,_,h=>h
def Xt.ail:Xt->Exit| .norm=> .normal| .exit n=> .exit n| .ret=> .ret
section
variable{B:fZ}{w0:World}{Γ:Nat->dK}{X:Cx}
def O8{c:Ct}{e:Ex}{x y:SV}{v:Value}(h:if(e.ev c.ρ).bool=true then x.rel c v else y.rel c v):(MH e x y).rel c v:=by
 unfold MH;cases h1:x.le y
 ·cases h2:y.le x
  ·simp only[cond_false];split
   ·rename_i p q;show v= .bool (U3.ev .ite (e.ev c.ρ) (p.ev c.ρ) (q.ev c.ρ)).bool;simp only[U3.ev];split at h
    ·rename_i hc;rw[aA hc];exact h
    ·rename_i hc;rw[aE hc];exact h
   ·rename_i k p k' q;split
    ·rename_i hk;subst hk;show v= .int k (U3.ev .ite (e.ev c.ρ) (p.ev c.ρ) (q.ev c.ρ)).int;simp only[U3.ev];split at h
     ·rename_i hc;rw[aA hc];exact h
     ·rename_i hc;rw[aE hc];exact h
    ·trivial
   ·trivial
  ·simp only[cond_false,cond_true];split at h
   ·exact SV.uz h2 h
   ·exact h
 ·simp only[cond_true];split at h
  ·exact h
  ·exact SV.uz h1 h
def Ii{e:Ex}:∀{xs ys zs:List SV},MG e xs ys=some zs->zs.length=xs.length/\zs.length=ys.length/\∀(c:Ct)(t:Nat)(v:Value),(if(e.ev c.ρ).bool=true then(xs.getD t .top).rel c v else(ys.getD t .top).rel c v)->(zs.getD t .top).rel c v
 |[],[],zs,h=>by
  cases h
  exact⟨rfl,rfl,fun c t v _=>by simp only[getD_nil];trivial⟩
 |x::xs,y::ys,zs,h=>by
  unfold MG at h;split at h
  ·rename_i r hr;cases h
   obtain⟨i1,i2,i3⟩:=Ii hr;refine⟨by simp[i1],by simp[i2],fun c t v hv=> ?_⟩;cases t with
   |zero=>exact O8 hv|succ t=>exact i3 c t v hv
  ·cases h
 |[],_::_,_,h=>by cases h
 |_::_,[],_,h=>by cases h
def IJ:∀{xs ys:eO},Gq xs ys=true->xs=ys
 |[],[],_=>rfl|x::xs,y::ys,h=>by simp only[Gq,aL]at h;rw[At.aG h.1,IJ h.2]
 |[],_::_,h=>by cases h
 |_::_,[],h=>by cases h
def yX:∀{xs ys:List (Option Bk)},sK xs ys=true->xs=ys
 |[],[],_=>rfl|none::xs,none::ys,h=>by rw[yX (xs:=xs) (ys:=ys) h]
 |some a::xs,some b::ys,h=>by simp only[sK,aL]at h;obtain⟨⟨⟨h1,h4⟩,h2⟩,h3⟩:=h;obtain⟨ac,at_,ak⟩:=a;obtain⟨bc,bt,bk⟩:=b;have h1:=fh h1;have h4:=fh h4;have h2:=IJ h2;simp only at h1 h2 h4;rw[h1,h2,h4,yX h3]
 |[],_::_,h=>by simp[sK]at h
 |_::_,[],h=>by simp[sK]at h
 |none::_,some _::_,h=>by cases h
 |some _::_,none::_,h=>by cases h
def yY:∀{xs ys:List (Option Rw)},sL xs ys=true->xs=ys
 |[],[],_=>rfl|none::xs,none::ys,h=>by rw[yY (xs:=xs) (ys:=ys) h]
 |some a::xs,some b::ys,h=>by simp only[sL,aL]at h;rw[Rw.aG h.1,yY h.2]
 |[],_::_,h=>by simp[sL]at h
 |_::_,[],h=>by simp[sL]at h
 |none::_,some _::_,h=>by cases h
 |some _::_,none::_,h=>by cases h
def xS(ρ:ab)(N:Nx)(σ' σm:St):Prop:=∀P B w0 c0 c a w,Is P B w0 c0 c σ' ρ N a w->Is P B w0 c0 c σm ρ N a w
def Ij{e:Ex}{x y m:St}(h:MI e x y=some m)(ρ:ab)(N:Nx):if(e.ev ρ).bool=true then xS ρ N x m else xS ρ N y m:=by
 unfold MI at h;split at h;rotate_left
 ·cases h
 rename_i hc;simp only[aL]at hc;obtain⟨⟨⟨h1,h2⟩,h3⟩,h4⟩:=hc;replace h1:=fh h1;replace h2:=fh h2;replace h3:=yX h3;replace h4:=yY h4;split at h;rotate_left
 ·cases h
 rename_i s hs;cases h
 obtain⟨l1,l2,hr⟩:=Ii hs;obtain⟨xn,xl,xs,xb,xr⟩:=x;obtain⟨yn,yl,ys,yb,yr⟩:=y;simp only at h1 h2 h3 h4 hs l1 l2 hr;subst h1 h2 h3 h4;split
 ·rename_i hb;intro P B w0 c0 c a w hi;refine⟨hi.sub,hi.env,⟨hi.cO.below,hi.cO.hB,hi.cO.defers,by simp only[l1];exact hi.cO.size,fun t=>hr c t _ ?_,hi.cO.au,hi.cO.rows,hi.cO.apart⟩,⟨hi.fresh.β,hi.fresh.R⟩,hi.nv,hi.lv⟩;rw[hi.env,aA hb];exact hi.cO.aC t
 ·rename_i hb;intro P B w0 c0 c a w hi;refine⟨hi.sub,hi.env,⟨hi.cO.below,hi.cO.hB,hi.cO.defers,by simp only[l2];exact hi.cO.size,fun t=>hr c t _ ?_,hi.cO.au,hi.cO.rows,hi.cO.apart⟩,⟨hi.fresh.β,hi.fresh.R⟩,hi.nv,hi.lv⟩;rw[hi.env,aE hb];exact hi.cO.aC t
def PU{Γ:Nat->dK}{ρ:ab}{N:Nx}{a m:St}(hc:xS ρ N a m){t:T St}(h:t.wp Γ ρ N (fun σ' ρ' N'=>ρ'=ρ/\N'=N/\xS ρ N σ' a)):t.wp Γ ρ N (fun σ' ρ' N'=>ρ'=ρ/\N'=N/\xS ρ N σ' m):=
 T.wp_mono h (fun _ _ _ hx=>⟨hx.1,hx.2.1,fun P B w0 c0 c a' w hi=>hc P B w0 c0 c a' w (hx.2.2 P B w0 c0 c a' w hi)⟩)
def Rn{Γ:Nat->dK}{ρ:ab}{N:Nx}:∀{t:T St}{σm:St},t.mrg=some σm->t.wp Γ ρ N (fun σ' ρ' N'=>ρ'=ρ/\N'=N/\xS ρ N σ' σm)
 | .ah σ,σm,h=>by
   cases h
   exact⟨rfl,rfl,fun _ _ _ _ _ _ _ hi=>hi⟩
 | .ite c p q,σm,h=>by
   unfold T.mrg at h;split at h
   ·rename_i a b ha hb;have hc:=Ij h ρ N;simp only[T.wp];split
    ·rename_i Ml;rw[aA Ml]at hc;exact PU hc (Rn ha)
    ·rename_i Ml;rw[aE Ml]at hc;exact PU hc (Rn hb)
   ·cases h
 | .fail _,_,h=>by cases h
 | .aa _ _,_,h=>by cases h
 | .call _ _ _ _,_,h=>by cases h
 | .loop _ _,_,h=>by cases h
 | .next _ _,_,h=>by cases h
def IQ{σ:St}{t:Nat}{e:Ex}{b:Bool}{ρ:ab}{N:Nx}(hs:σ.slot t= .c (.a (.bool e)))(hb:(e.ev ρ).bool=b):xS ρ N σ {σ with aC:=σ.aC.set t (.at (.bool (.b b)))}:=by
 intro P B w0 c0 c a w hi;obtain⟨xn,xl,xs,xb,xr⟩:=σ;refine⟨hi.sub,hi.env,⟨hi.cO.below,hi.cO.hB,hi.cO.defers,by simp only[BO];exact hi.cO.size,fun q=> ?_,hi.cO.au,hi.cO.rows,hi.cO.apart⟩,⟨hi.fresh.β,hi.fresh.R⟩,hi.nv,hi.lv⟩;have h1:=hi.cO.aC q;by_cases hq:q=t
 ·subst hq;have hv:a.tmps.getD q undef= .bool (e.ev c.ρ).bool:=by rw[hs]at h1;exact h1
  by_cases hl:q<xs.length
  ·have:St.slot {nv:=xn,lv:=xl,aC:=xs.set q (.at (.bool (.b b))),au:=xb,rows:=xr} q= .at (.bool (.b b)):=by simp[St.slot,cE,hl]
   rw[this];show a.tmps.getD q undef= .bool b;rw[hv,hi.env,hb]
  ·have:St.slot {nv:=xn,lv:=xl,aC:=xs.set q (.at (.bool (.b b))),au:=xb,rows:=xr} q= .top:=by simp[St.slot,cE,hl]
   rw[this];trivial
 ·have:St.slot {nv:=xn,lv:=xl,aC:=xs.set t (.at (.bool (.b b))),au:=xb,rows:=xr} q=St.slot {nv:=xn,lv:=xl,aC:=xs,au:=xb,rows:=xr} q:=by simp[St.slot,cE,Ne.symm hq]
  rw[this];exact h1
def Ry{L:Type}{Γ:Nat->dK}{ops:dB}{n:Nat}{σ:St}{k:St->T L}{ρ:ab}{N:Nx}{Φ:L->ab->Nx->Prop}(h:(Gm ops n σ k).wp Γ ρ N Φ):∃σ',xS ρ N σ σ'/\(k σ').wp Γ ρ N Φ:=by
 unfold Gm at h;split at h;rotate_left
 ·exact⟨σ,fun _ _ _ _ _ _ _ hi=>hi,h⟩
 split at h
 ·exact⟨σ,fun _ _ _ _ _ _ _ hi=>hi,h⟩
 ·rename_i hs;simp only[T.wp]at h;split at h
  ·rename_i hb;exact⟨_,IQ hs hb,h⟩
  ·rename_i hb;exact⟨_,IQ (b:=false) hs (by simpa using hb),h⟩
 ·exact⟨σ,fun _ _ _ _ _ _ _ hi=>hi,h⟩
def IP(hX:X.ok Γ B w0){inl:HU}(yy:Kc X Γ B w0 inl){ops:dB}:∀(ms:bH)(rest:dB)(n:Nat)(σ:St)(ρ:ab)(N:Nx)(Φ:St->ab->Nx->Prop)(c0 c:Ct)(a:Act)(w:World)(Q:Exit->Act->World->Prop),(Z7 X inl ops ms rest n σ).wp Γ ρ N Φ->Is X.P B w0 c0 c σ ρ N a w->(∀σ' r n c' a' w',Φ σ' (ρ++r) (N++n)->Is X.P B w0 c0 c' σ' (ρ++r) (N++n) a' w'->Q .normal a' w')->wpList X.P ops.toArray Q rest a w
 |[],rest,n,σ,ρ,N,Φ,c0,c,a,w,Q,h,hi,hQ=>Eb hX yy rest n σ ρ N Φ c0 c a w Q h hi hQ|m::ms,rest,n,σ,ρ,N,Φ,c0,c,a,w,Q,h,hi,hQ=>by
  unfold Z7 at h;have key:∀σ' r n' c' a' w',(Gm ops (n+m-1) σ' (Z7 X inl ops ms (rest.drop m) (n+m))).wp Γ (ρ++r) (N++n') Φ->Is X.P B w0 c0 c' σ' (ρ++r) (N++n') a' w'->wpList X.P ops.toArray Q (rest.drop m) a' w':=by
   intro σ' r n' c' a' w' h1 m8;obtain⟨σ2,hc,h2⟩:=Ry h1;exact IP hX yy ms (rest.drop m) (n+m) σ2 (ρ++r) (N++n') Φ c0 c' a' w' Q h2 (hc _ _ _ _ _ _ _ m8) (fun σ3 r3 n3 c3 a3 w3 hΦ amf=>by rw[eh,eh]at hΦ amf;exact hQ σ3 (r++r3) (n'++n3) c3 a3 w3 hΦ amf)
  have OC:=Qd m rest;rw[<-OC];unfold Zl at h;split at h
  ·rename_i σm hm;refine zY hX yy (rest.take m) (rest.drop m) n σ ρ N _ c0 c a w Q (Rn (Γ:=Γ) (ρ:=ρ) (N:=N) hm) hi (fun σ' r n c' a' w' hΦ m8=> ?_);obtain⟨e1,e2,Fv⟩:=hΦ;have e1:r=[]:=append_cancel_left (by rw[e1,uP]);have e2:n=[]:=append_cancel_left (by rw[e2,uP]);subst e1;subst e2;have hI:=Fv X.P B w0 c0 c' a' w' (by simpa using m8);exact key σm [] [] c' a' w' (by simpa[T.bind,T.wp]using h) (by simpa using hI)
  ·exact zY hX yy (rest.take m) (rest.drop m) n σ ρ N _ c0 c a w Q (T.wp_bind h) hi (fun σ' r n c' a' w' hΦ m8=>key σ' r n c' a' w' hΦ m8)
def Gx(P:Program)(B:fZ)(w0:World)(Φ:Xt×St->ab->Nx->Prop)(c0:Ct)(ρ:ab)(N:Nx)(Q:Exit->Act->World->Prop):Prop:=
 ∀e σ' r n c' a' w',Φ (e,σ') (ρ++r) (N++n)->Is P B w0 c0 c' σ' (ρ++r) (N++n) a' w'->Q e.ail a' w'
def Gx.ext{P:Program}{Φ:Xt×St->ab->Nx->Prop}{c0:Ct}{ρ:ab}{N:Nx}{Q:Exit->Act->World->Prop}(h:Gx P B w0 Φ c0 ρ N Q)(r:ab)(n:Nx):Gx P B w0 Φ c0 (ρ++r) (N++n) Q:=fun e σ' r' n' c' a' w' hΦ hi=>by rw[eh,eh]at hΦ hi;exact h e σ' _ _ c' a' w' hΦ hi
def Gx.sub{P:Program}{Φ:Xt×St->ab->Nx->Prop}{c0 c:Ct}{ρ:ab}{N:Nx}{Q:Exit->Act->World->Prop}(h:Gx P B w0 Φ c0 ρ N Q)(hs:c0.sub c):Gx P B w0 Φ c ρ N Q:=fun e σ' r n c' a' w' hΦ hi=>
 h e σ' r n c' a' w' hΦ ⟨hs.trans hi.sub,hi.env,hi.cO,hi.fresh,hi.nv,hi.lv⟩
def QD(hX:X.ok Γ B w0){inl:HU}(yy:Kc X Γ B w0 inl)(fk:Nat):∀(code:Code)(σ:St)(ρ:ab)(N:Nx)(Φ:Xt×St->ab->Nx->Prop)(c0 c:Ct)(a:Act)(w:World)(Q:Exit->Act->World->Prop),
 (exec X inl fk code σ).wp Γ ρ N Φ->Is X.P B w0 c0 c σ ρ N a w->Gx X.P B w0 Φ c0 ρ N Q->code.wp X.P Q a w:=by
 intro code
 induction code with
 |skip=>
  intro σ ρ N Φ c0 c a w Q h hi hQ;refine wp_skip ?_;have:=hQ .norm σ [] [] c a w;simp only[uP]at this;exact this h hi
 |exit id=>
  intro σ ρ N Φ c0 c a w Q h hi hQ;refine wp_exit ?_;have:=hQ (.exit id) σ [] [] c a w;simp only[uP]at this;exact this h hi
 |ret=>
  intro σ ρ N Φ c0 c a w Q h hi hQ;refine wp_ret ?_;have:=hQ .ret σ [] [] c a w;simp only[uP]at this;exact this h hi
 |region id ops draw=>
  intro σ ρ N Φ c0 c a w Q h hi hQ;simp only[exec]at h;cases draw
  ·simp only[cond_false]at h;refine wp_region_list ?_;cases hmg:iC X.mg fk
   ·rw[hmg]at h;exact Eb hX yy ops.toList 0 σ ρ N _ c0 c a w Q (T.wp_bind h) hi (fun σ' r n c' a' w' hΦ m8=>hQ .norm σ' r n c' a' w' hΦ m8)
   ·rw[hmg]at h;simp only[cond_true]at h;exact IP hX yy _ ops.toList 0 σ ρ N _ c0 c a w Q (T.wp_bind h) hi (fun σ' r n c' a' w' hΦ m8=>hQ .norm σ' r n c' a' w' hΦ m8)
  ·simp only[cond_true]at h;cases ht:Uo ops.toList (Kz X ops.toList)
   ·rw[ht]at h;simp only[cond_false]at h;refine Qx hX (Φ:=fun σ' ρ' N'=>Φ (.norm,σ') ρ' N') (σ:=σ) (ρ:=ρ) (N:=N) ?_ hi Q (fun σ' r c' a' w' hΦ m8=> ?_)
    ·split
     ·rename_i hu;rw[aA hu]at h;exact T.vZ (T.wp_mono (T.wp_bind h) (fun x r n hx=>hx))
     ·rename_i hu;rw[aE hu]at h;exact h
    ·have:=hQ .norm σ' r [] c' a' w';simp only[uP]at this;exact this hΦ m8
   ·rw[ht]at h;simp only[cond_true]at h;split at h
    ·rename_i hu;refine R4 hX yy ht (Φ:=fun σ' ρ' N'=>Φ (.norm,σ') ρ' N') hu (T.vZ (T.wp_mono (T.wp_bind h) (fun x r n hx=>T.wp_bind hx))) hi Q (fun σ' r n c' a' w' hΦ m8=>hQ .norm σ' r n c' a' w' hΦ m8)
    ·exact h.elim
 |seq x y ihx ihy=>
  intro σ ρ N Φ c0 c a w Q h hi hQ;simp only[exec]at h;refine wp_seq (ihx σ ρ N _ c0 c a w _ (T.wp_bind h) hi ?_);intro e σ' r n c' a' w' hΦ m8;cases e with
  |norm=>exact ihy σ' _ _ Φ c0 c' a' w' Q hΦ m8 (hQ.ext r n)|exit id=>exact hQ (.exit id) σ' r n c' a' w' hΦ m8|ret=>exact hQ .ret σ' r n c' a' w' hΦ m8
 |cond o x y ihx ihy=>
  intro σ ρ N Φ c0 c a w Q h hi hQ;simp only[exec]at h;have hv:=SJ hi.cO.aC o;split at h
  ·rename_i he;rw[he]at hv;exact wp_cond_true hv (ihx σ ρ N Φ c0 c a w Q h hi hQ)
  ·rename_i he;rw[he]at hv;exact wp_cond_false hv (ihy σ ρ N Φ c0 c a w Q h hi hQ)
  ·rename_i e _ _ he;rw[he]at hv;have hv:a.eval o= .bool (e.ev c.ρ).bool:=hv;rw[hi.env]at hv;simp only[T.wp]at h;refine wp_cond_split hv (fun ht=> ?_) (fun ht=> ?_)
   ·rw[aA ht]at h;exact ihx σ ρ N Φ c0 c a w Q h hi hQ
   ·rw[aE (by rw[ht];simp)]at h;exact ihy σ ρ N Φ c0 c a w Q h hi hQ
  ·exact h.elim
 |block id x ih=>
  intro σ ρ N Φ c0 c a w Q h hi hQ;simp only[exec]at h;refine wp_block (ih σ ρ N _ c0 c a w _ (T.wp_bind h) hi ?_);intro e σ' r n c' a' w' hΦ m8;cases e with
  |norm=>exact hQ .norm σ' r n c' a' w' hΦ m8|exit id'=>
   have hΦ:Φ (cond (Nat.beq id' id) .norm (.exit id'),σ') (ρ++r) (N++n):=hΦ;show if id'=id then Q .normal a' w' else Q (.exit id') a' w'
   by_cases he:id'=id
   ·subst he;rw[aA rfl];rw[BK]at hΦ;exact hQ .norm σ' r n c' a' w' hΦ m8
   ·rw[aE he];have hb:Nat.beq id' id=false:=by
     cases hb:Nat.beq id' id
     ·rfl
     ·exact absurd (fh hb) he
    rw[hb]at hΦ;exact hQ (.exit id') σ' r n c' a' w' hΦ m8
  |ret=>exact hQ .ret σ' r n c' a' w' hΦ m8
 |loop x ih=>
  intro σ ρ N Φ c0 c a w Q h hi hQ;simp only[exec]at h;split at h
  ·refine wp_loop_once (ih σ ρ N _ c0 c a w _ (T.wp_bind h) hi ?_);intro e σ' r n c' a' w' hΦ m8;cases e with
   |norm=>exact hΦ.elim|exit id=>exact hQ (.exit id) σ' r n c' a' w' hΦ m8|ret=>exact hQ .ret σ' r n c' a' w' hΦ m8
  ·rename_i hint alS;cases OG:blt 0 hint.un with
   |true=>
    rw[OG]at h;simp only[cond_true]at h;refine wp_loop_rounds hint.un ?_;clear OG alS;revert h;generalize hint.un=m;intro h;induction m generalizing σ ρ N c a w with
    |zero=>exact h.elim|succ m ihm=>
     unfold Nf at h;rw[rounds_succ];refine ih σ ρ N _ c0 c a w _ (T.wp_bind h) hi ?_;intro e σ' r n c' a' w' hΦ m8;cases e with
     |norm=>
      exact ihm σ' (ρ++r) (N++n) c' a' w' m8 (hQ.ext r n) hΦ
     |exit id=>exact hQ (.exit id) σ' r n c' a' w' hΦ m8|ret=>exact hQ .ret σ' r n c' a' w' hΦ m8
   |false=>
   rw[OG]at h;simp only[cond_false]at h;split at h;rotate_left
   ·exact h.elim
   rename_i tm jH ht;split at h;rotate_left
   ·exact h.elim
   rename_i hc;simp only[aL]at hc;obtain⟨⟨hu,agZ⟩,_⟩:=hc;obtain⟨I,μ,hI0,ahi⟩:=h;obtain⟨c1,s1,s2,s3,s4,s5,s6,s7,s8⟩:=I1 hi ht hu agZ;have atu:(jH.map (Ex.ev ρ)).length=jH.length:=by simp
   refine wp_loop_ghost (fun m a w=>∃jw c2,jw.length=jH.length/\I jw/\μ jw=m/\c.sub c2/\c2.ρ=ρ++jw/\av X.P B w0 (jl X.P hint tm) c2 a w/\io (jl X.P hint tm) c2) (μ (jH.map (Ex.ev ρ))) ⟨_,c1,atu,hI0,rfl,s1,s2,s3,s4⟩ ?_;rintro m a2 w2 ⟨jw,c2,hl,hI,rfl,hs,sn,hg,hf⟩;refine ih (jl X.P hint tm) (ρ++jw) _ _ c c2 a2 w2 _ (T.wp_bind (ahi jw hl hI)) ⟨hs,sn,hg,hf,by rw[s6,hi.nv];simp[hl],by rw[s5,hi.lv];simp⟩ ?_;intro e σ' r n c' a' w' hΦ m8;cases e with
   |norm=>
    simp only at hΦ;split at hΦ
    ·rename_i nx hb;have hN:(N++[fun v=>I v/\μ v<μ jw]++n)[σ.lv]? =some (fun v=>I v/\μ v<μ jw):=by rw[hi.lv];simp
     simp only[T.wp,hN]at hΦ;rw[hi.nv]at hb;obtain⟨c3,b1,b2,b3,b4,b5⟩:=Qj (σ0:=σ) (c:=c) hb m8.cO (x:=jw++r) (by rw[m8.env,eh]) m8.sub hi.fresh s7.symm rfl;refine⟨_,hΦ.2,_,c3,?_,hΦ.1,rfl,b1,?_,b3,b4⟩
     ·have:=hi.nv;simp;omega
     ·rw[b2,m8.env]
    ·exact hΦ.elim
   |exit id=>
    have:=(hQ.sub hi.sub) (.exit id) σ' (jw++r) ([fun v=>I v/\μ v<μ jw]++n) c' a' w';rw[eh,eh]at hΦ m8;exact this hΦ m8
   |ret=>
    have:=(hQ.sub hi.sub) .ret σ' (jw++r) ([fun v=>I v/\μ v<μ jw]++n) c' a' w';rw[eh,eh]at hΦ m8;exact this hΦ m8
 |rangeFunc f ps x y _ _=>intro σ ρ N Φ c0 c a w Q h;simp only[exec]at h;exact h.elim|scope x ih=>
  intro σ ρ N Φ c0 c a w Q h hi hQ;simp only[exec]at h;refine wp_scope_straight (ih σ ρ N Φ c0 c a w _ h hi ?_);intro e σ' r n c' a' w' hΦ m8;have:=hQ e σ' r n c' a' w' hΦ m8;cases e<;>exact this
 |label l=>
  intro σ ρ N Φ c0 c a w Q h hi hQ;refine wp_label ?_;have:=hQ .norm σ [] [] c a w;simp only[uP]at this;exact this h hi
 |refuse u=>intro σ ρ N Φ c0 c a w Q h;simp only[exec]at h;exact h.elim|goto l=>intro σ ρ N Φ c0 c a w Q h;simp only[exec]at h;exact h.elim
end
section
variable{P:Program}{B:fZ}{w0:World}{σ:St}{c:Ct}{a:Act}{w:World}
def VJ(g:av P B w0 σ c a w){F:ResultVar->Sem Value}(h1:∀t,F (.tmp t)=pure (a.tmps.getD t undef))(h2:∀t ty,F (.cell t ty)=(do loadVar ty (<-asAddr (a.tmps.getD t undef)))){r:ResultVar}{x:SC}(h:ZN P σ r=some x):
 ∃v,(F r).run P w= .ok v w/\x.rel c v:=by
 unfold ZN at h
 split at h
 ·rename_i t;have hs:=g.aC t;unfold SV.sc at h;split at h
  ·rename_i y hy;cases h
   rw[hy]at hs;exact⟨_,by rw[h1];rfl,hs⟩
  ·cases h
 ·rename_i t ty;split at h
  ·rename_i p off hp;split at h
   ·rename_i k hk;have hs:=g.aC t;rw[hp]at hs;obtain⟨n,hn,hv⟩:=hs;obtain⟨n',cs,e,hB,hh,nP⟩:=g.au p k hk;rw[hn]at e;cases e;split at h;rotate_left
    ·cases h
    rename_i JQ;rw[dJ JQ]at hh;obtain⟨sv,tj,hsc⟩:=AL.1 h;obtain⟨v,dD,fp⟩:=EU (P:=P) (w:=w) (n:=n) (base:=0) tj nP (fun j v hj=>by unfold World.cell?;simp[hh,hj])
    refine⟨v,?_,?_⟩
    ·rw[h2,hv];rw[eG]at dD;simpa[asAddr]using dD
    ·unfold SV.sc at hsc;split at hsc
     ·cases hsc;exact fp
     ·cases hsc
   ·cases h
  ·cases h
def Bq(g:av P B w0 σ c a w){F:ResultVar->Sem Value}(h1:∀t,F (.tmp t)=pure (a.tmps.getD t undef))(h2:∀t ty,F (.cell t ty)=(do loadVar ty (<-asAddr (a.tmps.getD t undef)))):∀{l:List ResultVar}{xs:List SC},Iz P σ l=some xs->∃vs,(l.mapM F).run P w= .ok vs w/\wH c xs vs
 |[],xs,h=>by simp only[Iz,eF]at h;subst h;exact⟨[],by simp,trivial⟩
 |r::rs,xs,h=>by
  simp only[Iz]at h;split at h
  ·rename_i x Se hx uL;cases h
   obtain⟨v,e1,q1⟩:=VJ g h1 h2 hx;obtain⟨vs,e2,q2⟩:=Bq g h1 h2 uL;exact⟨v::vs,by simp[mapM_cons,e1,e2],q1,q2⟩
  ·cases h
def yR{c:Ct}:∀{xs:List SC}{vs:aW},wH c xs vs->vs.length=xs.length
 |[],[],_=>rfl|_::_,_::_,h=>by simp[yR h.2]
 |[],_::_,h=>h.elim|_::_,[],h=>h.elim
def VK(g:av P B w0 σ c a w){fn:Func}{sv:SV}(h:T6 P σ fn.results.toList=some sv):∃v,(results fn a.tmps).run P w= .ok v w/\sv.rel c v:=by
 obtain⟨F,hF,h1,h2⟩:∃F:ResultVar->Sem Value,results fn a.tmps=(do let vs<-fn.results.mapM F;pure (if h:vs.size=1 then vs[0]else .tuple vs))/\(∀t,F (.tmp t)=pure (a.tmps.getD t undef))/\(∀t ty,F (.cell t ty)=(do loadVar ty (<-asAddr (a.tmps.getD t undef)))):=
  ⟨_,rfl,fun _=>rfl,fun _ _=>rfl⟩
 rw[hF];have hl:fn.results.mapM F=Functor.map toArray (fn.results.toList.mapM F):=by
  conv=>lhs;rw[<-Ek (xs:=fn.results)]
  exact mapM_toArray ..
 rw[hl];unfold T6 at h;split at h
 ·rename_i v0 Fy;cases h
  unfold YK at Fy;split at Fy
  ·rename_i t Q3;split at Fy
   ·rename_i ty cs hs;cases Fy
    refine⟨a.tmps.getD t undef,?_,by rw[<-hs];exact g.aC t⟩;rw[Q3];simp[h1]
   ·cases Fy
  ·cases Fy
 unfold ZO at h;split at h
 ·rename_i x hx;cases h
  obtain⟨vs,e,q⟩:=Bq g h1 h2 hx;have hlen:=yR q
  match vs,q,hlen with
  |[v],q,_=>exact⟨v,by simp[e],q.1⟩
 ·rename_i xs vP hx;cases h
  obtain⟨vs,e,q⟩:=Bq g h1 h2 hx;have hlen:=yR q;refine⟨.tuple vs.toArray,?_,vs,rfl,q⟩;have:vs.length≠1:=fun hh=>by
   rw[hlen]at hh
   match xs,hh with
   |[x],_=>exact vP x rfl
  simp[e,this]
 ·cases h
end
def Wa{c:Ct}:(SV.t []).rel c undef:=⟨[],rfl,trivial⟩
def IG{X:Cx}{Γ:Nat->dK}{B:fZ}{w0:World}(hX:X.ok Γ B w0):∀d,Kc X Γ B w0 (Z1 X d)
 |0=>fun g xs σ ρ N Φ c0 c a w vs h=>by simp only[Z1]at h;exact h.elim
 |d+1=>fun g xs σ ρ N Φ c0 c a w vs h hi hl fp=>by
  simp only[Z1]at h;split at h;rotate_left
  ·exact h.elim
  rename_i fn hfn;split at h;rotate_left
  ·exact h.elim
  rename_i code X0;have h:=T.wp_bind h;have hlen:(vs.toArray++Array.replicate (fn.ntmps-vs.toArray.size) undef).size=(xs++replicate (fn.ntmps-xs.length) (SV.t [])).length:=by simp[hl]
  refine calls_of_wp hfn X0 (QD hX (IG (B:=B) (w0:=w0) hX d) g code _ ρ N _ c c {tmps:=vs.toArray++Array.replicate (fn.ntmps-vs.toArray.size) undef,defers:=[]} w _ h ⟨.refl _,hi.env,⟨hi.cO.below,hi.cO.hB,rfl,by rw[hlen];exact aX _,fun t=> ?_,hi.cO.au,hi.cO.rows,hi.cO.apart⟩,⟨hi.fresh.β,hi.fresh.R⟩,hi.nv,hi.lv⟩ ?_)
  ·show((xs++replicate (fn.ntmps-xs.length) (SV.t [])).getD t .top).rel c _;by_cases ht:t<xs.length
   ·have h2:t<vs.length:=by omega
    have:=fp t ht h2;rw[aZ _ _ _ _ ht];simpa[cE,cB ht,Array.getElem?_append,h2]using this
   ·by_cases ht2:t<xs.length+(fn.ntmps-xs.length)
    ·have e1:(xs++replicate (fn.ntmps-xs.length) (SV.t [])).getD t .top= .t []:=by rw[cE,lR (by omega),getElem?_replicate,aA (by omega)];rfl
     have e2:(vs.toArray++Array.replicate (fn.ntmps-vs.toArray.size) undef).getD t undef=undef:=by
      rw[Array.getD_eq_getD_getElem?,Array.getElem?_append];split
      ·simp at*;omega
      ·rw[Array.getElem?_replicate];split<;>rfl
     rw[e1];show(SV.t []).rel c ((vs.toArray++Array.replicate (fn.ntmps-vs.toArray.size) undef).getD t undef);rw[e2];exact Wa
    ·have e1:(xs++replicate (fn.ntmps-xs.length) (SV.t [])).getD t .top= .top:=by rw[cE,mB (by simp;omega)];rfl
     rw[e1];trivial
  ·intro e σ' r n c' a' w' hΦ m8;have key:(match T6 X.P σ' fn.results.toList with|some v=>T.ah (v,σ')|none=>T.fail "results").wp Γ (ρ++r) (N++n) Φ->a'.defers=[]/\∃v,(results fn a'.tmps).run X.P w'= .ok v w'/\∃v' sv σ' r n c',Ending.returned v= .returned v'/\Φ (sv,σ') (ρ++r) (N++n)/\sv.rel c' v'/\(∀a':Act,a'.defers=[]->Is X.P B w0 c c' {σ' with aC:=[]} (ρ++r) (N++n) a' w'):=fun hk=>by
    split at hk
    ·rename_i sv tj;obtain⟨v,dD,hrv⟩:=VK m8.cO tj;refine⟨m8.cO.defers,v,dD,v,sv,σ',r,n,c',rfl,hk,hrv,fun a2 ha2=>⟨m8.sub,m8.env,⟨m8.cO.below,m8.cO.hB,ha2,xA _,fun t=>trivial,m8.cO.au,m8.cO.rows,m8.cO.apart⟩,⟨m8.fresh.β,m8.fresh.R⟩,m8.nv,m8.lv⟩⟩
    ·exact hk.elim
   cases e with|norm=>exact key hΦ|ret=>exact key hΦ|exit id=>exact hΦ.elim
section
variable{P:Program}{B:fZ}{w0:World}{σ:St}{c:Ct}{a:Act}{w w':World}
def DU:m7->aW->aW
 | .rd _::ss,v::vs=>v::DU ss vs| .ck _::ss,v::vs=>v::DU ss vs|_::ss,_::vs=>DU ss vs|_,_=>[]
def sD:m7->aW->aW
 | .fq::ss,v::vs=>v::sD ss vs|_::ss,_::vs=>sD ss vs|_,_=>[]
def ow{ok:dg}{n:Nat}:∀{ss:m7}{cs:aW}{xs:ab}{us:aW}{ys:ab},Ao P w ok n ss cs xs us ys->(sD ss cs).length=(ss.filter PS.kept).length/\∀v∈sD ss cs,∃ad m cap,v= .slice ad m cap
 |[],[],_,_,_,⟨rfl,rfl,rfl⟩=>⟨rfl,nofun⟩| .rd _::ss,_::_,_,_,_,⟨_,_,_,_,h⟩=>ow (ss:=ss) h| .ck _::ss,_::_,_,_,_,⟨_,_,_,_,h⟩=>ow (ss:=ss) h| .own _::ss,_::_,_,_,_,⟨_,_,_,_,_,_,h⟩=>ow (ss:=ss) h| .sp::ss,_::_,_,_,_,h=>ow (ss:=ss) h.2| .fq::ss,_::_,_,_,_,h=>by
   obtain⟨i,j⟩:=ow (ss:=ss) h.2;refine⟨by show(sD ss _).length+1=_;rw[i];rfl,fun v hv=> ?_⟩;rcases bX.1 hv with rfl|hv
   ·exact h.1
   ·exact j v hv
 |[],_::_,_,_,_,h=>h.elim| .rd _::_,[],_,_,_,h=>h.elim| .fq::_,[],_,_,_,h=>h.elim| .ck _::_,[],_,_,_,h=>h.elim| .own _::_,[],_,_,_,h=>h.elim| .sp::_,[],_,_,_,h=>h.elim
def mO{ok:dg}{n:Nat}:∀{ss:m7}{cs:aW}{xs:ab}{us:aW}{ys:ab},Ao P w ok n ss cs xs us ys->gL P w ok (ss.filterMap PS.yL) us xs/\fe P w ok ((ss.filterMap PS.in?).map AS.ck) (DU ss cs) ys
 |[],[],_,_,_,⟨rfl,rfl,rfl⟩=>⟨trivial,trivial⟩| .rd _::ss,_::_,_,_,_,⟨_,_,rfl,h0,h⟩=>by obtain⟨i,j⟩:=mO h;exact⟨i,h0,j⟩
 | .ck _::ss,_::_,_,_,_,⟨_,_,rfl,h0,h⟩=>by obtain⟨i,j⟩:=mO h;exact⟨i,h0,j⟩
 | .own _::ss,_::_,_,_,_,⟨_,_,_,rfl,rfl,h0,h⟩=>by obtain⟨i,j⟩:=mO h;exact⟨⟨h0,i⟩,j⟩
 | .sp::ss,_::_,_,_,_,h=>mO (ss:=ss) h.2| .fq::ss,_::_,_,_,_,h=>mO (ss:=ss) h.2|[],_::_,_,_,_,h=>h.elim| .rd _::_,[],_,_,_,h=>h.elim| .fq::_,[],_,_,_,h=>h.elim| .ck _::_,[],_,_,_,h=>h.elim| .own _::_,[],_,_,_,h=>h.elim| .sp::_,[],_,_,_,h=>h.elim
def kM{ok:dg}{n b U:Nat}(hb:c.β b=some n):∀{ss:m7}{cs:aW}{xs:ab}{us:aW}{ys:ab}{cells:eO}{Y:eO}{V:aW}{Z:eO}{W:aW}{nr:Nat},Ao P w ok n ss cs xs us ys->(∀j u,us[j]? =some u->c.R (nr+j)=some u)->cm c Y (DU ss cs++V)->(∀y∈Y,y.under U=true)->cm c Z (sD ss cs++W)->(∀z∈Z,z.under U=true)->cm c (aQ false b nr ss cells Y Z).1 cs/\(aQ false b nr ss cells Y Z).2.1=nr+us.length/\cm c (aQ false b nr ss cells Y Z).2.2.1 V/\(∀y∈(aQ false b nr ss cells Y Z).1,y.under U=true)/\(∀y∈(aQ false b nr ss cells Y Z).2.2.1,y.under U=true)/\cm c (aQ false b nr ss cells Y Z).2.2.2 W/\(∀z∈(aQ false b nr ss cells Y Z).2.2.2,z.under U=true)
 |[],[],_,_,_,cells,Y,V,Z,W,nr,⟨rfl,rfl,rfl⟩,_,hY,hU,hZ,hV=>⟨trivial,rfl,hY,(nofun),hU,hZ,hV⟩| .rd _::ss,v::cs,_,_,_,cells,y::Y,V,Z,W,nr,⟨_,_,rfl,_,h⟩,hR,hY,hU,hZ,hV=>by
   obtain⟨i,j,k,l,m,m2,m3⟩:=kM (cells:=cells.tail) (V:=V) hb h hR hY.2 (fun y hy=>hU y (bB _ hy)) hZ hV;refine⟨⟨hY.1,i⟩,j,k,fun z hz=> ?_,m,m2,m3⟩;rcases bX.1 hz with rfl|hz
   ·exact hU _ (fc ..)
   ·exact l z hz
 | .ck _::ss,v::cs,_,_,_,cells,y::Y,V,Z,W,nr,⟨_,_,rfl,_,h⟩,hR,hY,hU,hZ,hV=>by
   obtain⟨i,j,k,l,m,m2,m3⟩:=kM (cells:=cells.tail) (V:=V) hb h hR hY.2 (fun y hy=>hU y (bB _ hy)) hZ hV;refine⟨⟨hY.1,i⟩,j,k,fun z hz=> ?_,m,m2,m3⟩;rcases bX.1 hz with rfl|hz
   ·exact hU _ (fc ..)
   ·exact l z hz
 | .own _::ss,v::cs,_,_,_,cells,Y,V,Z,W,nr,⟨_,_,us,rfl,rfl,ho,h⟩,hR,hY,hU,hZ,hV=>by
   obtain⟨i,j,k,l,m,m2,m3⟩:=kM (cells:=cells.tail) (nr:=nr+1) hb h (fun j u hj=>by have:=hR (j+1) u (by simpa using hj);rw[show nr+1+j=nr+(j+1)by omega];exact this) hY hU hZ hV;refine⟨⟨⟨by simpa using hR 0 v rfl,kR ho⟩,i⟩,by rw[show(aQ false b nr (.own _::ss) cells Y Z).2.1=(aQ false b (nr+1) ss cells.tail Y Z).2.1 from rfl,j];simp;omega,k,fun z hz=> ?_,m,m2,m3⟩;rcases bX.1 hz with rfl|hz
   ·rfl
   ·exact l z hz
 | .fq::ss,v::cs,xs,us,ys,cells,Y,V,z0::Z,W,nr,h,hR,hY,hU,hZ,hV=>by
   obtain⟨i,j,k,l,m,m2,m3⟩:=kM (cells:=cells.tail) (W:=W) hb h.2 hR hY hU hZ.2 (fun y hy=>hV y (bB _ hy));refine⟨⟨hZ.1,i⟩,j,k,fun z hz=> ?_,m,m2,m3⟩;rcases bX.1 hz with rfl|hz
   ·exact hV _ (fc ..)
   ·exact l z hz
 | .sp::ss,v::cs,xs,us,ys,cells,Y,V,Z,W,nr,h,hR,hY,hU,hZ,hV=>by
   obtain⟨i,j,k,l,m,m2,m3⟩:=kM (cells:=cells.tail) hb h.2 hR hY hU hZ hV;refine⟨⟨h.1.imp id fun e=>⟨n,hb,e⟩,i⟩,j,k,fun z hz=> ?_,m,m2,m3⟩;rcases bX.1 hz with rfl|hz
   ·rfl
   ·exact l z hz
 | .rd _::_,_::_,_,_,_,_,[],_,_,_,_,_,_,hY,_,_,_=>hY.elim| .fq::_,_::_,_,_,_,_,_,_,[],_,_,_,_,_,_,hZ,_=>hZ.elim| .ck _::_,_::_,_,_,_,_,[],_,_,_,_,_,_,hY,_,_,_=>hY.elim|[],_::_,_,_,_,_,_,_,_,_,_,h,_,_,_,_,_=>h.elim| .rd _::_,[],_,_,_,_,_,_,_,_,_,h,_,_,_,_,_=>h.elim| .fq::_,[],_,_,_,_,_,_,_,_,_,h,_,_,_,_,_=>h.elim| .ck _::_,[],_,_,_,_,_,_,_,_,_,h,_,_,_,_,_=>h.elim| .own _::_,[],_,_,_,_,_,_,_,_,_,h,_,_,_,_,_=>h.elim| .sp::_,[],_,_,_,_,_,_,_,_,_,h,_,_,_,_,_=>h.elim
def CX(w:World)(c:Ct)(U:Nat):List (TypeId×m7)->bH->List (Nat×Option Bk)->Prop
 |[],[],[]=>True|(ty,_)::ls,n::ns,(b,k0)::bs=>(∃cells cs,k0=some ⟨cells,ty,0⟩/\c.β b=some n/\w.heap[n]? =some (.cells cs.toArray ty (0,0))/\cm c cells cs/\∀x∈cells,x.under U=true)/\CX w c U ls ns bs|_,_,_=>False
def B2{ok:dg}:∀{ls:List (TypeId×m7)}{ns:bH}{xs:ab}{us:aW}{ys:ab},GW P w ok ls ns xs us ys->
 gL P w ok (dO ls) us xs/\∃V,fe P w ok ((Cv ls).map AS.ck) V ys/\∃K:aW,K.length=yG ls/\(∀v∈K,∃ad m cap,v= .slice ad m cap)/\∀{c:Ct}{U:Nat}{bs:bH}{blk:Nat->Option Bk}{Y Z:eO}{nr:Nat},bs.map c.β=ns.map some->(∀j u,us[j]? =some u->c.R (nr+j)=some u)->∀W,cm c Y (V++W)->(∀y∈Y,y.under U=true)->∀W',cm c Z (K++W')->(∀z∈Z,z.under U=true)->
  (bV false blk nr ls bs Y Z).map (·.1)=bs/\CX w c U ls ns (bV false blk nr ls bs Y Z)
 |[],[],_,_,_,⟨rfl,rfl,rfl⟩=>⟨trivial,[],trivial,[],rfl,(nofun),fun{c U bs blk Y Z nr} hb _ _ _ _ _ _ _=>by
  cases bs with
  |nil=>exact⟨rfl,trivial⟩|cons=>simp at hb⟩
 |(ty,ss)::ls,n::ns,_,_,_,⟨cs,x1,x2,u1,u2,y1,y2,rfl,rfl,rfl,h2,h3,h4⟩=>by
  obtain⟨i,j⟩:=mO h3;obtain⟨k,V,l,K,kl,ks,m⟩:=B2 h4;obtain⟨q6,q7⟩:=ow h3;refine⟨dV i k,DU ss cs++V,by
   show fe P w ok ((ss.filterMap PS.in? ++Cv ls).map AS.ck) _ _;rw[BP];exact uj j l,sD ss cs++K,by rw[fR,q6,kl];rfl,(fun v hv=>(ic.1 hv).elim (q7 v) (ks v)),fun{c U bs blk Y Z nr} hb hR W hY hU W' hZ hV=> ?_⟩
  cases bs with
  |nil=>simp at hb|cons b bs=>
   simp only[jQ,uQ]at hb;rw[eh]at hY hZ;obtain⟨q1,q2,q3,q4,q5,q8,q9⟩:=kM (U:=U) (cells:=match blk b with|some k=>k.cells|none=>[]) hb.1 h3 (fun j u hj=>hR j u (by rw[gA (kK.1 hj).1];exact hj)) hY hU hZ hV;obtain⟨p1,p2⟩:=m (c:=c) (U:=U) (bs:=bs) (blk:=blk) (nr:=nr+u1.length) hb.2 (fun j u hj=>by have:=hR (u1.length+j) u (by rw[lR (by omega),ta];exact hj);rw[td];exact this) W q3 q5 W' q8 q9
   generalize hC:(match blk b with|some k=>k.cells|none=>[])=C at q1 q2 q3 q4 q5 q8 q9 p1 p2;have hB:bV false blk nr ((ty,ss)::ls) (b::bs) Y Z=(b,some ⟨(aQ false b nr ss C Y Z).1,ty,0⟩)::bV false blk (aQ false b nr ss C Y Z).2.1 ls bs (aQ false b nr ss C Y Z).2.2.1 (aQ false b nr ss C Y Z).2.2.2:=by rw[<-hC];rfl
   rw[hB,q2];exact⟨by rw[jQ,p1],⟨_,cs,rfl,hb.1,h2,q1,q4⟩,p2⟩
 |[],_::_,_,_,_,h=>h.elim|_::_,[],_,_,_,h=>h.elim
def tP{U:Nat}:∀{ls:List (TypeId×m7)}{ns:bH}{bs:List (Nat×Option Bk)},CX w c U ls ns bs->∀b k2,(b,k2)∈bs->∃k n cs,k2=some k/\k.kd=0/\n∈ns/\c.β b=some n/\w.heap[n]? =some (.cells cs.toArray k.ty (0,0))/\cm c k.cells cs
 |[],[],[],_,b,k2,h=>by cases h
 |(ty,_)::ls,n::ns,(b,k0)::bs,hh,b',k2,hm=>by
  obtain⟨⟨cells,cs,rfl,h1,h2,h3,_⟩,hr⟩:=hh;rcases bX.1 hm with e|hm
  ·cases e;exact⟨_,n,cs,rfl,rfl,fc ..,h1,h2,h3⟩
  ·obtain⟨k,n',Ap,q1,q2,q3,q4⟩:=tP hr b' k2 hm;exact⟨k,n',Ap,q1,q2,bB _ q3,q4⟩
 |[],[],_::_,h,_,_,_=>h.elim|[],_::_,_,h,_,_,_=>h.elim|_::_,[],_,h,_,_,_=>h.elim|_::_,_::_,[],h,_,_,_=>h.elim
def KA(s:CS)(nv nr nb:Nat):nr<=(gf P nv nr nb s).2.2.2.1/\∀i,i∈(gf P nv nr nb s).2.1.map (·.1)↔nr<=i/\i<(gf P nv nr nb s).2.2.2.1:=by
 cases s with|a s=>exact rT (.a s) nv nr|g ss=>exact rT (.g ss) nv nr|p _ _=>exact⟨aX _,fun i=>by first|(simp[gf];omega)|simp[gf]⟩|f _ _=>exact⟨aX _,fun i=>by first|(simp[gf];omega)|simp[gf]⟩|w el b=>exact rT (P:=P) (.w el b) nv nr
def A4:∀(ss:sX)(nv nr nb:Nat),nr<=(kY P nv nr nb ss).2.2.2.1/\∀i,i∈(kY P nv nr nb ss).2.1.map (·.1)↔nr<=i/\i<(kY P nv nr nb ss).2.2.2.1
 |[],_,nr,_=>⟨aX _,fun i=>by simp[kY]⟩|s::ss,nv,nr,nb=>by have h1:=KA (P:=P) s nv nr nb;have h2:=A4 ss (gf P nv nr nb s).2.2.1 (gf P nv nr nb s).2.2.2.1 (nb+(gf P nv nr nb s).2.2.2.2.length);refine⟨bI h1.1 h2.1,fun i=> ?_⟩;show i∈((gf P nv nr nb s).2.1++(kY P (gf P nv nr nb s).2.2.1 (gf P nv nr nb s).2.2.2.1 (nb+(gf P nv nr nb s).2.2.2.2.length) ss).2.1).map (·.1)↔nr<=i/\i<(kY P (gf P nv nr nb s).2.2.1 (gf P nv nr nb s).2.2.2.1 (nb+(gf P nv nr nb s).2.2.2.2.length) ss).2.2.2.1;rw[BP,ic,h1.2,h2.2];have:=h1.1;have:=h2.1;omega
def Iv{nb:Nat}:∀{ns:bH}{nb:Nat},(∀j n,ns[j]? =some n->c.β (nb+j)=some n)->(range' nb ns.length).map c.β=ns.map some
 |[],_,_=>rfl|n::ns,nb,h=>by simp only[AM,range'_succ,jQ];have h0:=h 0 n rfl;rw[pA]at h0;rw[h0,Iv (nb:=nb+1) (ns:=ns) (fun j m hj=>by have:=h (j+1) m (by simpa using hj);rw[show nb+1+j=nb+(j+1)by omega];exact this)]
def UV{s:CS}{nv nr nb:Nat}{v:Value}{ys:ab}{ns:bH}{ok:dg}(g:av P B w0 σ c a w)(bT:∀p,ok p->cD B σ c p)(hy:∀i,i<ys.length->c.ρ.getD (nv+i) (.i 0)=ys.getD i (.i 0))(hr:WN P w ok s v ys ns)(hβ:∀j n,ns[j]? =some n->c.β (nb+j)=some n)(hR:∀i,nr<=i->i<(gf P nv nr nb s).2.2.2.1->c.R i=none):
 (∃c',c'.β=c.β/\(∀i,i<nr\/(gf P nv nr nb s).2.2.2.1<=i->c'.R i=c.R i)/\(gf P nv nr nb s).1.rel c' v/\av P B w0 {σ with rows:=ai σ.rows (gf P nv nr nb s).2.1} c' a w/\Ext σ {σ with rows:=ai σ.rows (gf P nv nr nb s).2.1} c c')/\
   (gf P nv nr nb s).2.2.1=nv+ys.length/\(gf P nv nr nb s).2.2.2.2=range' nb ns.length:=by
 cases s with
 |a s=>
  obtain⟨rfl,hr⟩:=hr;exact⟨zW (s:= .a s) g bT hy hr hR,by rw[oA hr];rfl,rfl⟩
 |g ss=>
  obtain⟨rfl,hr⟩:=hr;exact⟨zW (s:= .g ss) g bT hy hr hR,by rw[oA hr];rfl,rfl⟩
 |p ty ss=>
  obtain⟨rfl,n,rfl,rfl⟩:=hr;exact⟨⟨c,rfl,fun _ _=>rfl,⟨n,by simpa using hβ 0 n rfl,rfl⟩,g,.refl c,fun _ _ h=>h⟩,rfl,rfl⟩
 |f gg ls=>
  obtain⟨rfl,hl,rfl⟩:=hr;exact⟨⟨c,rfl,fun _ _=>rfl,⟨ns,by rw[<-hl];exact Iv (nb:=nb) hβ,rfl⟩,g,.refl c,fun _ _ h=>h⟩,rfl,by rw[hl];rfl⟩
 |w el b=>
  obtain⟨rfl,rfl⟩:=hr;exact⟨⟨c,rfl,fun _ _=>rfl,trivial,g,.refl c,fun _ _ h=>h⟩,rfl,rfl⟩
def Hm:∀{ss:sX}{σ:St}{c:Ct}{nv nr nb:Nat}{vs:aW}{ys:ab}{ns:bH}{ok:dg},av P B w0 σ c a w->(∀p,ok p->cD B σ c p)->(∀i,i<ys.length->c.ρ.getD (nv+i) (.i 0)=ys.getD i (.i 0))->qj P w ok ss vs ys ns->(∀j n,ns[j]? =some n->c.β (nb+j)=some n)->(∀i,nr<=i->i<(kY P nv nr nb ss).2.2.2.1->c.R i=none)->
 (∃c',c'.β=c.β/\(∀i,i<nr\/(kY P nv nr nb ss).2.2.2.1<=i->c'.R i=c.R i)/\wH c' (kY P nv nr nb ss).1 vs/\av P B w0 {σ with rows:=ai σ.rows (kY P nv nr nb ss).2.1} c' a w/\Ext σ {σ with rows:=ai σ.rows (kY P nv nr nb ss).2.1} c c')/\(kY P nv nr nb ss).2.2.1=nv+ys.length/\(kY P nv nr nb ss).2.2.2.2=range' nb ns.length
 |[],σ,c,nv,nr,nb,[],ys,ns,ok,g,_,_,hr,_,_=>by obtain⟨rfl,rfl⟩:=hr;exact⟨⟨c,rfl,fun _ _=>rfl,trivial,g,.refl c,fun _ _ h=>h⟩,rfl,rfl⟩
 |s::ss,σ,c,nv,nr,nb,v::vs,ys,ns,ok,g,bT,hy,hr,hβ,hR=>by
  obtain⟨l1,l2,n1,n2,rfl,rfl,r1,r2⟩:=hr;have m1:=(KA (P:=P) s nv nr nb).1;have m2:=(A4 (P:=P) ss (gf P nv nr nb s).2.2.1 (gf P nv nr nb s).2.2.2.1 (nb+(gf P nv nr nb s).2.2.2.2.length)).1;have xR:∀i,nr<=i->i<(kY P (gf P nv nr nb s).2.2.1 (gf P nv nr nb s).2.2.2.1 (nb+(gf P nv nr nb s).2.2.2.2.length) ss).2.2.2.1->c.R i=none:=hR;obtain⟨⟨c1,a1,a2,a5,a6,a7⟩,a8,a9⟩:=UV (nv:=nv) (nr:=nr) (nb:=nb) g bT (fun i hi=>by have:=hy i (by simp;omega);rw[this];exact aZ _ _ _ _ hi) r1 (fun j n hj=>hβ j n (by rw[gA (kK.1 hj).1];exact hj)) (fun i h1 h2=>xR i h1 (by omega))
  have hbl:(gf P nv nr nb s).2.2.2.2.length=n1.length:=by rw[a9];simp
  obtain⟨⟨c2,d1,d2,d4,d5,d6⟩,d7,d8⟩:=Hm (ss:=ss) (nv:=(gf P nv nr nb s).2.2.1) (nr:=(gf P nv nr nb s).2.2.2.1) (nb:=nb+(gf P nv nr nb s).2.2.2.2.length) (vs:=vs) (ys:=l2) (ns:=n2) (ok:=ok) a6
   (fun p hp=>⟨fun x hx=>(bT p hp).1 x (a7.owns x p hx),by rw[a7.le.K];exact(bT p hp).2⟩) (fun i hi=>by
     have:=hy (l1.length+i) (by simp;omega);rw[a7.le.ρ,a8,td,this];rw[cE,lR (by omega),ta,<-cE]) r2 (fun j n hj=>by
     rw[a1,hbl,td];exact hβ (n1.length+j) n (by rw[lR (by omega),ta];exact hj)) (fun i h1 h2=>by rw[a2 i (.inr h1)];exact xR i (by omega) h2)
  refine⟨⟨c2,d1.trans a1,fun i hi=> ?_,⟨SC.kv d6.le a5,d4⟩,?_,a7.le.trans d6.le,fun x p h=>a7.owns x p (d6.owns x p ?_)⟩,?_,?_⟩
  ·have EO:i<nr\/(kY P (gf P nv nr nb s).2.2.1 (gf P nv nr nb s).2.2.2.1 (nb+(gf P nv nr nb s).2.2.2.2.length) ss).2.2.2.1<=i:=hi;rw[d2 i (by omega),a2 i (by omega)]
  ·simp only[kY];rw[bg];exact d5
  ·simp only[kY]at h;rw[bg]at h;exact h
  ·show(kY P (gf P nv nr nb s).2.2.1 (gf P nv nr nb s).2.2.2.1 (nb+(gf P nv nr nb s).2.2.2.2.length) ss).2.2.1=_;rw[d7,a8];simp;omega
  ·show(gf P nv nr nb s).2.2.2.2++(kY P (gf P nv nr nb s).2.2.1 (gf P nv nr nb s).2.2.2.1 (nb+(gf P nv nr nb s).2.2.2.2.length) ss).2.2.2.2=_;rw[d8,hbl,a9,fR,range'_append_1]
 |[],_,_,_,_,_,_::_,_,_,_,_,_,_,hr,_,_=>hr.elim|_::_,_,_,_,_,_,[],_,_,_,_,_,_,hr,_,_=>hr.elim
def J5(c:Ct):eO->aW->Prop
 |[],[]=>True|x::xs,v::vs=>(x.fixed=true->x.rel c v)/\J5 c xs vs|_,_=>False
def M0{c':Ct}{U:Nat}(hs:c.sub c')(hρ:∀i,i<U->c'.ρ.getD i (.i 0)=c.ρ.getD i (.i 0)):∀{xs:eO}{vs:aW},cm c xs vs->(∀x∈xs,x.under U=true)->J5 c' xs vs
 |[],[],_,_=>trivial|x::xs,v::vs,h,hu=>by
  refine⟨fun hf=> ?_,M0 hs hρ h.2 (fun y hy=>hu y (bB _ hy))⟩;have h1:=h.1;have hux:=hu x (fc ..);cases x<;>simp only[At.fixed]at hf<;>simp only[At.rel,At.under]at h1 hux⊢
  case int k e=>rw[Ex.aH hρ hux];exact h1
  case bool e=>rw[Ex.aH hρ hux];exact h1
  case str e=>rw[Ex.aH hρ hux];exact h1
  case vec r=>exact⟨hs.R _ _ h1.1,h1.2⟩
  all_goals cases hf
 |[],_::_,h,_=>h.elim|_::_,[],h,_=>h.elim
def Ok{x:At}(hf:x.fixed=true){u v:Value}(h:x.rel c u)(k:x.rel c v):v=u:=by
 cases x<;>simp only[At.fixed]at hf<;>simp only[At.rel]at h k
 case int=>rw[h,k]
 case bool=>rw[h,k]
 case str=>rw[h,k]
 case vec r=>have:=h.1;rw[k.1]at this;exact xX this
 all_goals cases hf
def ZC{row:iu}{b:Nat}{s:PS}{x y:At}{l:fj}(h:Pk P row b s x y=some l):lM row l.fr:=by
 unfold Pk at h;split at h
 ·split at h
  ·cases h;exact .nil
  ·cases h
 ·split at h
  ·cases h;exact .nil
  ·cases h
 ·exact MR h
def Bg{row:iu}{b:Nat}:∀{ss:m7}{xs ys:eO}{l:fj},dp P row b ss xs ys=some l->lM row l.fr
 |[],[],[],l,h=>by simp[dp]at h;subst h;exact .nil
 |s::ss,x::xs,y::ys,l,h=>by
  simp only[dp]at h;split at h
  ·rename_i h1 h2;cases h;exact fj.fz (ZC h1) (Bg h2)
  ·cases h
 |[],[],_::_,_,h=>by simp[dp]at h
 |[],_::_,_,_,h=>by simp[dp]at h
 |_::_,[],_,_,h=>by simp[dp]at h
 |_::_,_::_,[],_,h=>by simp[dp]at h
def ET{row:iu}{blk:Nat->Option Bk}:∀{ls:List (TypeId×m7)}{bs:List (Nat×Option Bk)}{l:fj},jt P row blk ls bs=some l->lM row l.fr
 |[],[],l,h=>by simp[jt]at h;subst h;exact .nil
 |(ty,ss)::ls,(b,k0)::bs,l,h=>by
  simp only[jt]at h;split at h
  ·split at h
   ·split at h
    ·rename_i h1 h2;cases h;exact fj.fz (Bg h1) (ET h2)
    ·cases h
   ·cases h
  ·cases h
 |[],_::_,_,h=>by simp[jt]at h
 |_::_,[],_,h=>by simp[jt]at h
def wu(g:av P B w0 σ c a w){row:iu}{b n:Nat}(hb:c.β b=some n):∀{ss:m7}{Gv xs:eO}{l:fj},dp P row b ss Gv xs=some l->Fz row σ l.fr->(∀r∈l.rs,∀k,row r=some k->σ.row r=some k)->∀{Ef vs:aW},cm c xs vs->J5 c Gv Ef->∃us jO,jB P w (cD B σ c) n ss Ef vs (l.os.map (Ex.ev c.ρ)) us (l.es.map (Ex.ev c.ρ))/\us.filterMap aO=jO.filterMap aO/\gv σ c l.rs jO
 |[],[],[],l,h,_,_,Ef,vs,hv,h0=>by
  simp[dp]at h;subst h;cases vs with
  |nil=>
   cases Ef with|nil=>exact⟨[],[],⟨rfl,rfl,rfl⟩,rfl,trivial⟩|cons=>exact h0.elim
  |cons=>exact hv.elim
 |s::ss,x0::Gv,x::xs,l,h,hf,yB,Ef,vs,hv,h0=>by
  match vs,hv,Ef,h0 with
  |v::vs,hv,v0::Ef,h0=>
   simp only[dp]at h;split at h;rotate_left
   ·cases h
   rename_i y ys h1 h2;cases h
   obtain⟨us,jO,i1,i2,i3⟩:=wu g hb h2 hf.right (fun r hr=>yB r (cz _ hr)) hv.2 h0.2;unfold Pk at h1;split at h1
   ·split at h1
    ·rename_i hc;cases h1
     simp only[aL]at hc;have hx:=At.aG hc.2;subst hx;exact⟨us,jO,⟨Ok hc.1 (h0.1 hc.1) hv.1,i1⟩,i2,i3⟩
    ·cases h1
   ·split at h1
    ·rename_i hc;cases h1
     simp only[aL]at hc;have hx:=At.aG hc.2;subst hx;exact⟨us,jO,⟨Ok hc.1 (h0.1 hc.1) hv.1,i1⟩,i2,i3⟩
    ·cases h1
   ·rename_i hnr Tg;unfold Bo at h1;split at h1
    ·exact(hnr _ rfl).elim
    ·obtain⟨⟨e,f⟩,q1,rfl⟩:=nW.1 h1;exact⟨us,jO,⟨_,_,rfl,iP g q1 hf.left hv.1,i1⟩,i2,i3⟩
    ·rename_i el r hv;split at h1
     ·rename_i k agg ks hk hT;split at h1
      ·rename_i hc;cases h1
       simp only[aL]at hc;have fK:=yB r (by simp[fj.app]) k hk;obtain⟨u,e,q⟩:=MN g fK hc.1.1 hT hc.2 hc.1.2;have e2:c.R r=some v:=hv.1.1;rw[e]at e2;cases e2;exact⟨v::us,v::jO,⟨_,_,_,rfl,rfl,q,i1⟩,by rw[AP,AP,i2],⟨⟨k,fK,hc.1.1⟩,e,i3⟩⟩
      ·cases h1
     ·cases h1
    ·rename_i el;split at h1
     ·rename_i agg ks hT;split at h1
      ·rename_i qv;cases h1
       obtain⟨ad,rfl⟩:=hv.1;have Dh:aO (.slice ad 0 0)=none:=by cases ad<;>rfl
       exact⟨.slice ad 0 0::us,jO,⟨_,_,_,rfl,rfl,⟨agg,ks,[],ad,0,0,hT,qv,rfl,by simp[Ex.ev,Sc.er],rfl,aX _,xA _,.inl rfl,nofun⟩,i1⟩,by rw[AP,Dh,i2],i3⟩
      ·cases h1
     ·cases h1
    ·split at h1
     ·rename_i F7;cases h1
      exact⟨us,jO,⟨PD hb F7 hv.1,i1⟩,i2,i3⟩
     ·cases h1
    ·exact(Tg rfl).elim
    ·cases h1
 |[],[],_::_,_,h,_,_,_,_,_,_=>by simp[dp]at h
 |[],_::_,_,_,h,_,_,_,_,_,_=>by simp[dp]at h
 |_::_,[],_,_,h,_,_,_,_,_,_=>by simp[dp]at h
 |_::_,_::_,[],_,h,_,_,_,_,_,_=>by simp[dp]at h
def Aw{w1:World}{c1:Ct}{U:Nat}(g:av P B w0 σ c a w)(hs:c1.sub c)(hρ:∀i,i<U->c.ρ.getD i (.i 0)=c1.ρ.getD i (.i 0)){row:iu}{blk:Nat->Option Bk}(hblk:∀b k,blk b=some k->σ.blk b=some k):∀{ls:List (TypeId×m7)}{bs:List (Nat×Option Bk)}{ns:bH}{l:fj},jt P row blk ls bs=some l->CX w1 c1 U ls ns bs->Fz row σ l.fr->
 (∀r∈l.rs,∀k,row r=some k->σ.row r=some k)->(∃us jO,me P w1 w (cD B σ c) ls ns (l.os.map (Ex.ev c.ρ)) us (l.es.map (Ex.ev c.ρ))/\us.filterMap aO=jO.filterMap aO/\gv σ c l.rs jO)/\(∀p∈ns,∃b∈bs.map (·.1),σ.owns c (false,b) p)/\(bs.map (·.1)).map c.β=ns.map some/\∀b∈bs.map (·.1),∃k,σ.blk b=some k
 |[],[],ns,l,h,hn,_,_=>by
  simp[jt]at h;subst h;cases ns with
  |nil=>exact⟨⟨[],[],⟨rfl,rfl,rfl⟩,rfl,trivial⟩,(nofun),rfl,(nofun)⟩|cons=>exact hn.elim
 |(ty,ss)::ls,(b,k0)::bs,ns,l,h,hn,hf,yB=>by
  cases ns with
  |nil=>exact hn.elim|cons n ns=>
   obtain⟨⟨cells,Jh,rfl,n1,n2,n3,n4⟩,hn⟩:=hn;simp only[jt]at h;split at h;rotate_left
   ·cases h
   rename_i k0 k hk0 hk;cases hk0
   split at h;rotate_left
   ·cases h
   rename_i hc;simp only[aL]at hc;split at h;rotate_left
   ·cases h
   rename_i y ys h1 h2;cases h
   have Rb:=fh hc.1;have JQ:=fh hc.2;have hβ:=hs.β _ _ n1;obtain⟨m,cs,e,_,q2,q3⟩:=g.au b k (hblk b k hk);rw[hβ]at e;cases e;rw[dJ JQ,Rb]at q2;obtain⟨u1,u1',i1,i2,i3⟩:=wu g hβ h1 hf.left (fun r hr=>yB r (iv _ hr)) q3 (M0 hs hρ n3 n4);obtain⟨⟨u2,u2',j1,j2,j3⟩,j4,j5,j6⟩:=Aw g hs hρ hblk h2 hn hf.right (fun r hr=>yB r (cz _ hr));refine⟨⟨u1++u2,u1'++u2',⟨Jh,cs,_,_,u1,u2,_,_,by simp[fj.app],rfl,by simp[fj.app],n2,q2,i1,j1⟩,by rw[qN,qN,i2,j2],fM i3 j3⟩,fun p hp=> ?_,?_,fun b' Ml=> ?_⟩
   ·rcases bX.1 hp with rfl|hp
    ·exact⟨b,fc ..,⟨k,hblk b k hk⟩,hβ⟩
    ·obtain⟨b',h1,h2⟩:=j4 p hp;exact⟨b',bB _ h1,h2⟩
   ·simp only[jQ];rw[hβ,j5]
   ·rcases bX.1 Ml with rfl|Ml
    ·exact⟨k,hblk _ k hk⟩
    ·exact j6 b' Ml
 |[],_::_,_,_,h,_,_,_=>by simp[jt]at h
 |_::_,[],_,_,h,_,_,_=>by simp[jt]at h
def tM{ok ok':dg}(h:∀p,ok p->ok' p){el:TypeId}{v:Value}{x:Sc}(hr:ja P w ok el v x):ja P w ok' el v x:=by obtain⟨agg,ks,D,ad,n,cap,q1,q2,q3,q4,q5,q6,q7,q8,q9⟩:=hr;exact⟨agg,ks,D,ad,n,cap,q1,q2,q3,q4,q5,q6,q7,q8,fun x hx=>ki (fun p _ _ hp hu=>⟨h p hp,hu⟩) (q9 x hx)⟩
def ka{ok ok':dg}(h:∀p,ok p->ok' p){n:Nat}:∀{ss:m7}{c0 cs:aW}{xs:ab}{us:aW}{ys:ab},jB P w ok n ss c0 cs xs us ys->jB P w ok' n ss c0 cs xs us ys
 |[],[],[],_,_,_,hr=>hr| .rd _::ss,_::_,_::_,_,_,_,hr=>⟨hr.1,ka h (ss:=ss) hr.2⟩| .fq::ss,_::_,_::_,_,_,_,hr=>⟨hr.1,ka h (ss:=ss) hr.2⟩| .ck _::ss,_::_,_::_,_,_,_,⟨y,Gw,e,h0,hr⟩=>⟨y,Gw,e,vX (fun p _ _ hp hu=>⟨h p hp,hu⟩) h0,ka h hr⟩| .own _::ss,_::_,_::_,_,_,_,⟨x,Se,jO,e1,e2,h0,hr⟩=>⟨x,Se,jO,e1,e2,tM h h0,ka h hr⟩| .sp::ss,_::_,_::_,_,_,_,hr=>⟨hr.1,ka h (ss:=ss) hr.2⟩|[],_::_,_,_,_,_,h=>h.elim|[],[],_::_,_,_,_,h=>h.elim| .rd _::_,[],_,_,_,_,h=>h.elim| .fq::_,[],_,_,_,_,h=>h.elim| .rd _::_,_::_,[],_,_,_,h=>h.elim| .fq::_,_::_,[],_,_,_,h=>h.elim| .ck _::_,[],_,_,_,_,h=>h.elim| .ck _::_,_::_,[],_,_,_,h=>h.elim| .own _::_,[],_,_,_,_,h=>h.elim| .own _::_,_::_,[],_,_,_,h=>h.elim| .sp::_,[],_,_,_,_,h=>h.elim| .sp::_,_::_,[],_,_,_,h=>h.elim
def B4{ok ok':dg}{w1:World}(h:∀p,ok p->ok' p):∀{ls:List (TypeId×m7)}{ns:bH}{xs:ab}{us:aW}{ys:ab},me P w1 w ok ls ns xs us ys->me P w1 w ok' ls ns xs us ys
 |[],[],_,_,_,hr=>hr|(ty,ss)::ls,n::ns,_,_,_,⟨c0,cs,x1,x2,u1,u2,y1,y2,e1,e2,e3,h1,h2,h3,h4⟩=>⟨c0,cs,x1,x2,u1,u2,y1,y2,e1,e2,e3,h1,h2,ka h h3,B4 h h4⟩|[],_::_,_,_,_,h=>h.elim|_::_,[],_,_,_,h=>h.elim
def RE{ok ok':dg}(h:∀p,ok p->ok' p){s:RS}{v:Value}{xs:ab}{us:aW}{l:ab}(hr:vD P w ok s v xs us l):vD P w ok' s v xs us l:=by
 have hm:∀p o u,ok p->w.cell? ⟨p,o,none⟩=some u->ok' p/\w.cell? ⟨p,o,none⟩=some u:=fun p _ _ hp hu=>⟨h p hp,hu⟩;cases s with
 |c s=>exact⟨hr.1,hr.2.1,G7 hm hr.2.2⟩|t ss=>obtain⟨e1,e2,vs,e3,r⟩:=hr;exact⟨e1,e2,vs,e3,yh hm r⟩
 |o el=>obtain⟨e1,x,e2,e3,r⟩:=hr;exact⟨e1,x,e2,e3,tM h r⟩
 |ot el ss=>obtain⟨x,u,vs,e1,e2,e3,r1,r2⟩:=hr;exact⟨x,u,vs,e1,e2,e3,tM h r1,yh hm r2⟩
 |al ss js=>obtain⟨F7,Ef,vs,e,r⟩:=hr;exact⟨F7,Ef,vs,e,ka h r⟩
def acP{X:Cx}{c0:eO}{s:RS}{sv:SV}{es:bZ}{fr:cv}(h:Zy X σ c0 s sv=some (es,fr)):lM σ.row fr:=by
 unfold Zy at h;split at h
 ·exact LI h
 ·exact GO h
 ·cases h;exact .nil
 ·exact GO h
 ·split at h
  ·obtain⟨l,h1,h2⟩:=nW.1 h;simp only[iK]at h2;rw[<-h2.2];exact Bg h1
  ·cases h
 ·cases h
def EZ{σ1:St}(g1:av P B w0 σ1 c a w){el:TypeId}{x:At}{l:fj}(h:Bo P σ.row 0 (.own el) x=some l)(yB:∀r∈l.rs,∀k,σ.row r=some k->σ1.row r=some k){v:Value}(hv:x.rel c v):∃y jO,l.os.map (Ex.ev c.ρ)=[y]/\ja P w (cD B σ1 c) el v y/\[v].filterMap aO=jO.filterMap aO/\gv σ1 c l.rs jO:=Bi g1 h yB hv
def T3:∀{xs:eO}{vs:aW}{j:Nat}{x:At}{v:Value},J5 c xs vs->xs[j]? =some x->vs[j]? =some v->x.fixed=true->x.rel c v
 |_::_,_::_,0,_,_,h,e1,e2,hf=>by simp at e1 e2;subst e1;subst e2;exact h.1 hf
 |_::_,_::_,j+1,_,_,h,e1,e2,hf=>T3 (j:=j) h.2 (by simpa using e1) (by simpa using e2) hf|[],_,_,_,_,_,e1,_,_=>by simp at e1
 |_::_,[],_,_,_,h,_,_,_=>h.elim
def BV{c0:eO}{Jh:aW}(h:J5 c c0 Jh):∀js:bH,J5 c (nc c0 js) (js.map fun j=>(Jh[j]?).getD undef)
 |[]=>trivial|j::js=>by
  refine⟨fun hf=> ?_,BV h js⟩;have hf:((c0[j]?).getD .top).fixed=true:=hf;show At.rel c ((c0[j]?).getD .top) ((Jh[j]?).getD undef);cases e1:c0[j]? with
  |none=>rw[e1]at hf;cases hf
  |some x=>
   rw[e1]at hf;cases e2:Jh[j]? with
   |none=>
    have hl:∀{xs:eO}{vs:aW},J5 c xs vs->vs.length=xs.length:=by
     intro xs;induction xs with
     |nil=>intro vs h;cases vs with|nil=>rfl|cons=>exact h.elim
     |cons x xs ih=>intro vs h;cases vs with|nil=>exact h.elim|cons v vs=>simp[ih h.2]
    have:=(kK.1 e1).1;rw[List.getElem?_eq_none_iff,hl h]at e2;omega
   |some v=>exact T3 h e1 e2 hf
def uU{ok:dg}{n m:Nat}:∀{ss:m7}{c0 cs:aW}{xs:ab}{us:aW}{ys:ab},acI ss=true->jB P w ok n ss c0 cs xs us ys->jB P w ok m ss c0 cs xs us ys
 |[],[],[],_,_,_,_,hr=>hr| .rd _::ss,_::_,_::_,_,_,_,hs,hr=>⟨hr.1,uU (ss:=ss) hs hr.2⟩| .fq::ss,_::_,_::_,_,_,_,hs,hr=>⟨hr.1,uU (ss:=ss) hs hr.2⟩| .ck _::ss,_::_,_::_,_,_,_,hs,⟨y,Gw,e,h0,hr⟩=>⟨y,Gw,e,h0,uU (ss:=ss) hs hr⟩| .own _::ss,_::_,_::_,_,_,_,hs,⟨x,Se,jO,e1,e2,h0,hr⟩=>⟨x,Se,jO,e1,e2,h0,uU (ss:=ss) hs hr⟩| .sp::_,_,_,_,_,_,hs,_=>by simp[acI]at hs
 |[],_::_,_,_,_,_,_,h=>h.elim|[],[],_::_,_,_,_,_,h=>h.elim| .rd _::_,[],_,_,_,_,_,h=>h.elim| .rd _::_,_::_,[],_,_,_,_,h=>h.elim| .fq::_,[],_,_,_,_,_,h=>h.elim| .fq::_,_::_,[],_,_,_,_,h=>h.elim| .ck _::_,[],_,_,_,_,_,h=>h.elim| .ck _::_,_::_,[],_,_,_,_,h=>h.elim| .own _::_,[],_,_,_,_,_,h=>h.elim| .own _::_,_::_,[],_,_,_,_,h=>h.elim
def mP{row:iu}{b:Nat}{c0:eO}{Jh:aW}{ok:dg}{n:Nat}:∀{ss:m7}{js:bH}{ys:eO}{l:fj}{vs:aW}{xs:ab}{us:aW}{zs:ab},dp P row b ss (nc c0 js) ys=some l->J5 c c0 Jh->jB P w ok n ss (js.map fun j=>(Jh[j]?).getD undef) vs xs us zs->Dm ss js Jh vs
 | .fq::ss,j::js,y::ys,l,v::vs,_,_,_,h,h0,hr=>by
   have h:(match Pk P row b .fq ((c0[j]?).getD .top) y,dp P row b ss (nc c0 js) ys with|some z,some zs=>some (z.app zs)|_,_=>none)=some l:=h;split at h;rotate_left
   ·cases h
   rename_i h1 h2;exact⟨fun u hu=>by have e0:v=(Jh[j]?).getD undef:=hr.1;rw[hu]at e0;exact e0,mP h2 h0 hr.2⟩
 | .rd _::ss,j::js,y::ys,l,v::vs,_,_,_,h,h0,hr=>by
   simp only[nc,jQ,dp]at h;split at h
   ·rename_i h1 h2;exact mP (ss:=ss) h2 h0 hr.2
   ·cases h
 | .ck _::ss,j::js,y::ys,l,v::vs,_,_,_,h,h0,⟨_,_,_,_,hr⟩=>by
   simp only[nc,jQ,dp]at h;split at h
   ·rename_i h1 h2;exact mP (ss:=ss) h2 h0 hr
   ·cases h
 | .own _::ss,j::js,y::ys,l,v::vs,_,_,_,h,h0,⟨_,_,_,_,_,_,hr⟩=>by
   simp only[nc,jQ,dp]at h;split at h
   ·rename_i h1 h2;exact mP (ss:=ss) h2 h0 hr
   ·cases h
 | .sp::ss,j::js,y::ys,l,v::vs,_,_,_,h,h0,hr=>by
   simp only[nc,jQ,dp]at h;split at h
   ·rename_i h1 h2;exact mP (ss:=ss) h2 h0 hr.2
   ·cases h
 |[],_,_,_,_,_,_,_,_,_,_=>by simp[Dm]
 |s::_,[],_,_,_,_,_,_,_,_,_=>by cases s<;>simp[Dm]
 |s::_,_::_,_,_,[],_,_,_,_,_,_=>by cases s<;>simp[Dm]
 |_::_,_::_,[],_,_::_,_,_,_,h,_,_=>by simp[nc,dp]at h
def Zz{X:Cx}{σ1:St}(g1:av X.P B w0 σ1 c a w){s:RS}{sv:SV}{es eo:bZ}{fr:cv}{ro:bH}{c0:eO}{n:Nat}(aua:c0.isEmpty=false->c.β 0=some n){Jh:aW}(h0:J5 c c0 Jh)(h:Zy X σ c0 s sv=some (es,fr))(hO:acO X σ c0 s sv=some (eo,ro))(hfz:Fz σ.row σ1 fr)(yB:∀r∈ro,∀k,σ.row r=some k->σ1.row r=some k){v:Value}(hv:sv.rel c v):
 ∃us jO,vD X.P w (cD B σ1 c) s v (eo.map (Ex.ev c.ρ)) us (es.map (Ex.ev c.ρ))/\us.filterMap aO=jO.filterMap aO/\gv σ1 c ro jO/\(∀ss js,s= .al ss js->∀vs,v= .agg vs.toArray->Dm ss js Jh vs):=by
 have amI:∀{ss:sX}{xs:List SC}{es:bZ}{fr:cv}{vs:aW},tC X.P σ.row ss (xs.map .c)=some (es,fr)->Fz σ.row σ1 fr->wH c xs vs->sd X.P w (cD B σ1 c) ss vs (es.map (Ex.ev c.ρ)):=fun{ss xs es fr vs} h1 hf hr=>
  GP g1 h1 hf (by simp[yR hr]) (fun i h1 h2=>by
   simp only[getElem_map];have h3:i<xs.length:=by simpa using h1
   obtain⟨u,e,q⟩:=CY hr (cB h3);rw[cB h2]at e;cases e;exact q)
 unfold Zy at h
 split at h
 ·cases hO
  exact⟨[],[],⟨rfl,rfl,Dn g1 h hfz hv⟩,rfl,trivial,nofun⟩
 ·cases hO
  obtain⟨vs,rfl,hr⟩:=hv;exact⟨[],[],⟨rfl,rfl,vs,rfl,amI h hfz hr⟩,rfl,trivial,nofun⟩
 ·cases h
  unfold acO at hO;split at hO
  ·rename_i el x rQ;cases rQ
   obtain⟨l,h1,h2⟩:=nW.1 hO;simp only[iK]at h2;obtain⟨rfl,rfl⟩:=h2;obtain⟨y,jO,q1,q2,q3,q4⟩:=EZ g1 h1 yB hv;exact⟨[v],jO,⟨rfl,y,q1,rfl,q2⟩,q3,q4,nofun⟩
  ·rename_i hh;cases hh
  ·rename_i hh;cases hh
  ·rename_i hh;cases hh
  ·rename_i hh;cases hh
  ·cases hO
 ·rename_i el ss x xs;unfold acO at hO;split at hO
  ·rename_i hh _;cases hh
  ·rename_i JY ss' y ys h1 h2;cases h1;cases h2
   obtain⟨l,h1,h2⟩:=nW.1 hO;simp only[iK]at h2;obtain⟨rfl,rfl⟩:=h2;obtain⟨vs,rfl,hr⟩:=hv;cases vs with
   |nil=>exact hr.elim|cons u vs=>
    obtain⟨z,jO,q1,q2,q3,q4⟩:=EZ g1 h1 yB hr.1;exact⟨[u],jO,⟨z,u,vs,q1,rfl,rfl,q2,amI h hfz hr.2⟩,q3,q4,nofun⟩
  ·rename_i hh _;cases hh
  ·rename_i hh;cases hh
  ·rename_i hh;cases hh
  ·cases hO
 ·rename_i ss js ys;split at h;rotate_left
  ·cases h
  rename_i F7;simp only[aL,NC]at F7;obtain⟨F7,vP⟩:=F7;have hO:(dp X.P σ.row 0 ss (nc c0 js) ys).map (fun l=>(l.os,l.rs))=some (eo,ro):=hO;obtain⟨l,q1,q2⟩:=nW.1 h;obtain⟨l',q3,q4⟩:=nW.1 hO;rw[q1]at q3;cases q3;simp only[iK]at q2 q4;obtain⟨rfl,rfl⟩:=q2;obtain⟨rfl,rfl⟩:=q4;obtain⟨vs,rfl,hr⟩:=hv;have hb:c.β 0=some n:=aua vP;obtain⟨us,jO,i1,i2,i3⟩:=wu g1 hb q1 hfz yB hr (BV h0 js);refine⟨us,jO,⟨F7,_,vs,rfl,uU F7 i1⟩,i2,i3,fun ss2 js2 e vs2 e2=> ?_⟩;cases e
  have e2:vs=vs2:=by have:=congrArg (fun x=>match x with| .agg a=>a.toList|_=>[]) e2;simpa using this
  subst e2;exact mP q1 h0 i1
 ·cases h
def vL{w:World}{ok:dg}:∀{ss:sX}{xs:List SC}{vs:aW}{X:ab}{U:aW}{q:Nat},Dd P w ok ss vs X U->wH c xs vs->(∀j u,U[j]? =some u->c.R (q+j)=some u)->wH c (Sa q ss xs) vs
 |[],[],[],_,_,_,_,_,_=>trivial|s::ss,x::xs,v::vs,_,_,q,⟨X1,U1,X2,U2,rfl,rfl,h1,h2⟩,hx,hR=>by
  cases s with
  |w el b=>
   obtain⟨y,rfl,rfl,ho⟩:=h1;refine⟨⟨by have:=hR 0 v rfl;rw[pA]at this;exact this,kR ho⟩,vL h2 hx.2 (fun j u hj=> ?_)⟩;have:=hR (j+1) u (by simpa using hj);rw[show q+1+j=q+(j+1)by omega];exact this
  |a s=>obtain⟨_,rfl⟩:=h1;exact⟨hx.1,vL h2 hx.2 hR⟩
  |g s=>obtain⟨_,rfl⟩:=h1;exact⟨hx.1,vL h2 hx.2 hR⟩
  |p _ _=>obtain⟨_,rfl⟩:=h1;exact⟨hx.1,vL h2 hx.2 hR⟩
  |f _ _=>obtain⟨_,rfl⟩:=h1;exact⟨hx.1,vL h2 hx.2 hR⟩
 |[],_::_,[],_,_,_,_,hx,_=>hx.elim|[],_,_::_,_,_,_,h,_,_=>h.elim|_::_,_,[],_,_,_,h,_,_=>h.elim|_::_,[],_::_,_,_,_,_,hx,_=>hx.elim
def Lt{w:World}{ok:dg}:∀{ss:sX}{vs:aW}{X:ab}{U:aW},Dd P w ok ss vs X U->gL P w ok (wsL ss) U X
 |[],[],_,_,⟨rfl,rfl⟩=>trivial|s::ss,v::vs,_,_,⟨X1,U1,X2,U2,rfl,rfl,h1,h2⟩=>by
  show gL P w ok (s.yL++wsL ss) (U1++U2) (X1++X2);refine dV ?_ (Lt h2);cases s with
  |w el b=>obtain⟨x,rfl,rfl,q3⟩:=h1;exact⟨q3,trivial⟩
  |_=>obtain⟨rfl,rfl⟩:=h1;trivial
 |[],_::_,_,_,h=>h.elim|_::_,[],_,_,h=>h.elim
def wV{w0':World}{ok:dg}{row:iu}{σ1:St}(g1:av P B w0 σ1 c a w):∀{ss:sX}{q:Nat}{l:fj}{vs:aW}{X:ab}{U:aW},AK P row q ss=some l->(∀r∈l.rs,∀k,row r=some k->σ1.row r=some k)->Dd P w0' ok ss vs X U->(∀j u,U[j]? =some u->c.R (q+j)=some u)->∃us jO,nN P w (cD B σ1 c) ss vs (l.os.map (Ex.ev c.ρ)) us/\us.filterMap aO=jO.filterMap aO/\gv σ1 c l.rs jO
 |[],q,l,[],_,_,h,_,_,_=>by simp[AK]at h;subst h;exact⟨[],[],⟨rfl,rfl⟩,rfl,trivial⟩
 |s::ss,q,l,v::vs,_,_,h,yB,⟨X1,U1,X2,U2,rfl,rfl,h1,h2⟩,hR=>by
  have other:(∀el b,s≠.w el b)->AK P row q (s::ss)=AK P row q ss->U1=[]->(afX P w (cD B σ1 c) s v [] [])->∃us jO,nN P w (cD B σ1 c) (s::ss) (v::vs) (l.os.map (Ex.ev c.ρ)) us/\us.filterMap aO=jO.filterMap aO/\gv σ1 c l.rs jO:=fun _ e e2 hb=>by subst e2;rw[e]at h;obtain⟨us,jO,i1,i2,i3⟩:=wV g1 h yB h2 hR;exact⟨us,jO,⟨[],[],_,us,rfl,rfl,hb,i1⟩,i2,i3⟩
  cases s with
  |w el b=>
   obtain⟨y,rfl,rfl,ho⟩:=h1;have P5:∀j u,U2[j]? =some u->c.R (q+1+j)=some u:=fun j u hj=>by have:=hR (j+1) u (by simpa using hj);rw[show q+1+j=q+(j+1)by omega];exact this
   cases b with
   |false=>
    have h:AK P row (q+1) ss=some l:=h;obtain⟨us,jO,i1,i2,i3⟩:=wV g1 h yB h2 P5;exact⟨us,jO,⟨[],[],_,us,rfl,rfl,⟨rfl,rfl⟩,i1⟩,i2,i3⟩
   |true=>
    simp only[AK]at h;split at h;rotate_left
    ·cases h
    rename_i z zs q1 q2;cases h
    have hv:(At.vec q).rel c v:=⟨by have:=hR 0 v rfl;rw[pA]at this;exact this,kR ho⟩;obtain⟨x,PR,p1,p2,p3,p4⟩:=Bi g1 q1 (fun r hr=>yB r (iv _ hr)) hv;obtain⟨us,jO,i1,i2,i3⟩:=wV g1 q2 (fun r hr=>yB r (cz _ hr)) h2 P5;exact⟨[v]++us,PR++jO,⟨_,[v],_,us,by simp[fj.app],rfl,⟨x,p1,rfl,p2⟩,i1⟩,by rw[qN,qN,p3,i2],fM p4 i3⟩
  |a s=>exact other (nofun) rfl h1.2 ⟨rfl,rfl⟩|g s=>exact other (nofun) rfl h1.2 ⟨rfl,rfl⟩|p _ _=>exact other (nofun) rfl h1.2 ⟨rfl,rfl⟩|f _ _=>exact other (nofun) rfl h1.2 ⟨rfl,rfl⟩
 |[],_,_,_::_,_,_,_,_,h,_=>h.elim|_::_,_,_,[],_,_,_,_,h,_=>h.elim
def E6{ok ok':dg}(h:∀p,ok p->ok' p):∀{ss:sX}{vs:aW}{X:ab}{U:aW},nN P w ok ss vs X U->nN P w ok' ss vs X U
 |[],[],_,_,hr=>hr|s::ss,v::vs,_,_,⟨X1,U1,X2,U2,e1,e2,h1,h2⟩=>by
  refine⟨X1,U1,X2,U2,e1,e2,?_,E6 h h2⟩;cases s with
  |w el b=>
   cases b with
   |true=>obtain⟨x,q1,q2,q3⟩:=h1;exact⟨x,q1,q2,tM h q3⟩
   |false=>exact h1
  |_=>exact h1
 |[],_::_,_,_,hr=>hr.elim|_::_,[],_,_,hr=>hr.elim
end
def CS.lens(l:sX):Nat:=(l.map CS.len).sum
def tr.width(bd:tr):Nat:=(dO (bf bd.args)++wsL bd.args).length+(Cv (bf bd.args)).length+CS.lens bd.args
def GT{P:Program}{w:World}{ok:dg}:∀{s:sX}{v:aW}{l:ab}{ns:bH},qj P w ok s v l ns->l.length=CS.lens s/\v.length=s.length
 |[],[],_,_,h=>by obtain⟨rfl,_⟩:=h;exact⟨rfl,rfl⟩
 |s::ss,_::_,_,_,⟨l1,l2,n1,n2,e,e2,r1,r2⟩=>by
  obtain⟨i1,i2⟩:=GT r2;subst e;have:l1.length=s.len:=by
   cases s with|a s=>exact oA r1.2|g ss=>exact oA r1.2|p _ _=>rw[r1.1];rfl|f _ _=>rw[r1.1];rfl|w _ _=>rw[r1.1];rfl
  exact⟨by simp[CS.lens,this,i1],by simp[i2]⟩
 |[],_::_,_,_,h=>h.elim|_::_,[],_,_,h=>h.elim
def Pc{P:Program}{nr U:Nat}{e:Ex}(h:e.under U=true):∀k,(sF P nr e k).1.under U=true
 | .sl el=>by cases hT:eC P el<;>simp[sF,hT,At.under]
 | .int _=>h| .bool=>h| .str=>h
def EX{P:Program}{U:Nat}:∀{ps:List (AS×Ex)}{nr:Nat},(∀p∈ps,p.2.under U=true)->∀x∈(de P nr ps).1,x.under U=true
 |[],_,_,x,hx=>by cases hx
 |(.ck k,e)::ps,nr,h,x,hx=>by
  have hx:x∈(sF P nr e k).1::(de P (sF P nr e k).2.2 ps).1:=hx;rcases bX.1 hx with rfl|hx
  ·exact Pc (h (.ck k,e) (fc ..)) k
  ·exact EX (fun p hp=>h p (bB _ hp)) x hx
def zA{U:Nat}:∀{ss:Nv}{nv:Nat},nv+ss.length<=U->∀p∈bv nv ss,p.2.under U=true
 |[],_,_,p,hp=>by cases hp
 |s::ss,nv,h,p,hp=>by
  rcases bX.1 hp with rfl|hp
  ·simp at h;simp[Ex.under];omega
  ·exact zA (ss:=ss) (by simp at h;omega) p hp
def Rx{c:Ct}:∀(vs:aW),cm c (vs.map fun _=>At.top) vs
 |[]=>trivial|_::vs=>⟨trivial,Rx vs⟩
def yQ{l:List (Nat×Option Bk)}{p:Nat}{k:Bk}(h:(bG [] l).getD p none=some k):(p,some k)∈l:=by
 by_cases hm:∃x∈l,x.1=p
 ·obtain⟨v,h1,h2⟩:=mJ l [] p hm;rw[h2]at h;subst h;exact h1
 ·rw[iR l [] p (fun x hx e=>hm ⟨x,hx,e⟩)]at h;simp at h
def Pl{l:List (Nat×Option Bk)}{p:Nat}(h:p∈l.map (·.1)):∃v,(p,v)∈l/\(bG [] l).getD p none=v:=by obtain⟨x,hx,e⟩:=pB.1 h;exact mJ l [] p ⟨x,hx,e⟩
def Ex.qa{m n:Nat}(hmn:m<=n):∀{x:Ex},x.under m=true->x.under n=true
 | .v p,h=>by have h1:p<m:=oz h;have:p<n:=mC h1 hmn;show blt p n=true;simpa[blt]using succ_le_of_lt this
 | .i _,_| .b _,_| .s _,_| .nil,_=>rfl| .u f x,h=>Ex.qa (x:=x) hmn h| .o f x y,h=>by simp only[Ex.under,aL]at h⊢;exact⟨Ex.qa hmn h.1,Ex.qa hmn h.2⟩
 | .t f x y z,h=>by simp only[Ex.under,aL]at h⊢;exact⟨⟨Ex.qa hmn h.1.1,Ex.qa hmn h.1.2⟩,Ex.qa hmn h.2⟩
def A5{e:Ex}{b:Bool}:∀{fs:List (Ex×Bool)},Mc fs e=some b->(e,b)∈fs
 |[],h=>by cases h
 |(x,y)::r,h=>by
  unfold Mc at h;cases hs:x.same e with
  |true=>rw[hs]at h;cases h;rw[Ex.aG hs];exact fc ..
  |false=>rw[hs]at h;exact bB _ (A5 h)
def l8{Γ:Nat->dK}{L:Type}:∀{t:T L}{fs:List (Ex×Bool)}{n:Nat}{ρ:ab}{N:Nx}{Φ:L->ab->Nx->Prop},(t.xu fs n).wp Γ ρ N Φ->ρ.length=n->(∀x∈fs,x.1.under n=true/\(x.1.ev ρ).bool=x.2)->t.wp Γ ρ N Φ
 | .ah x,_,_,_,_,_,h,_,_=>h| .fail _,_,_,_,_,_,h,_,_=>h| .next _ _,_,_,_,_,_,h,_,_=>h| .aa c k,fs,n,ρ,N,Φ,h,hn,hf=>⟨h.1,l8 h.2 hn hf⟩| .call f es m k,fs,n,ρ,N,Φ,h,hn,hf=>by obtain⟨rs,h1,h2,h3⟩:=h;refine⟨rs,h1,h2,l8 h3 (by simp[hn,h2]) (fun x hx=> ?_)⟩;obtain⟨a,b⟩:=hf x hx;exact⟨Ex.qa (le_add_right _ _) a,by rw[Ex.aH (fun i hi=>aZ _ _ _ _ (by omega)) a];exact b⟩
 | .loop jH k,fs,n,ρ,N,Φ,h,hn,hf=>by obtain⟨I,μ,h1,h2⟩:=h;refine⟨I,μ,h1,fun jw hl hI=>l8 (h2 jw hl hI) (by simp[hn,hl]) (fun x hx=> ?_)⟩;obtain⟨a,b⟩:=hf x hx;exact⟨Ex.qa (le_add_right _ _) a,by rw[Ex.aH (fun i hi=>aZ _ _ _ _ (by omega)) a];exact b⟩
 | .ite c a b,fs,n,ρ,N,Φ,h,hn,hf=>by
   unfold T.xu at h;simp only[T.wp];split at h
   ·rename_i hc;rw[aA (hf _ (A5 hc)).2];exact l8 h hn hf
   ·rename_i hc;rw[aE (by rw[(hf _ (A5 hc)).2];simp)];exact l8 h hn hf
   ·cases hu:c.under n with
    |true=>
     rw[hu]at h;simp only[cond_true,T.wp]at h;split
     ·rename_i hb;rw[aA hb]at h;exact l8 h hn (fun x hx=>by
       rcases bX.1 hx with rfl|hx
       ·exact⟨hu,hb⟩
       ·exact hf x hx)
     ·rename_i hb;rw[aE hb]at h;exact l8 h hn (fun x hx=>by
       rcases bX.1 hx with rfl|hx
       ·exact⟨hu,by simpa using hb⟩
       ·exact hf x hx)
    |false=>
     rw[hu]at h;simp only[cond_false,T.wp]at h;split
     ·rename_i hb;rw[aA hb]at h;exact l8 h hn hf
     ·rename_i hb;rw[aE hb]at h;exact l8 h hn hf
def av.anh{P:Program}{B:fZ}{w0:World}{σ:St}{c c':Ct}{a:Act}{w:World}(g:av P B w0 σ c a w)(h:c.le c')(hβ:c'.β=c.β):av P B w0 σ c' a w:=by
 have dN:∀x p,σ.owns c' x p->σ.owns c x p:=by
  rintro⟨t,q⟩ p hx;cases t
  ·exact⟨hx.1,by rw[<-hβ];exact hx.2⟩
  ·obtain⟨⟨k,hk,ho⟩,v,hv,hb⟩:=hx;obtain⟨u,hu,_⟩:=g.rows q k hk;have:=h.R _ _ hu;rw[hv]at this;cases this;exact⟨⟨k,hk,ho⟩,v,hu,hb⟩
 refine⟨g.below,g.hB,g.defers,g.size,fun t=>SV.kv h (g.aC t),fun p k hp=> ?_,fun r k hk=> ?_,fun x y p hx hy=>g.apart x y p (dN x p hx) (dN y p hy)⟩
 ·obtain⟨n,cs,h1,h2,h3,h4⟩:=g.au p k hp;exact⟨n,cs,h.β _ _ h1,h2,h3,jb h h4⟩
 ·obtain⟨v,h1,h2⟩:=g.rows r k hk;exact⟨v,h.R _ _ h1,h2.mono (fun p o u hp hu=>⟨⟨fun x hx=>hp.1 x (dN x p hx),by rw[h.K];exact hp.2⟩,hu⟩) (fun _ _ _ _=>rfl) (by rw[h.ρ]) (fun n l H hh=>hh.le h)⟩
def OU{c:Ct}:∀(K:aW)(q:Nat),(∀j v,K[j]? =some v->c.R (q+j)=some v)->(∀v∈K,∃ad m cap,v= .slice ad m cap)->cm c (KT q K.length) K
 |[],_,_,_=>trivial|v::K,q,hR,hs=>by unfold KT;rw[AM,range'_succ];exact⟨⟨by simpa using hR 0 v rfl,hs v (fc ..)⟩,OU K (q+1) (fun j u hj=>by have:=hR (j+1) u (by simpa using hj);rw[show q+1+j=q+(j+1)by omega];exact this) (fun u hu=>hs u (bB _ hu))⟩
def CR:∀(n q:Nat)(l:List (Option Rw)),(∀r,q<=r->l.getD r none=none)->∀r,(ai l (Cw q n)).getD r none=l.getD r none
 |0,_,_,_,_=>rfl|n+1,q,l,h,r=>by
  unfold Cw;rw[range'_succ,jQ,ai]
  have:=CR n (q+1) (bU none l q none) (fun r hr=>by rw[dw];split
                                                    ·rfl
                                                    ·exact h r (by omega)) r
  unfold Cw at this;rw[this,dw];split
  ·rename_i e;rw[e,h q (aX _)]
  ·rfl
def MX{w:World}{c c':Ct}{U:Nat}{ls:List (TypeId×m7)}{ns:bH}{au:List (Nat×Option Bk)}(h:CX w c U ls ns au)(hs:c.sub c')(hρ:∀i,i<U->c'.ρ.getD i (.i 0)=c.ρ.getD i (.i 0))(hk:au.map (·.1)=range' 0 ns.length):
 ∃n0 Jh,J5 c' (zN au) Jh/\((zN au).isEmpty=false->c'.β 0=some n0)/\∀n,ns.head? =some n->∀cs ty,w.heap[n]? =some (.cells cs.toArray ty (0,0))->cs=Jh:=by
 match ls,ns,au,h,hk with
 |[],[],[],_,_=>exact⟨0,[],trivial,(nofun),(nofun)⟩|(ty,_)::ls,n::ns,(b,k0)::bs,⟨⟨cells,cs,e,h1,h2,h3,h4⟩,_⟩,hk=>
  subst e;simp only[jQ,AM,range'_succ,uQ]at hk;have hb:=hk.1;subst hb;refine⟨n,cs,M0 hs hρ h3 h4,fun _=>hs.β _ _ h1,fun m hm Ap ty' hc=> ?_⟩;simp only[head?_cons,eF]at hm;subst hm;rw[h2]at hc;exact(mQ hc).1.symm
 |[],[],_::_,h,_=>exact h.elim|[],_::_,_,h,_=>exact h.elim|_::_,[],_,h,_=>exact h.elim|_::_,_::_,[],h,_=>exact h.elim
def R6{X:Cx}[ol X.P]{Γ:Nat->dK}(hX:∀S w,ol.G X.P S w->∀B:fZ,B.n=w.heap.size->B.lim=S->X.ok Γ B w){bd:tr}{F:dK}(d:Nat)(cC:∀args w,(callFunc bd.f args).run X.P w= .ok (.enter bd.f args) w)(h:∀l rs,l.length=bd.width->F l=some rs->(tree X d bd).wp Γ l [] fun es ρ' _=>es.map (Ex.ev ρ')=rs):bd.holds X.P F:=by
 refine fun S w hG ok vs ns xsL xw usL uw ys l rs dH mZ DT hnd hlS re hF=> .inl ⟨cC _ _,?_⟩
 obtain⟨hlen,uK⟩:=GT dH
 obtain⟨aer,V,hV,KV,hKl,hKs,KK⟩:=B2 mZ
 have bj:=dV aer (Lt DT)
 have ahm:usL.length=(dO (bf bd.args)).length:=(mV aer).1
 obtain⟨us,F8⟩:∃us,usL++uw=us:=⟨_,rfl⟩
 obtain⟨xs,uL⟩:∃xs,xsL++xw=xs:=⟨_,rfl⟩
 rw[F8,uL]at bj
 rw[F8]at hnd re⊢
 rw[uL]at hF
 have amJ:∀j u,usL[j]? =some u->us[j]? =some u:=fun j u hj=>by rw[<-F8,gA (kK.1 hj).1];exact hj
 have amK:∀j u,uw[j]? =some u->us[(dO (bf bd.args)).length+j]? =some u:=fun j u hj=>by rw[<-F8,<-ahm,lR (by omega),ta];exact hj
 obtain⟨hol,Wt⟩:=mV bj
 have hil:=vW hV
 simp only[Ab]at hil
 generalize hL:xs++ys++l=L at hF
 have hLl:L.length=bd.width:=by rw[<-hL];unfold tr.width;simp only[fR]at Wt⊢;omega
 have ht:=h L rs hLl hF
 have hLn:L.length=(dO (bf bd.args)++wsL bd.args).length+(Cv (bf bd.args)).length+l.length:=by rw[<-hL];simp only[fR]at Wt⊢;omega
 replace ht:(Up X d bd).wp Γ L [] fun es ρ' _=>es.map (Ex.ev ρ')=rs:=by
  unfold tree at ht;cases hp:iC X.pr bd.f with
  |true=>
   rw[hp]at ht;exact l8 ht (by rw[hLl];unfold tr.width CS.lens;congr 3) (nofun)
  |false=>rw[hp]at ht;exact ht
 unfold Up at ht
 generalize hls:bf bd.args=ls at*
 simp only at ht
 generalize agR:dO ls++wsL bd.args=lK at*
 generalize hm:lK.length=m at*
 generalize hop:de X.P m (bv m ((Cv ls).map AS.ck))=O at ht
 obtain⟨Y,rs1,tl⟩:=O
 try simp only at ht
 generalize hen:kY X.P (m+(Cv ls).length) tl 0 bd.args=E at ht
 obtain⟨xsv,RC,nv,xo,bs⟩:=E
 try simp only at ht
 have ht:=T.wp_bind ht
 let B:fZ:=⟨w.heap.size,(·∈bC ns us),S,ol.size S w hG,fun p hp hS=>(re p hp).2 (hlS p hS)⟩
 let c00:Ct:=⟨L,fun _=>none,fun _=>none,ok⟩
 let c0:Ct:=⟨L,fun i=>ns[i]?,fun i=>us[i]?,ok⟩
 have ag5:c00.le c0:=⟨rfl,rfl,(nofun),(nofun)⟩
 have Dh:∀x p,¬St.owns ⟨nv,0,[],[],[]⟩ c00 x p:=by
  rintro⟨t,q⟩ p h;cases t
  ·obtain⟨⟨k,hk⟩,_⟩:=h;cases hk
  ·obtain⟨⟨k,hk,_⟩,_⟩:=h;cases hk
 have g0:av X.P B w ⟨nv,0,[],[],[]⟩ c00 ⟨#[],[]⟩ w:=
  ⟨.refl _ _ _,aX _,rfl,xA _,fun t=>trivial,fun p k h=>(by cases h),fun r k h=>(by cases h),fun x y p hx _=>(Dh x p hx).elim⟩
 have alG:(range' 0 ns.length).map c0.β=ns.map some:=Iv (nb:=0) (fun j n hj=>by rw[eG];exact hj)
 obtain⟨Yk,YB⟩:=KK (c:=c0) (U:=L.length) (bs:=range' 0 ns.length) (blk:=fun _=>none) (Y:=V.map fun _=>At.top) (Z:=KV.map fun _=>At.top) (nr:=0) alG (fun j u hj=>by rw[eG];exact amJ j u hj) [] (by rw[uP];exact Rx V) (fun y hy=>by
  obtain⟨_,_,rfl⟩:=pB.1 hy;rfl) [] (by rw[uP];exact Rx KV) (fun y hy=>by
  obtain⟨_,_,rfl⟩:=pB.1 hy;rfl)
 generalize asW:bV false (fun _=>none) 0 ls (range' 0 ns.length) (V.map fun _=>At.top) (KV.map fun _=>At.top)=adP at Yk YB
 have DL:=Kh.1 hnd
 let σt:St:=⟨nv,0,[],bG [] adP,ai [] (bR X.P 0 0 lK)⟩
 let Nn:Bool×Nat->dg:=fun x p=>(x.1=false/\ns[x.2]? =some p)\/(x.1=true/\∃u,us[x.2]? =some u/\aO u=some p)
 have hNm:∀x p,Nn x p->p∈bC ns us:=by
  rintro x p (⟨_,h⟩|⟨_,u,h1,h2⟩)
  ·exact iv _ (d9 h)
  ·exact cz _ (LF.2 ⟨u,d9 h1,h2⟩)
 have aes:∀x p,σt.owns c0 x p->p∈bC ns us:=by
  rintro⟨t,q⟩ p h;cases t
  ·obtain⟨_,e⟩:=h;exact iv _ (d9 e)
  ·obtain⟨_,u,e,e2⟩:=h;exact cz _ (LF.2 ⟨u,d9 e,e2⟩)
 have g1:av X.P B w σt c0 ⟨#[],[]⟩ w:=by
  refine g0.aeS (σ2:=σt) (c2:=c0) (·∈bC ns us) (.refl _ _ _) (fun p hp _=> .inr hp) Nn (fun _=>False) ?_ (fun x p h=> .inl (hNm x p h)) (fun x p h=> .inr (hNm x p h)) (fun _ _ h=>h.elim) ag5 rfl ?_ (ok':=ok) ?_ (fun p hp=>⟨fun x hx=>(re p (aes x p hx)).2 hp,.inr (.inl (.inl hp))⟩) (fun p _ hr=>by obtain⟨r,k,hk⟩:=hr;cases hk)
  ·rintro⟨x1,x2⟩ ⟨y1,y2⟩ p (⟨a1,a2⟩|⟨a1,u,a2,a3⟩) (⟨b1,b2⟩|⟨b1,u',b2,b3⟩)
   ·simp only at a1 a2 b1 b2;subst a1;subst b1;have:x2=y2:=(getElem?_inj (kK.1 a2).1 DL.1).1 (a2.trans b2.symm);rw[this]
   ·exact(DL.2.2 p (d9 a2) p (LF.2 ⟨u',d9 b2,b3⟩) rfl).elim
   ·exact(DL.2.2 p (d9 b2) p (LF.2 ⟨u,d9 a2,a3⟩) rfl).elim
   ·simp only at a1 a2 b1 b2;subst a1;subst b1;rw[D7 DL.2.1 a2 b2 a3 b3]
  ·intro p k hk;obtain⟨k',n,cs,e,e1,e2,e3,e4,e5⟩:=tP YB p _ (yQ hk);cases e
   exact .inr ⟨n,cs,e3,.inl ⟨rfl,e3⟩,by rw[dJ e1];exact e4,e5⟩
  ·intro r k hk;have hk:(ai [] (bR X.P 0 0 lK)).getD r none=some k:=hk;rcases tN 0 0 [] r bj with⟨j,el,agg,ks,rfl,h2,h3,h4⟩|⟨h1,h2⟩
   ·rw[h4]at hk;cases hk
    obtain⟨u,y,q1,q2,Jr,Wu,D,ad,n,cap,p1,p2,rfl,p4,p5,p6,p7,p8,p9⟩:=yM bj h2;rw[h3]at p1;cases p1;refine .inr ⟨rfl,rfl,D,ad,n,cap,by show us[0+j]? =_;rw[eG];exact q1,?_,p5,p6,p7,p8,fun p hp=> .inr ⟨rfl,_,by show us[0+j]? =_;rw[eG];exact q1,hp⟩,p9⟩;show(L.getD (0+j) (.i 0)).er=_;have hjX:=(kK.1 q2).1;rw[eG,<-hL,eh,aZ _ _ _ _ hjX,cE,q2];exact p4
   ·rw[h2]at hk;simp at hk
 have ag9:∀p,ok p->cD B σt c0 p:=fun p hp=>⟨fun x hx=>(re p (aes x p hx)).2 hp,.inr (.inl (.inl hp))⟩
 have hRm:∀i,m<=i->c0.R i=none:=fun i hi=>mB (by omega)
 have KM:=kp (P:=X.P) (bv m ((Cv ls).map AS.ck)) m
 obtain⟨c1,a1,a2,a3,a4,a5⟩:=oM (ps:=bv m ((Cv ls).map AS.ck)) (nr:=m) (vs:=V) (ok:=ok) g1 ag9 (nM (nv:=m) (ys:=ys) (fun i hi=>by show L.getD (m+i) (.i 0)=_;rw[<-hL,eh,cE,lR (by omega),Wt,ta,gA hi,<-cE]) hV) (fun i h1 _=>hRm i h1)
 rw[hop]at a2 a3 a4 a5 KM
 simp only at a2 a3 a4 a5 KM
 have Cs:=A4 (P:=X.P) bd.args (m+(Cv ls).length) tl 0
 obtain⟨⟨c2,d1,d2,d3,d4,d5⟩,d6,d7⟩:=Hm (ss:=bd.args) (nv:=m+(Cv ls).length) (nr:=tl) (nb:=0) (vs:=vs) (ys:=l) (ns:=ns) (ok:=ok) a4 (fun p hp=>⟨fun x hx=>(ag9 p hp).1 x (a5.owns x p hx),by rw[a5.le.K];exact(ag9 p hp).2⟩) (fun i hi=>by rw[a5.le.ρ];show L.getD _ (.i 0)=_;rw[<-hL,cE,lR (by simp;omega)];rw[cE];congr 2;simp;omega) dH (fun j n hj=>by rw[eG,a1];exact hj) (fun i h1 _=>by rw[a2 i (.inr h1)];exact hRm i (by omega))
 rw[hen]at d2 d3 d4 d5 d6 d7 Cs
 simp only at d2 d3 d4 d5 d6 d7 Cs
 have aub:c2.β=c0.β:=d1.trans a1
 have HH:c0.le c2:=a5.le.trans d5.le
 have acp:c2.ρ=L:=HH.ρ
 have P5:∀i,xo<=i->c2.R i=none:=fun i hi=>by have:=KM.1;have:=Cs.1;rw[d2 i (.inr hi),a2 i (.inr (by omega))];exact hRm i (by omega)
 let c3:Ct:={c2 with R:=fun i=>if xo<=i/\i<xo+KV.length then KV[i-xo]? else c2.R i}
 have acg:c2.le c3:=⟨rfl,rfl,fun _ _ e=>e,fun i v e=>by show(if xo<=i/\i<xo+KV.length then KV[i-xo]? else c2.R i)=some v;rw[aE (fun h=>by rw[P5 i h.1]at e;cases e)];exact e⟩
 have d4':=d4.anh acg rfl
 have hKR:cm c3 (KT xo (yG ls)) KV:=by
  rw[<-hKl];exact OU KV xo (fun j v hj=>by show(if xo<=xo+j/\xo+j<xo+KV.length then KV[xo+j-xo]? else c2.R (xo+j))=some v;have:=(kK.1 hj).1;rw[aA (by omega),ta];exact hj) hKs
 have aco:c3.β=c0.β:=aub
 have Te:c0.le c3:=HH.trans acg
 have ahq:c3.ρ=L:=acp
 obtain⟨HG,Tl⟩:=KK (c:=c3) (U:=L.length) (bs:=bs) (blk:=fun _=>none) (Y:=Y) (Z:=KT xo (yG ls)) (nr:=0) (by rw[aco,d7];exact alG) (fun j u hj=>by rw[eG];exact Te.R _ _ (amJ j u hj)) [] (by rw[uP];exact jb acg (jb d5.le a3)) (fun y hy=>by
  have:=EX (P:=X.P) (U:=L.length) (ps:=bv m ((Cv ls).map AS.ck)) (nr:=m) (zA (by simp;omega)) y (by rw[hop];exact hy);exact this) [] (by rw[uP];exact hKR) (fun z hz=>by
  obtain⟨_,_,rfl⟩:=pB.1 hz;rfl)
 generalize awo:bV false (fun _=>none) 0 ls bs Y (KT xo (yG ls))=au at HG Tl ht
 have OB:wH c3 (Sa (dO ls).length bd.args xsv) vs:=vL DT (MY acg d3) (fun j u hj=>Te.R _ _ (amK j u hj))
 have g2:=d4'.MW (σ2:=⟨nv,0,[],bG [] au,ai [] (bR X.P 0 0 lK++rs1++RC++Cw xo (yG ls))⟩) rfl (fun r=>by
  show(ai [] (bR X.P 0 0 lK++rs1++RC++Cw xo (yG ls))).getD r none=(ai (ai (ai [] (bR X.P 0 0 lK)) rs1) RC).getD r none;rw[bg,CR _ _ _ (fun r hr=> ?_),bg,bg];rw[fL _ _ _ (fun x hx e=> ?_)]
  ·simp
  ·have hm:r∈(bR X.P 0 0 lK++rs1++RC).map (·.1):=e▸NB (f:=(·.1)) hx;rw[BP,BP,ic,ic,KM.2,Cs.2,nt 0 0 r bj]at hm;have:=KM.1;have:=Cs.1;omega) (fun p k2 m5=>by
  obtain⟨k,n,cs,e,e1,e2,e3,e4,e5⟩:=tP Tl p _ (yQ m5);cases e
  have hp0:p∈adP.map (·.1):=by rw[Yk,<-d7,<-HG];exact NB (f:=(·.1)) (yQ m5)
  obtain⟨v0,z1,z2⟩:=Pl hp0;obtain⟨k',n',Ap,f,f1,f2,f3,f4,f5⟩:=tP YB p _ z1;subst f;have e3':=e3;rw[aco,f3]at e3';cases e3';have e4':=e4;rw[f4]at e4';obtain⟨h1,h2⟩:=mQ e4';refine⟨k',z2,h2.symm,by rw[e1,f1],fun n2 cs2 q1 q2 _=> ?_⟩;rw[aco,f3]at q1;cases q1;rw[dJ f1,f4]at q2;obtain⟨h3,_⟩:=mQ q2;rw[<-h3,h1];exact e5)
 refine(IG (B:=B) (w0:=w) (hX S w hG B rfl rfl) d bd.f ((Sa (dO ls).length bd.args xsv).map .c) _ L [] _ c3 c3 ⟨#[],[]⟩ w vs ht ⟨.refl _,ahq,g2,⟨fun p hp=> ?_,fun r hr=> ?_⟩,by rw[d6,hLn],rfl⟩ (by simp[yR OB]) (fun i h1 h2=> ?_)).mono ?_
 ·have hp:(bG [] au).length<=p:=hp;rw[aco];show ns[p]? =none;refine mB (Kg fun bi=> ?_);have hm:p∈au.map (·.1):=by rw[HG,d7];simp[mem_range'_1,bi]
  obtain⟨x,hx,e⟩:=pB.1 hm;have:=(ku au []).2 x hx;omega
 ·have hr:(ai [] (bR X.P 0 0 lK++rs1++RC++Cw xo (yG ls))).length<=r:=hr;have xj:xo<=r/\¬(xo<=r/\r<xo+yG ls):=by
   refine⟨Kg fun bi=> ?_,fun bi=> ?_⟩;all_goals
    have hm:r∈(bR X.P 0 0 lK++rs1++RC++Cw xo (yG ls)).map (·.1):=by
     rw[BP,BP,BP,ic,ic,ic,KM.2,Cs.2,nt 0 0 r bj];first
      |(left;omega)
      |(right;unfold Cw;simp[mem_range'_1];omega)
    obtain⟨x,hx,e⟩:=pB.1 hm
    have:=(ci _ []).2 x hx
    omega
  show(if xo<=r/\r<xo+KV.length then KV[r-xo]? else c2.R r)=none;rw[aE (by rw[hKl];exact xj.2)];exact P5 r xj.1
 ·simp only[getElem_map];have h3:i<(Sa (dO ls).length bd.args xsv).length:=by simpa using h1
  obtain⟨u,e,q⟩:=CY OB (cB h3);rw[cB h2]at e;cases e;exact q
 ·rintro e w' ⟨v,sv,σ',r,n,c',rfl,hΦ,fp,m8⟩;have hi:=m8 ⟨#[],[]⟩ rfl;simp only at hΦ;split at hΦ;rotate_left
  ·exact hΦ.elim
  rename_i es fr eo ro lt lw Mn heo Cq hlw;split at hΦ;rotate_left
  ·exact hΦ.elim
  rename_i hc;simp only[aL,lO]at hc;obtain⟨Ya,hnf⟩:=hc;have Ya:=mS Ya;have hΦ:(lt.os++lw.os++eo++(es++lt.es)).map (Ex.ev (L++r))=rs:=hΦ;obtain⟨g5,hfz⟩:=oB (σ:={σ' with aC:=[]}) hi.cO (row:=σ'.row) (fun _ _ e=>e) ((acP Mn).append (ET Cq));have Ve:∀r∈lt.rs++lw.rs++ro,∀k,σ'.row r=some k->St.row {({σ' with aC:=[]}:St)with rows:=ai σ'.rows (fr++lt.fr)} r=some k:=fun r hr k hk=>by
   show(ai σ'.rows (fr++lt.fr)).getD r none=some k;rw[fL _ _ _ (fun x hx e=>by have:=hnf r hr x hx;rw[e,BK]at this;cases this)]
   exact hk
  obtain⟨⟨u1,u1',b1,b2,b3⟩,b4,b5,b6⟩:=Aw (w1:=w) (c1:=c3) (U:=L.length) g5 hi.sub (fun i EO=>by rw[hi.env,ahq,aZ _ _ _ _ EO]) (fun _ _ e=>e) Cq Tl hfz.right (fun r hr=>Ve r (iv _ (iv _ hr)));obtain⟨ub,ub',b7,b8,b9⟩:=wV g5 hlw (fun r hr=>Ve r (iv _ (cz _ hr))) DT (fun j u hj=>hi.sub.R _ _ (Te.R _ _ (amK j u hj)));obtain⟨n0,Jh,hF0,amT,asR⟩:=MX Tl hi.sub (fun i EO=>by rw[hi.env,ahq,aZ _ _ _ _ EO]) (by rw[HG,d7]);obtain⟨u2,u2',o1,o2,o3,o4⟩:=Zz g5 amT hF0 Mn heo hfz.left (fun r hr=>Ve r (cz _ hr)) fp;have hro:=fM (fM b3 b9) o3;have hfm:(u1++ub++u2).filterMap aO=(u1'++ub'++u2').filterMap aO:=by rw[qN,qN,qN,qN,b2,b8,o2]
  have uu:∀p∈bC ns (u1++ub++u2),∃x,St.owns {({σ' with aC:=[]}:St)with rows:=ai σ'.rows (fr++lt.fr)} c' x p:=fun p hp=>by
   rcases ic.1 hp with hp|hp
   ·obtain⟨b,_,h2⟩:=b4 p hp;exact⟨_,h2⟩
   ·rw[hfm]at hp;obtain⟨r,_,h2⟩:=kw hro p hp;exact⟨_,h2⟩
  have Yn:∀p,cD B {({σ' with aC:=[]}:St)with rows:=ai σ'.rows (fr++lt.fr)} c' p->Ww w.heap.size ok (bC ns us) (bC ns (u1++ub++u2)) p:=fun p hp=>by
   refine⟨?_,fun hm=> ?_⟩
   ·have hK:c'.K=ok:=by rw[hi.sub.K,Te.K]
    have:=hp.2;rw[hK]at this;exact this.imp id (Or.imp (fun h=>h.elim id (hlS p)) id)
   ·obtain⟨x,hx⟩:=uu p hm;exact hp.1 x hx
  refine⟨v,rfl,hi.cO.below,lt.os.map (Ex.ev c'.ρ),lw.os.map (Ex.ev c'.ρ),eo.map (Ex.ev c'.ρ),es.map (Ex.ev c'.ρ),lt.es.map (Ex.ev c'.ρ),u1,ub,u2,?_,?_,fun p hp=> ?_,B4 Yn b1,E6 Yn b7,RE Yn o1,?_⟩
  ·rw[<-hΦ,hi.env];simp
  ·unfold bC;rw[hfm];refine Kh.2 ⟨DL.1,wM g5 hro Ya,fun x hx y hy e=> ?_⟩;subst e;obtain⟨b,_,h2⟩:=b4 x hx;obtain⟨r,_,h4⟩:=kw hro x hy;have:=g5.apart _ _ x h2 h4;cases this
  ·obtain⟨x,hx⟩:=uu p hp;rcases(g5.iF hx).1 with h|h
   ·exact .inr h
   ·exact .inl h
  ·unfold WG;split
   ·rename_i ss js he;intro n hn cs ty nP vs hv;rw[asR n hn cs ty nP];exact o4 ss js he vs hv
   ·trivial
def cH(g:dK->dK):Nat->dK
 |0,_=>none|n+1,v=>g (cH g n) v
def fg:Nat:=2^200
def T.aF(Γ:Nat->dK):T bZ->ab->List dK->Option ab
 | .ah es,ρ,_=>some (es.map (Ex.ev ρ))| .fail _,_,_=>none| .ite c p q,ρ,K=>if(c.ev ρ).bool=true then p.aF Γ ρ K else q.aF Γ ρ K
 | .aa c k,ρ,K=>if(c.ev ρ).bool=true then k.aF Γ ρ K else none
 | .call f es n k,ρ,K=>match Γ f (es.map (Ex.ev ρ))with
   |some rs=>if rs.length=n then k.aF Γ (ρ++rs) K else none
   |none=>none
 | .loop jH body,ρ,K=>cH (fun rec v=>body.aF Γ (ρ++v) (K++[rec])) fg (jH.map (Ex.ev ρ))| .next l vs,ρ,K=>match K[l]? with
   |some k=>k (vs.map (Ex.ev ρ))|none=>none
def Dr{Γ:Nat->dK}{rs:ab}:∀(t:T bZ)(ρ:ab)(K:List dK)(N:Nx),t.aF Γ ρ K=some rs->K.length=N.length->(∀(l:Nat)(k:dK)(J:ab->Prop),K[l]? =some k->N[l]? =some J->∀v,k v=some rs->J v)->t.wp Γ ρ N fun es ρ' _=>es.map (Ex.ev ρ')=rs
 | .ah es,ρ,K,N,h,_,_=>by simp only[T.aF,eF]at h;exact h
 | .fail _,ρ,K,N,h,_,_=>by simp[T.aF]at h
 | .ite c p q,ρ,K,N,h,hl,hk=>by
   simp only[T.aF]at h;simp only[T.wp];split
   ·rename_i hc;rw[aA hc]at h;exact Dr p ρ K N h hl hk
   ·rename_i hc;rw[aE hc]at h;exact Dr q ρ K N h hl hk
 | .aa c k,ρ,K,N,h,hl,hk=>by
   simp only[T.aF]at h;by_cases hc:(c.ev ρ).bool=true
   ·rw[aA hc]at h;exact⟨hc,Dr k ρ K N h hl hk⟩
   ·rw[aE hc]at h;cases h
 | .call f es n k,ρ,K,N,h,hl,hk=>by
   simp only[T.aF]at h;cases hg:Γ f (es.map (Ex.ev ρ))with
   |none=>simp[hg]at h|some r=>
    simp only[hg]at h;by_cases hn:r.length=n
    ·rw[aA hn]at h;exact⟨r,hg,hn,Dr k _ K N h hl hk⟩
    ·rw[aE hn]at h;cases h
 | .loop jH body,ρ,K,N,h,hl,hk=>by
   simp only[T.aF]at h;generalize hgg:(fun(rec:dK)(v:ab)=>body.aF Γ (ρ++v) (K++[rec]))=g at h;have hI:∃n,cH g n (jH.map (Ex.ev ρ))=some rs:=⟨_,h⟩;refine⟨fun v=>∃n,cH g n v=some rs,fun v=>leastOf (fun n=>cH g n v=some rs),hI,fun v _ hv=> ?_⟩;obtain⟨h1,h2⟩:=leastOf_spec hv;generalize hm:leastOf (fun n=>cH g n v=some rs)=m at*;cases m with
   |zero=>simp[cH]at h1|succ m=>
    have h1:g (cH g m) v=some rs:=h1;rw[<-hgg]at h1;refine Dr body _ _ _ h1 (by simp[hl]) ?_;intro l k J hkl hNl u hu;rcases Nat.lt_trichotomy l K.length with bi|heq|hgt
    ·rw[gA bi]at hkl;rw[gA (by omega)]at hNl;exact hk l k J hkl hNl u hu
    ·subst heq;rw[lR (aX _),Ad]at hkl;rw[hl,lR (aX _),Ad]at hNl;simp only[getElem?_cons_zero,eF]at hkl hNl;subst hkl;subst hNl;have hu:cH g m u=some rs:=by rw[<-hgg];exact hu
     exact⟨⟨m,hu⟩,by rw[hm];exact lt_succ_of_le ((leastOf_spec (p:=fun n=>cH g n u=some rs) ⟨m,hu⟩).2 m hu)⟩
    ·rw[mB (by simp;omega)]at hkl;cases hkl
 | .next l vs,ρ,K,N,h,hl,hk=>by
   simp only[T.aF]at h;simp only[T.wp];cases hK:K[l]? with
   |none=>simp[hK]at h|some k=>
    simp only[hK]at h;have bi:l<N.length:=by rw[<-hl];exact(kK.1 hK).1
    rw[cB bi];exact hk l k _ hK (cB bi) _ h
structure uN(P:Program)[ol P] where
 bd:tr
 F:dK
 holds:bd.holds P F
def A8{P:Program}[ol P]:List (uN P)->Nat->dK
 |[],_,_=>none|k::r,f,l=>if k.bd.key=f then k.F l else A8 r f l
def XN{P:Program}[ol P]:∀{L:List (uN P)},(L.map (·.bd.key)).Nodup->∀k∈L,A8 L k.bd.key=k.F
 |[],_,_,h=>by cases h
 |k::L,hd,x,hx=>by
  simp only[jQ,xV]at hd;funext l;simp only[A8];rcases bX.1 hx with rfl|hx
  ·rw[aA rfl]
  ·rw[aE (fun e=>hd.1 (pB.2 ⟨x,hx,e.symm⟩)),XN hd.2 x hx]
class Mrg(P:Program) where
 mg:List FuncId
 pr:List FuncId
instance (priority:=low) aw5 {P:Program}:Mrg P:=⟨[],[]⟩
def ak3(P:Program)[ol P][Mrg P](cons:ug)(hs:List mw)(pl:ip)(ins:List FuncId):Cx:=⟨P,cons,hs,pl,ins,Mrg.mg P,Mrg.pr P,ol.gl P⟩
def K0{S:Type}{g:dK->dK}(inv:S->ab)(F:S->Option ab)(ok:S->Prop)(m:S->Nat)(h:∀s rec,ok s->(∀s',ok s'->m s'<m s->rec (inv s')=F s')->g rec (inv s)=F s):∀(fuel:Nat)(s:S),ok s->m s<fuel->cH g fuel (inv s)=F s
 |0,_,_,hm=>absurd hm (not_lt_zero _)|n+1,s,ho,hm=>h s _ ho fun s' Jn hm'=>K0 inv F ok m h n s' Jn (by omega)
def EV{S:Type}{g:dK->dK}(inv:S->ab)(F:S->Option ab)(ok:S->Prop)(m:S->Nat)(h:∀s rec,ok s->(∀s',ok s'->m s'<m s->rec (inv s')=F s')->g rec (inv s)=F s)(s:S)(ho:ok s)(hm:m s<340282366920938463463374607431768211456):cH g fg (inv s)=F s:=
 K0 inv F ok m h fg s ho (by unfold fg;omega)
inductive Ty where|any|int|nat|bool|str (c:Nat)|ae (k:Nat)|aV (k:Nat)
 deriving DecidableEq
inductive Tk where|no|row (cs:List Ty)|vec (t:Ty)
inductive Fc where
 |t (e:Ex) (b:Bool)|ty (e:Ex) (t:Ty)|rel (r:Nat) (es:bZ)|grow (x y:Ex) (g:Nat)|imp (e:Ex) (b:Bool) (f:Fc)
structure Tb where
 tk:Nat->Tk
 cap:Nat->Nat
 free:Nat->Bool
 sup:Nat->List Ty
 inr:List (Nat×Nat)
 Vs:List (Nat×Nat)
 ma:Nat->List (Nat×bH)
 VI:List (Nat×List Ty)
 rt:List (Nat×Nat×Int×Nat×Ty)
 xP:List (Nat×bH×Nat)
def db:Sc->Nat
 | .l xs=>1+(xs.attach.map fun x=>db x.1).sum| .r _ _ _ xs=>1+(xs.attach.map fun x=>db x.1).sum|_=>0
termination_by x=>SizeOf.sizeOf x
decreasing_by
 ·have:=sizeOf_lt_of_mem x.2;simp;omega
 ·have:=sizeOf_lt_of_mem x.2;simp;omega
def mz(D:bH)(rk:Nat)(xs:ab):Nat:=16*(D.map fun d=>db (xs.getD d (.i 0))).sum+rk
abbrev Pn:Nat:=100
abbrev rId:Nat:=101
section
variable(tb:Tb)(I:Nat->Sc->Prop)(J:Nat->ab->Prop)
def th:Ty->Sc->Prop
 | .any,_=>True| .int,x=>∃z,x= .i z| .nat,x=>∃n:Nat,x= .i n| .bool,x=>∃b,x= .b b| .str c,x=>∃s:ByteArray,x= .s s/\s.size<=c| .ae k,x=>I k x| .aV _,_=>False
def fl:List Ty->ab->Prop
 |[],[]=>True|t::ts,x::xs=>th I t x/\fl ts xs|_,_=>False
def cA(k:Nat)(y:Sc):Prop:=match tb.tk k with
 | .no=>False| .vec t=>th I t y| .row cs=>(∃c,y= .l c/\fl I cs c)/\∀q∈tb.ma k,J q.1 (q.2.map fun j=>y.list.getD j (.i 0))
def has:Ty->Sc->Prop
 | .aV k,x=>∃xs,x= .l xs/\∀y∈xs,cA tb I J k y|u,x=>th I u x
def cR:List Ty->ab->Prop
 |[],[]=>True|t::ts,x::xs=>has tb I J t x/\cR ts xs|_,_=>False
def Fc.ok(ρ:ab):Fc->Prop
 | .t e b=>(e.ev ρ).bool=b| .ty e k=>has tb I J k (e.ev ρ)| .rel r es=>J r (es.map (Ex.ev ρ))| .grow x y g=>(x.ev ρ).list.length<=(y.ev ρ).list.length+g| .imp e b f=>(e.ev ρ).bool=b->f.ok ρ
structure Fa:Prop where
 list:∀k x,tb.tk k≠.no->I k x->∃xs,x= .l xs/\xs.length<=tb.cap k/\∀y∈xs,cA tb I J k y
 free:∀k xs,tb.free k=true->tb.tk k≠.no->xs.length<=tb.cap k->(∀y∈xs,cA tb I J k y)->I k (.l xs)
 mu:∀k xs n y,tb.tk k≠.no->I k (.l xs)->cA tb I J k y->I k (.l (xs.set n y))
 sup:∀k t x,t∈tb.sup k->I k x->th I t x
 inr:∀q∈tb.inr,∀x y,I q.1 x->I q.2 y->∃n:Nat,x= .i n/\n<y.list.length
 Vs:∀q∈tb.Vs,∀(n:Nat) y,I q.2 y->n<y.list.length->I q.1 (.i n)
 VI:∀q∈tb.VI,∀xs,fl I q.2 xs->J q.1 xs
 rt:∀q∈tb.rt,∀xs,J q.1 xs->(xs.getD q.2.1 (.i 0)).int=q.2.2.1->th I q.2.2.2.2 (xs.getD q.2.2.2.1 (.i 0))
 mem:∀a x,(∃y∈x.list,y.int=a.int)->J Pn [a,x]
 Vy:∀a x,J Pn [a,x]->∃y∈x.list,y.int=a.int
 less:∀c∈tb.xP,∀o∈tb.xP,∀xs ys,J (300+o.1) ys->mz c.2.1 c.2.2 xs<mz o.2.1 o.2.2 ys->J (200+c.1) xs
 id:∀a x,(∃y∈x.list,(y.list.getD 0 (.i 0)).int=a.int)->J rId [a,x]
end
inductive E2 where|t (x:Ty)|cs (l:List Ty)|lit (l:List Ty)
def Bz(tb:Tb):Nat->Ty->Ty->Bool
 |n,u,t=>decide (u=t)||(match u,t with
  |_,.any=>true| .nat,.int=>true| .str a,.str b=>ble a b| .ae k,t=>(match t with| .aV j=>Nat.beq k j&&(match tb.tk k with| .no=>false|_=>true)|_=>false)||(match n with
    |0=>false|n+1=>(tb.sup k).any fun x=>Bz tb n x t)
  |_,_=>false)
def ML:Ty->Bool| .aV _=>false|_=>true
def iy{α β:Type}(f:α->β->Bool):List α->List β->Bool
 |[],[]=>true|a::as,b::bs=>f a b&&iy f as bs|_,_=>false
def RA(tb:Tb)(j k:Nat):Bool:=Nat.beq j k||((tb.ma k).isEmpty&&(match tb.tk j,tb.tk k with
 | .vec a,.vec b=>ML b&&Bz tb 3 a b| .row as,.row bs=>iy (fun a b=>ML b&&Bz tb 3 a b) as bs|_,_=>false))
def Vw:Ex->Option bZ
 | .nil=>some []| .o f a r=>match f with| .cons=>(Vw r).map (a::·)|_=>none
 |_=>none
def TU(e:Ex)(j:Nat):Ex:=match vz e j with|some a=>a|none=> .u (.cell j) e
def Vz:Ex->Option (Ex×Ex)
 | .u (.conv .i64) (.o (.shr .u64) (.u (.conv .u64) (.o (.add .i64) a b)) (.i z))=>if z=1 then some (a,b)else none
 |_=>none
def Fg:Ex->Option (Ex×Ex)| .o f a b=>(match f with| .add k=>if k= .i64 then some (a,b)else none|_=>none)|_=>none
def adc:Ex->Option (Ex×Ex)| .o f a b=>(match f with| .sub k=>if k= .i64 then some (a,b)else none|_=>none)|_=>none
def HW:Ex->Option Int| .i z=>some z|_=>none
def O1:Ex->Option Ex| .u f x=>(match f with| .len=>some x|_=>none)|_=>none
def Zs(e:Ex)(b:Bool):List Fc:=match e with
 | .o f x y=>if b then[.t e b]else match f with
   | .le=>[.t (.o .lt y x) true]| .lt=>[.t (.o .le y x) true]| .eq=>[.t (.o .ne x y) true]| .ne=>[.t (.o .eq x y) true]|_=>[.t e b]
 |_=>[.t e b]
def sE:Ex->Bool->List Fc
 | .u f x,b=>match f with| .not=>sE x (!b)|f=>[.t (.u f x) b]
 | .o f x y,b=>match f with
   | .and=>if b then sE x true++sE y true else[.t (.o .and x y) b]
   | .or=>if b then[.t (.o .or x y) b]else sE x false++sE y false
   |f=>Zs (.o f x y) b
 |e,b=>[.t e b]
def K4:List Fc->List Fc
 |[]=>[]| .t e b::r=>sE e b++K4 r|f::r=>f::K4 r
structure Pr where
 rO:Ex->Option E2
 lp:Ex->Bool->Bool
 kJ:Bool->Ex->Option Int
 fit:Ex->Ty->Bool
 KF:Ex->Ex->Option Nat
 rel:Nat->bZ->Bool
def pr0:Pr:=⟨fun _=>none,fun _ _=>false,fun _ _=>none,fun _ _=>false,fun _ _=>none,fun _ _=>false⟩
section
variable(tb:Tb)(G:List Ty)(F:List Fc)(p:Pr)
def fact(c:Ex)(b:Bool):Bool:=F.any fun| .t e b'=>b'==b&&e.same c|_=>false
def tyF(e:Ex):Option Ty:=F.findSome? fun| .ty e' t=>if e'.same e then some t else none|_=>none
def Re:Ex->Option Int
 | .i z=>some z|e=>F.findSome? fun| .t (.o f x y) b=>(match f with| .eq=>if b&&x.same e then HW y else none|_=>none)|_=>none
def qL(e:Ex):Ex:=match e with
 | .u f x=>match f,x with
   | .cell j,.o g l i=>match g,Re F i with
     | .idx,some z=>if 0<=z then match vz l z.toNat with
       |some r=>match vz r j with
        |some (.i w)=> .i w|some (.b w)=> .b w|_=>e
       |none=>e else e
     |_,_=>e
   |_,_=>e
 |_=>e
def rB(x i:Ex):Bool:=p.lp (.o .lt i (.u .len x)) true&&p.lp (.o .le (.i 0) i) true
def OR(k:Nat):Bool:=match tb.tk k with| .row _=>true|_=>false
def cT(k:Nat):Bool:=match tb.tk k with| .no=>false|_=>true
def wv:Option E2->Option Nat|some (.t (.ae k))=>some k|some (.t (.aV k))=>some k|_=>none
def Aq(e:Ex)(k:Nat):Bool:=match tb.tk k with
 | .no=>false| .vec t=>ML t&&p.fit e t| .row cs=>(tb.ma k).all (fun q=>p.rel q.1 (q.2.map (TU e)))&&(match Vw e with
   |some l=>iy (fun x t=>ML t&&p.fit x t) l cs|none=>match p.rO e with
    |some (.cs ds)=>iy (fun u t=>ML t&&Bz tb 3 u t) ds cs|_=>false)
def Du(x:Ex)(k:Nat):Bool:=match wv (p.rO x)with|some j=>cT tb j&&RA tb j k|none=>false
def elems(k:Nat):Ex->Bool
 | .nil=>true| .o f a b=>match f with
   | .cons=>Aq tb p a k&&elems k b| .gx=>elems k a&&Aq tb p b k| .app=>elems k a&&elems k b| .Bp=>Aq tb p a k| .BS _=>elems k a&&Aq tb p b k|f=>Du tb p (.o f a b) k
 | .t f x y z=>match f with
   | .mu=>elems k x&&Aq tb p z k| .iM=>(match x with
     | .o g c d=>(match g with| .app=>p.lp (.o .le z (.u .len c)) true&&Du tb p c k|_=>false)||elems k x|_=>elems k x)
   |f=>Du tb p (.t f x y z) k
 |e=>Du tb p e k
def Tw(a b:Ty):Ty:=if a=b then a else match a,b with
 | .str c,.str d=> .str (max c d)|_,_=>if Bz tb 3 a b then b else if Bz tb 3 b a then a else .any
def ahV{α β:Type}(f:α->Option β):List α->Option (List β)
 |[]=>some []|a::r=>match f a,ahV f r with|some b,some bs=>some (b::bs)|_,_=>none
def alg(x:Ex):Option Ty:=match p.rO x with|some (.t t)=>some t|_=>none
def Rj(e:Ex):Option (List Ty):=match Vw e with
 |some l=>ahV (alg p) l|none=>none
def Sf(f:Ty->Ty->Ty):List Ty->List Ty->Option (List Ty)
 |[],[]=>some []|a::as,b::bs=>(Sf f as bs).map (f a b::·)|_,_=>none
def Gd:Ex->Option (List Ty)
 | .o f a r=>match f with
   | .cons=>match Rj p a,r with
     |some t,.nil=>some t|some t,r=>match Gd r with|some u=>Sf (Tw tb) t u|none=>none
     |none,_=>none
   |_=>none
 |_=>none
def rO:Ex->Option E2
 | .v n=>match tyF F (.v n)with|some t=>some (.t t)|none=>(G[n]?).map .t
 | .i _=>some (.t .int)| .b _=>some (.t .bool)| .s x=>some (.t (.str x.length))| .nil=>none| .u f x=>match tyF F (.u f x)with
   |some t=>some (.t t)|none=>match f with
    | .cell j=>match rO x with|some (.cs l)=>(l[j]?).map .t|_=>none
    | .len=>some (.t .nat)| .iN=>some (.t .nat)| .not=>some (.t .bool)| .conv _=>some (.t .int)|_=>none
 | .o f x y=>match f with
   | .idx=>if rB p x y then match rO x with
       |some (.t (.ae k))=>match tb.tk k with| .row cs=>some (.cs cs)| .vec t=>some (.t t)| .no=>none
       |some (.t (.aV k))=>match tb.tk k with| .row cs=>some (.cs cs)| .vec t=>some (.t t)| .no=>none
       |some (.lit l)=>some (.cs l)|_=>none
     else none
   | .app=>match wv (rO y)with
     |some k=>if elems tb p k x&&cT tb k then some (.t (.aV k))else none
     |none=>match wv (rO x)with
      |some k=>if elems tb p k y&&cT tb k then some (.t (.aV k))else none
      |none=>none
   | .gx=>match wv (rO x)with
     |some k=>if Aq tb p y k then some (.t (.aV k))else none
     |none=>none
   | .cons=>(Gd tb p (.o .cons x y)).map .lit| .add _=>some (.t .int)| .sub _=>some (.t .int)| .mul _=>some (.t .int)| .quo _=>some (.t .int)| .rem _=>some (.t .int)| .NR _=>some (.t .int)| .bor _=>some (.t .int)| .WU _=>some (.t .int)| .WQ _=>some (.t .int)| .shl _=>some (.t .int)| .shr _=>some (.t .int)| .max=>some (.t .int)| .min=>some (.t .int)| .qG=>some (.t .int)| .eq=>some (.t .bool)| .ne=>some (.t .bool)| .lt=>some (.t .bool)| .le=>some (.t .bool)| .beq=>some (.t .bool)| .bne=>some (.t .bool)| .and=>some (.t .bool)| .or=>some (.t .bool)| .seq=>some (.t .bool)| .mem _=>some (.t .bool)|_=>none
 | .t f x y z=>match f with
   | .mu=>match rO x with
     |some (.t (.ae k))=>if Aq tb p z k then some (.t (.ae k))else none
     |some (.t (.aV k))=>if Aq tb p z k then some (.t (.aV k))else none
     |_=>none
   | .iM=>match rO x with
     |some (.t (.ae k))=>if tb.free k&&cT tb k then some (.t (.ae k))else none
     |some (.t (.aV k))=>some (.t (.aV k))|_=>none
   |_=>none
def MZ(r:Nat)(x i:Ex)(js:bH):Bool:=match wv (p.rO x)with
 |some k=>OR tb k&&((tb.ma k).any (fun q=>Nat.beq q.1 r&&decide (q.2=js))&&rB p x i)|none=>false
def cellsOf:bZ->Option (Ex×bH)
 |[]=>none|e::r=>match e with
  | .u f x=>match f with
    | .cell j=>match r with
      |[]=>some (x,[j])|_=>match cellsOf r with|some (y,js)=>if x.same y then some (y,j::js)else none|none=>none
    |_=>none
  |_=>none
def Vk:bH->Bool
 |a::b::r=>blt a b&&Vk (b::r)|_=>true
def KS:bZ->bZ->Bool
 |[],_=>true|_::_,[]=>false|a::as,b::bs=>if a.same b then KS as bs else KS (a::as) bs
def pick(es:bZ)(D:bH):bZ:=D.map fun d=>es.getD d (.i 0)
def MV(c o:Nat×bH×Nat)(es xQ:bZ):Bool:=
 (match cellsOf (pick es c.2.1)with|some (.o f x i,js)=>(match f with| .idx=>Vk js&&(pick xQ o.2.1).any (fun e=>e.same x)&&rB p x i&&blt c.2.2 16|_=>false)|_=>false)
 ||(blt c.2.2 o.2.2&&KS (pick es c.2.1) (pick xQ o.2.1))
def ah3(r:Nat)(es:bZ):Bool:=
 (ble 200 r&&tb.xP.any (fun c=>Nat.beq (200+c.1) r&&F.any (fun| .rel r' xQ=>tb.xP.any (fun o=>Nat.beq (300+o.1) r'&&MV p c o es xQ)|_=>false)))||
 F.any (fun| .rel r' xQ=>Nat.beq r' r&&iy Ex.same xQ es|_=>false)
 ||(match cellsOf es with|some (.o f x i,js)=>(match f with| .idx=>MZ tb p r x i js|_=>false)|_=>false)
 ||tb.VI.any (fun q=>Nat.beq q.1 r&&iy (fun e t=>ML t&&p.fit e t) es q.2)
 ||(Nat.beq r Pn&&(match es with
  |[.o f a b,x]=>(match f with
   | .idx=>a.same x&&rB p x b| .max=>p.rel Pn [a,x]&&p.rel Pn [b,x]| .min=>p.rel Pn [a,x]&&p.rel Pn [b,x]|_=>false)
  |_=>false))
 ||(Nat.beq r rId&&(match es with
  |[.u f (.o g a b),x]=>(match f,g with| .cell j,.idx=>Nat.beq j 0&&a.same x&&rB p x b|_,_=>false)|_=>false))
def isInt:Option E2->Bool|some (.t t)=>Bz tb 3 t .int|_=>false
def Ri:Option E2->Bool|some (.t t)=>Bz tb 3 t .nat|_=>false
def isStr:Ex->Bool
 | .o f x y=>(match f with| .cat=>isStr x&&isStr y|_=>false)|e=>match p.rO e with|some (.t (.str _))=>true|_=>false
def agD(e:Ex)(t:Ty):Bool:=
 decide (t= .any)||(match rO tb G F p e with|some (.t u)=>Bz tb 3 u t|_=>false)||(match t with
 | .nat=>isInt tb (rO tb G F p e)&&p.lp (.o .le (.i 0) e) true| .str c=>isStr p e&&(match p.kJ true (.u .iN e)with|some h=>decide (h<=c)|none=>false)| .aV k=>elems tb p k e| .ae k=>(cT tb k&&tb.free k&&(match p.kJ true (.u .len e)with|some c=>decide (c<=tb.cap k)|none=>false)&&elems tb p k e)
   ||tb.Vs.any (fun q=>(Nat.beq q.1 k||(tb.sup q.1).any fun u=>decide (u= .ae k))&&isInt tb (p.rO e)&&p.lp (.o .le (.i 0) e) true&&F.any (fun
    | .t (.o f x (.u g y)) b=>(match f,g with| .lt,.len=>b&&x.same e&&(match p.rO y with|some (.t (.ae j))=>Nat.beq j q.2|_=>false)|_,_=>false)|_=>false))
   ||(match e with
    | .u f (.o g x i)=>(match f,g with
      | .cell c,.idx=>(match wv (p.rO x)with
        |some j=>OR tb j&&(tb.ma j).any (fun q=>tb.rt.any fun w=>Nat.beq w.1 q.1&&decide (q.2[w.2.2.2.1]? =some c)&&ML w.2.2.2.2&&Bz tb 3 w.2.2.2.2 t&&(match q.2[w.2.1]? with
         |some d=>p.lp (.o .eq (.u (.cell d) (.o .idx x i)) (.i w.2.2.1)) true|none=>false))&&rB p x i
        |none=>false)
      |_,_=>false)
    |_=>false)
 |_=>false)
def gu(a b:Option Int):Option Int:=match a,b with|some x,some y=>some (x+y)|_,_=>none
def BZ(up:Bool):List (Option Int)->Option Int
 |[]=>none|none::r=>BZ up r|some x::r=>match BZ up r with|some y=>some (if up then(if x<=y then x else y)else(if x<=y then y else x))|none=>some x
abbrev DZ:Int:= -9223372036854775808
abbrev vk:Int:=9223372036854775808
def Y5(x:Ex):List (Option Int):=
 (match p.rO x with|some (.t (.ae k))=>if cT tb k then[some (tb.cap k:Int)]else[]|_=>[])
 ++(match x with
 | .nil=>[some 0]| .o f a b=>(match f with
   | .cons=>[gu (p.kJ true (.u .len b)) (some 1)]| .gx=>[gu (p.kJ true (.u .len a)) (some 1)]| .BS _=>[gu (p.kJ true (.u .len a)) (some 1)]| .app=>[gu (p.kJ true (.u .len a)) (p.kJ true (.u .len b))]| .Bp=>(match p.kJ true b with|some z=>[some (if 0<=z then z else 0)]|none=>[])|_=>[])
 | .t f a _ h=>(match f with
   | .mu=>[p.kJ true (.u .len a)]| .iM=>[p.kJ true (.u .len a),(match p.kJ true h with|some z=>some (if 0<=z then z else 0)|none=>none)]|_=>[])
 | .u f a=>(match f with| .bytes=>[p.kJ true (.u .iN a)]|_=>[])|_=>[])
 ++F.map (fun| .grow x' y g=>if x'.same x then gu (p.kJ true (.u .len y)) (some g)else none|_=>none)
def ln:Ex->Int
 | .o f a b=>(match f with| .cons=>1+ln b| .gx=>1+ln a| .app=>ln a+ln b|_=>0)| .t f a _ _=>(match f with| .mu=>ln a|_=>0)|_=>0
def IV:Ex->Option Int
 | .s l=>some l.length| .o f x y=>(match f with| .cat=>gu (IV x) (IV y)|_=>none)|e=>match p.rO e with|some (.t (.str c))=>some (c:Int)|_=>none
def rng(l h:Option Int):Option (Int×Int):=match l,h with
 |some a,some b=>if DZ<=a/\b<vk then some (a,b)else none
 |_,_=>none
def sG(a b:Option Int):Option Int:=match a,b with|some x,some y=>some (x-y)|_,_=>none
def pE:Ex->(Bool->Option Int)
 | .i z=>fun _=>some z| .o f a b=>match f with
   | .add k=>fun up=>if k= .i64 then(rng (gu (pE a false) (pE b false)) (gu (pE a true) (pE b true))).map (fun x=>if up then x.2 else x.1)else none
   | .sub k=>fun up=>if k= .i64 then(rng (sG (pE a false) (pE b true)) (sG (pE a true) (pE b false))).map (fun x=>if up then x.2 else x.1)else none
   | .max=>fun up=>if up then(match pE a true,pE b true with|some x,some y=>some (if x<=y then y else x)|_,_=>none)else BZ false [pE a false,pE b false]
   | .min=>fun up=>if up then BZ true [pE a true,pE b true]else(match pE a false,pE b false with|some x,some y=>some (if x<=y then x else y)|_,_=>none)
   |f=>fun up=>p.kJ up (.o f a b)
 |e=>fun up=>p.kJ up e
def agl(up:Bool)(e:Ex):Option Int:=match Vz e with
 |some (a,b)=>match p.kJ false a,p.kJ true a,p.kJ false b,p.kJ true b with
  |some x,some y,some z,some w=>if 0<=x/\0<=z/\y+w<vk then some (if up then(y+w)/2 else(x+z)/2)else none
  |_,_,_,_=>none
 |none=>none
def agk(up:Bool)(e:Ex):List (Option Int):=F.map fun
 | .t (.o f x y) b=>if b then(match f with
   | .lt=>if up then BZ true [if x.same e then gu (p.kJ true y) (some (-1))else none,(match Fg x with
       |some (u,v)=>match rng (gu (p.kJ false u) (p.kJ false v)) (gu (p.kJ true u) (p.kJ true v))with
        |some _=>BZ true [if u.same e then gu (sG (p.kJ true y) (p.kJ false v)) (some (-1))else none,if v.same e then gu (sG (p.kJ true y) (p.kJ false u)) (some (-1))else none]|none=>none
       |none=>none)]
     else if y.same e then gu (p.kJ false x) (some 1)else none
   | .le=>if up then BZ true [if x.same e then p.kJ true y else none,(match Fg x with
       |some (u,v)=>match rng (gu (p.kJ false u) (p.kJ false v)) (gu (p.kJ true u) (p.kJ true v))with
        |some _=>BZ true [if u.same e then sG (p.kJ true y) (p.kJ false v)else none,if v.same e then sG (p.kJ true y) (p.kJ false u)else none]|none=>none
       |none=>none)]
     else if y.same e then p.kJ false x else none
   | .eq=>if x.same e then p.kJ up y else if y.same e then p.kJ up x else none
   |_=>none)else none
 |_=>none
def bump(e:Ex):Nat->Int->Int
 |0,z=>z|n+1,z=>if fact F (.o .ne e (.i z)) true then bump e n (z+1)else z
def agm(up:Bool)(e:Ex):Option Int:=
 let l:=BZ up ((match e with
  | .i z=>[some z]| .u f x=>(match f with
    | .len=>if up then Y5 tb F p x else[some (ln x),(match x with| .t .mu a _ _=>p.kJ false (.u .len a)|_=>none)]
    | .iN=>if up then[IV p x]else[some 0]
    |_=>[agl p up e])
  | .o f _ _=>(match f with| .add _=>[pE p e up]| .sub _=>[pE p e up]| .max=>[pE p e up]| .min=>[pE p e up]|_=>[])|_=>[])
  ++(if !up&&Ri tb (p.rO e)then[some 0]else[])++agk F p up e)
 if up then l else l.map (bump F e 3)
def agI(x v:Ex):Option Nat:=
 if x.same v then some 0 else
 match(match x with
  | .o f a b=>(match f with
    | .gx=>(p.KF a v).map (·+1)| .BS _=>(p.KF a v).map (·+1)| .app=>(match p.KF a v,p.kJ true (.u .len b)with|some g,some z=>some (g+z.toNat)|_,_=>none)|_=>none)
  | .t f a _ h=>(match f with
    | .mu=>p.KF a v| .iM=>if p.lp (.o .le h (.u .len v)) true then some 0 else p.KF a v
    |_=>none)
  |_=>none)with
 |some g=>some g|none=>F.findSome? fun| .grow x' y g=>if x'.same x then(p.KF y v).map (·+g)else none|_=>none
def abL(d:Int)(x y:Ex):Bool:=match p.kJ true x,p.kJ false y with|some a,some b=>decide (a+d<=b)|_,_=>false
abbrev pL(x y:Ex):Bool:=p.lp (.o .le x y) true
abbrev pl(x y:Ex):Bool:=p.lp (.o .lt x y) true
def FE(a:Ex)(z:Int):Bool:=match p.kJ false a,p.kJ true a with|some l,some h=>decide (DZ<=l+z)&&decide (h+z<vk)|_,_=>false
def O9(a b:Ex):Bool:=match p.kJ false a,p.kJ true a,p.kJ false b,p.kJ true b with
 |some x,some y,some z,some w=>decide (0<=x)&&decide (0<=z)&&decide (y+w<vk)|_,_,_,_=>false
def Di{α:Type}(o:Option α)(f:α->Bool):Bool:=match o with|some x=>f x|none=>false
def ltS(x y:Ex):Bool:=
 abL p 1 x y
 ||Di (O1 y) (fun z=>(match z with
  | .t f a _ _=>(match f with| .mu=>pl p x (.u .len a)|_=>false)| .o f a b=>(match f with| .gx=>pL p x (.u .len a)| .app=>pl p x (.u .len a)||pl p x (.u .len b)|_=>false)|_=>false)||(match p.rO z with|some (.t (.ae k))=>tb.inr.any (fun q=>Nat.beq q.2 k&&p.fit x (.ae q.1))|_=>false))
 ||Di (adc x) (fun q=>Di (HW q.2) fun z=>decide (1<=z)&&FE p q.1 (-z)&&pL p q.1 y)
 ||Di (Vz x) (fun q=>O9 p q.1 q.2&&pl p q.1 q.2&&pL p q.2 y)
 ||Di (Fg y) (fun q=>Di (HW q.2) fun z=>decide (0<=z)&&FE p q.1 z&&(pl p x q.1||(decide (1<=z)&&pL p x q.1)||Di (Fg x) (fun w=>w.2.same q.2&&FE p w.1 z&&pl p w.1 q.1)))
 ||F.any (fun| .t (.o f u v) b=>b&&(match f with
  | .lt=>u.same x&&pL p v y| .le=>u.same x&&pl p v y| .eq=>(u.same x&&pl p v y)||(v.same x&&pl p u y)|_=>false)|_=>false)
def leS(x y:Ex):Bool:=
 x.same y||fact F (.o .lt x y) true||abL p 0 x y
 ||Di (O1 y) (fun z=>match z with
  | .t f a l h=>(match f with| .mu=>pL p x (.u .len a)| .iM=>(match l with| .i w=>decide (w=0)|_=>false)&&h.same x&&pL p x (.u .len a)|_=>false)| .o f a b=>(match f with
    | .gx=>pL p x (.u .len a)||Di (Fg x) (fun q=>Di (HW q.2) fun z=>decide (z=1)&&FE p q.1 1&&pL p q.1 (.u .len a))| .app=>pL p x (.u .len a)||pL p x (.u .len b)|_=>false)
  |_=>false)
 ||Di (O1 x) (fun z=>(match z with
  | .t f a _ _=>(match f with| .mu=>pL p (.u .len a) y|_=>false)| .o f a _=>(match f with| .gx=>Di (Fg y) (fun q=>Di (HW q.2) fun z=>decide (z=1)&&FE p q.1 1&&pL p (.u .len a) q.1)|_=>false)|_=>false)||Di (O1 y) (fun v=>Di (p.KF z v) fun g=>Nat.beq g 0))
 ||(match x with| .o f a b=>(match f with| .max=>pL p a y&&pL p b y| .min=>pL p a y||pL p b y|_=>false)|_=>false)
 ||Di (Fg x) (fun q=>Di (HW q.2) (fun z=>decide (z=1)&&FE p q.1 1&&pl p q.1 y)||(Di (HW q.1) fun z=>decide (z=0)&&FE p q.2 0&&pL p q.2 y))
 ||Di (adc x) (fun q=>Di (HW q.2) fun z=>decide (0<=z)&&FE p q.1 (-z)&&pL p q.1 y)
 ||Di (Vz x) (fun q=>O9 p q.1 q.2&&pL p q.1 q.2&&pL p q.2 y)
 ||Di (Vz y) (fun q=>O9 p q.1 q.2&&pL p q.1 q.2&&pL p x q.1)
 ||Di (Fg y) (fun q=>Di (HW q.2) fun z=>decide (0<=z)&&FE p q.1 z&&(pL p x q.1||(decide (1<=z)&&pl p x q.1)||Di (Fg x) (fun w=>w.2.same q.2&&FE p w.1 z&&pL p w.1 q.1)))
 ||(match x,y with| .i z,.u f (.o g a i)=>(match f,g with| .cell _,.idx=>decide (z<=0)&&tb.rt.any (fun w=>Bz tb 3 w.2.2.2.2 .nat&&p.fit y w.2.2.2.2)|_,_=>false)|_,_=>false)
 ||F.any (fun| .t (.o f u v) b=>b&&(match f with
  | .lt=>u.same x&&pL p v y| .le=>u.same x&&pL p v y| .eq=>(u.same x&&pL p v y)||(v.same x&&pL p u y)|_=>false)|_=>false)
def eqS(x y:Ex):Bool:=
 x.same y||fact F (.o .eq y x) true
 ||Di (O1 x) (fun a=>match a with| .t f c _ _=>(match f with| .mu=>p.lp (.o .eq (.u .len c) y) true|_=>false)|_=>false)
 ||Di (O1 y) (fun a=>match a with| .t f c _ _=>(match f with| .mu=>p.lp (.o .eq x (.u .len c)) true|_=>false)|_=>false)
 ||(pL p x y&&pL p y x)
def neS(x y:Ex):Bool:=fact F (.o .ne y x) true||pl p x y||pl p y x
def wS:Ex->Bool->Bool
 | .b x,b=>x==b| .u f x,b=>fact F (.u f x) b||(match f with
   | .not=>wS x (!b)|f=>match qL F (.u f x)with| .b w=>w==b|_=>false)
 | .o f x y,b=>fact F (.o f x y) b||(match f with
   | .and=>if b then wS x true&&wS y true else wS x false||wS y false
   | .or=>if b then wS x true||wS y true else wS x false&&wS y false
   | .le=>(match qL F x,qL F y with| .i u,.i v=>decide (u<=v)==b|_,_=>if b then leS tb F p x y else fact F (.o .lt y x) true||ltS tb F p y x)| .lt=>(match qL F x,qL F y with| .i u,.i v=>decide (u<v)==b|_,_=>if b then ltS tb F p x y else fact F (.o .le y x) true||leS tb F p y x)| .eq=>(match qL F x,qL F y with| .i u,.i v=>(u==v)==b|_,_=>if b then eqS F p x y else fact F (.o .ne x y) true||neS F p x y)| .ne=>(match qL F x,qL F y with| .i u,.i v=>(u !=v)==b|_,_=>if b then neS F p x y else fact F (.o .eq x y) true||eqS F p x y)| .seq=>b&&x.same y|_=>false)||(match f,x,y with
    | .lt,.i z,.u g s=>(match g with| .iN=>b&&decide (z=0)&&fact F (.o .seq s (.s [])) false|_=>false)|_,_,_=>false)
 |e,b=>fact F e b
def prS:Pr:=⟨rO tb G F p,wS tb F p,agm tb F p,agD tb G F p,agI F p,ah3 tb F p⟩
end
def pr(tb:Tb)(G:List Ty)(F:List Fc):Nat->Pr
 |0=>pr0|n+1=>prS tb G F (pr tb G F n)
section
variable{ρ:ab}
theorem wT{x y:Ex}:((Ex.o .le x y).ev ρ).bool=true↔(x.ev ρ).int<=(y.ev ρ).int:=⟨fun h=>fv h,fun h=>lP h⟩
theorem uH{x y:Ex}:((Ex.o .lt x y).ev ρ).bool=true↔(x.ev ρ).int<(y.ev ρ).int:=⟨fun h=>fv h,fun h=>lP h⟩
theorem vK{x y:Ex}:((Ex.o .eq x y).ev ρ).bool=true↔(x.ev ρ).int=(y.ev ρ).int:=by show((x.ev ρ).int==(y.ev ρ).int)=true↔_;exact AO
theorem R8{x y:Ex}:((Ex.o .ne x y).ev ρ).bool=true↔(x.ev ρ).int≠(y.ev ρ).int:=by show((x.ev ρ).int !=(y.ev ρ).int)=true↔_;exact bne_iff_ne
theorem FV{b:Bool}:b=false↔¬b=true:=by cases b<;>simp
theorem aay{x y:Ex}:((Ex.o .le x y).ev ρ).bool=false↔(y.ev ρ).int<(x.ev ρ).int:=by rw[FV,wT];omega
theorem aaz{x y:Ex}:((Ex.o .lt x y).ev ρ).bool=false↔(y.ev ρ).int<=(x.ev ρ).int:=by rw[FV,uH];omega
theorem aax{x y:Ex}:((Ex.o .eq x y).ev ρ).bool=false↔(x.ev ρ).int≠(y.ev ρ).int:=by rw[FV,vK]
theorem aaA{x y:Ex}:((Ex.o .ne x y).ev ρ).bool=false↔(x.ev ρ).int=(y.ev ρ).int:=by rw[FV,R8];simp
theorem mc(x:Ex):((Ex.u .len x).ev ρ).int=(x.ev ρ).list.length:=rfl
theorem Jb(z:Int):((Ex.i z).ev ρ).int=z:=rfl
end
theorem eH{α:Type}{o:Option α}{f:α->Bool}(h:Di o f=true):∃x,o=some x/\f x=true:=by
 cases o with
 |none=>cases h
 |some x=>exact⟨x,rfl,h⟩
theorem zQ:∀{e x:Ex},O1 e=some x->e= .u .len x
 | .u f y,x,h=>by
   cases f<;>simp only[O1,eF,reduceCtorEq]at h
   rw[h]
theorem rC:∀{e:Ex}{z:Int},HW e=some z->e= .i z
 | .i _,_,h=>by simp only[HW,eF]at h;rw[h]
theorem tw:∀{e:Ex}{q:Ex×Ex},Fg e=some q->e= .o (.add .i64) q.1 q.2
 | .o f a b,q,h=>by
   cases f<;>simp only[Fg,reduceCtorEq]at h
   split at h
   ·rename_i hk;subst hk;simp only[eF]at h;rw[<-h]
   ·cases h
theorem Ul:∀{e:Ex}{q:Ex×Ex},adc e=some q->e= .o (.sub .i64) q.1 q.2
 | .o f a b,q,h=>by
   cases f<;>simp only[adc,reduceCtorEq]at h
   split at h
   ·rename_i hk;subst hk;simp only[eF]at h;rw[<-h]
   ·cases h
theorem Gg{e:Ex}{q:Ex×Ex}(h:Vz e=some q):e= .u (.conv .i64) (.o (.shr .u64) (.u (.conv .u64) (.o (.add .i64) q.1 q.2)) (.i 1)):=by
 unfold Vz at h;split at h
 ·split at h
  ·rename_i hz;subst hz;simp only[eF]at h;rw[<-h]
  ·cases h
 ·cases h
theorem aiv{z:Int}(h1:0<=z)(h2:z<18446744073709551616):IntKind.u64.wrap z=z:=by show(if(false&&decide (z%2^64>=2^(64-1)))=true then z%2^64-2^64 else z%2^64)=z;rw[aE (by simp)];omega
section
variable{ρ:ab}
theorem D5{a b:Ex}(ha:0<=(a.ev ρ).int)(hb:0<=(b.ev ρ).int)(h:(a.ev ρ).int+(b.ev ρ).int<vk):
 ((Ex.u (.conv .i64) (.o (.shr .u64) (.u (.conv .u64) (.o (.add .i64) a b)) (.i 1))).ev ρ).int=((a.ev ρ).int+(b.ev ρ).int)/2:=by
 have h:(a.ev ρ).int+(b.ev ρ).int<9223372036854775808:=h
 show IntKind.i64.wrap ((IntKind.u64.wrap (IntKind.i64.wrap ((a.ev ρ).int+(b.ev ρ).int))).fdiv (2^(Min.min (toNat 1) IntKind.u64.bits)))=_
 have h2:(2:Int)^(Min.min (toNat 1) IntKind.u64.bits)=2:=by decide
 rw[rJ (by omega) h,aiv (by omega) (by omega),h2,fdiv_eq_ediv_of_nonneg _ (by omega),rJ (by omega) (by omega)]
theorem rW{a b:Ex}(h1:DZ<=(a.ev ρ).int+(b.ev ρ).int)(h2:(a.ev ρ).int+(b.ev ρ).int<vk):((Ex.o (.add .i64) a b).ev ρ).int=(a.ev ρ).int+(b.ev ρ).int:=rJ h1 h2
theorem RV{a b:Ex}(h1:DZ<=(a.ev ρ).int-(b.ev ρ).int)(h2:(a.ev ρ).int-(b.ev ρ).int<vk):((Ex.o (.sub .i64) a b).ev ρ).int=(a.ev ρ).int-(b.ev ρ).int:=rJ h1 h2
end
section
variable{tb:Tb}{I:Nat->Sc->Prop}{J:Nat->ab->Prop}
theorem bA:∀{t:Ty}{x:Sc},th I t x->has tb I J t x
 | .any,_,h=>h| .int,_,h=>h| .nat,_,h=>h| .bool,_,h=>h| .str _,_,h=>h| .ae _,_,h=>h| .aV _,_,h=>h.elim
theorem F5:∀{t:Ty}{x:Sc},ML t=true->has tb I J t x->th I t x
 | .any,_,_,h=>h| .int,_,_,h=>h| .nat,_,_,h=>h| .bool,_,_,h=>h| .str _,_,_,h=>h| .ae _,_,_,h=>h| .aV _,_,h,_=>by cases h
theorem ve:∀{ts:List Ty}{xs:ab},fl I ts xs->cR tb I J ts xs
 |[],[],_=>trivial|_::_,_::_,h=>⟨bA h.1,ve h.2⟩|[],_::_,h=>h.elim|_::_,[],h=>h.elim
theorem HD:∀{ts:List Ty}{xs:ab}{i:Nat}{t:Ty},cR tb I J ts xs->ts[i]? =some t->has tb I J t (xs.getD i (.i 0))
 |[],_,_,_,_,h2=>by simp at h2
 |t::ts,x::xs,0,_,h,h2=>by simp at h2;subst h2;exact h.1
 |t::ts,x::xs,i+1,_,h,h2=>by simpa using HD h.2 (by simpa using h2)
 |_::_,[],_,_,h,_=>h.elim
theorem pR:∀{ts:List Ty}{xs:ab},cR tb I J ts xs->ts.length=xs.length
 |[],[],_=>rfl|_::_,_::_,h=>by simp[pR h.2]
 |[],_::_,h=>h.elim|_::_,[],h=>h.elim
theorem nj:∀{ts us:List Ty}{xs ys:ab},cR tb I J ts xs->cR tb I J us ys->cR tb I J (ts++us) (xs++ys)
 |[],_,[],_,_,h2=>h2|_::_,_,_::_,_,h1,h2=>⟨h1.1,nj h1.2 h2⟩|[],_,_::_,_,h,_=>h.elim|_::_,_,[],_,h,_=>h.elim
theorem DF{α:Type}{f:α->Ty->Bool}{g:α->Sc}(hf:∀e t,f e t=true->th I t (g e)):∀{es:List α}{ts:List Ty},iy f es ts=true->fl I ts (es.map g)
 |[],[],_=>trivial|e::es,t::ts,h=>by simp only[iy,aL]at h;exact⟨hf e t h.1,DF hf h.2⟩
 |[],_::_,h=>by simp[iy]at h
 |_::_,[],h=>by simp[iy]at h
theorem DG{f:Ty->Ty->Bool}(hs:∀(u w:Ty)(x:Sc),f u w=true->has tb I J u x->th I w x):∀{us ts:List Ty}{xs:ab},iy f us ts=true->cR tb I J us xs->fl I ts xs
 |[],[],[],_,_=>trivial|u::us,w::ts,x::xs,h,hx=>by simp only[iy,aL]at h;exact⟨hs u w x h.1 hx.1,DG hs h.2 hx.2⟩
 |[],_::_,_,h,_=>by simp[iy]at h
 |_::_,[],_,h,_=>by simp[iy]at h
 |[],[],_::_,_,h=>h.elim|_::_,_::_,[],_,h=>h.elim
variable(hT:Fa tb I J)
include hT
theorem nE:∀{n:Nat}{u t:Ty}{x:Sc},Bz tb n u t=true->has tb I J u x->has tb I J t x
 |n,u,t,x,h,hx=>by
  unfold Bz at h;rw[bY]at h;rcases h with h|h
  ·rw[<-fv h];exact hx
  ·cases u with
   |ae k=>
    cases t with
    |any=>exact trivial|aV j=>
     simp only[bY,aL]at h;rcases h with h|h
     ·have e:k=j:=fh h.1;subst e;have hk:tb.tk k≠.no:=by intro e;rw[e]at h;simp at h
      obtain⟨xs,h1,_,h3⟩:=hT.list k x hk hx;exact⟨xs,h1,h3⟩
     ·cases n with
      |zero=>simp at h|succ n=>
       simp only[fS]at h;obtain⟨y,hy,h⟩:=h;exact nE h (bA (hT.sup k y x hy hx))
    |_=>
     cases n with
     |zero=>simp at h|succ n=>
      simp only[Bool.false_or,fS]at h;obtain⟨y,hy,h⟩:=h;exact nE h (bA (hT.sup k y x hy hx))
   |nat=>cases t with
    |any=>exact trivial|int=>obtain⟨m,rfl⟩:=hx;exact⟨m,rfl⟩
    |_=>simp at h
   |str a=>cases t with
    |any=>exact trivial|str b=>obtain⟨s,rfl,hs⟩:=hx;exact⟨s,rfl,bI hs (oo h)⟩
    |_=>simp at h
   |_=>cases t with
    |any=>exact trivial|_=>simp at h
theorem M8{n:Nat}{u t:Ty}{x:Sc}(hn:ML t=true)(h:Bz tb n u t=true)(hx:has tb I J u x):th I t x:=F5 hn (nE hT h hx)
theorem VT{j k:Nat}{y:Sc}(h:RA tb j k=true)(hy:cA tb I J j y):cA tb I J k y:=by
 unfold RA at h;rw[bY]at h;rcases h with h|h
 ·rw[<-fh h];exact hy
 ·rw[aL]at h;have he:tb.ma k=[]:=uO.1 h.1;have h:=h.2;unfold cA at hy⊢;split at h
  ·rename_i a b h1 h2;rw[h1]at hy;rw[h2];rw[aL]at h;exact M8 hT h.1 h.2 (bA hy)
  ·rename_i as bs h1 h2;rw[h1]at hy;rw[h2];obtain⟨⟨c,h3,h4⟩,_⟩:=hy;refine⟨⟨c,h3,DG (tb:=tb) (J:=J) (us:=as) (fun u w x hf hu=>by rw[aL]at hf;exact M8 hT hf.1 hf.2 hu) h (ve h4)⟩,fun q hq=> ?_⟩;rw[he]at hq;cases hq
  ·cases h
end
theorem MC{ρ:ab}:∀{e:Ex}{es:bZ},Vw e=some es->e.ev ρ= .l (es.map (Ex.ev ρ))
 | .nil,es,h=>by simp only[Vw,eF]at h;subst h;rfl
 | .o f a r,es,h=>by
   cases f<;>try(cases h;done)
   simp only[Vw,nW]at h;obtain⟨rs,hr,rfl⟩:=h;show Sc.l (a.ev ρ::(r.ev ρ).list)=_;rw[MC hr];rfl
theorem CH{ρ:ab}:∀{e:Ex}{n:Nat}{a:Ex},vz e n=some a->(e.ev ρ).list.getD n (.i 0)=a.ev ρ
 | .o f x r,n,a,h=>by
   cases f<;>try(cases h;done)
   cases n with
   |zero=>simp only[vz,eF]at h;subst h;rfl|succ n=>simp only[vz]at h;show(x.ev ρ::(r.ev ρ).list).getD (n+1) (.i 0)=_;rw[Qe];exact CH h
 | .v _,_,_,h=>by simp[vz]at h
 | .i _,_,_,h=>by simp[vz]at h
 | .b _,_,_,h=>by simp[vz]at h
 | .s _,_,_,h=>by simp[vz]at h
 | .nil,_,_,h=>by simp[vz]at h
 | .u _ _,_,_,h=>by simp[vz]at h
 | .t _ _ _ _,_,_,h=>by simp[vz]at h
theorem Zu{ρ:ab}(e:Ex)(j:Nat):(TU e j).ev ρ=(e.ev ρ).list.getD j (.i 0):=by
 unfold TU;split
 ·rename_i a h;rw[CH h]
 ·rfl
section
variable{tb:Tb}{I:Nat->Sc->Prop}{J:Nat->ab->Prop}{ρ:ab}
theorem Zt{e:Ex}{b:Bool}(h:(e.ev ρ).bool=b):∀f∈Zs e b,f.ok tb I J ρ:=by
 intro f hf;unfold Zs at hf;split at hf
 ·rename_i op x y;split at hf
  ·rw[cw]at hf;subst hf;exact h
  ·rename_i hb;have hb:b=false:=by simpa using hb
   subst hb;split at hf<;>(rw[cw]at hf;subst hf)
   ·exact uH.2 (aay.1 h)
   ·exact wT.2 (aaz.1 h)
   ·exact R8.2 (aax.1 h)
   ·exact vK.2 (aaA.1 h)
   ·exact h
 ·rw[cw]at hf;subst hf;exact h
theorem vw:∀{e:Ex}{b:Bool},(e.ev ρ).bool=b->∀f∈sE e b,f.ok tb I J ρ
 | .u g x,b,h=>by
   intro f hf;unfold sE at hf;split at hf
   ·refine vw (e:=x) (b:= !b) ?_ f hf;have:(!(x.ev ρ).bool)=b:=h;rw[<-this];simp
   ·rw[cw]at hf;subst hf;exact h
 | .o g x y,b,h=>by
   intro f hf;unfold sE at hf;split at hf
   ·split at hf
    ·rename_i hb;subst hb;have h:((x.ev ρ).bool&&(y.ev ρ).bool)=true:=h;rw[aL]at h;rcases ic.1 hf with hf|hf
     ·exact vw h.1 f hf
     ·exact vw h.2 f hf
    ·rw[cw]at hf;subst hf;exact h
   ·split at hf
    ·rw[cw]at hf;subst hf;exact h
    ·rename_i hb;have hb:b=false:=by simpa using hb
     subst hb;have h:((x.ev ρ).bool||(y.ev ρ).bool)=false:=h;rw[Bool.or_eq_false_iff]at h;rcases ic.1 hf with hf|hf
     ·exact vw h.1 f hf
     ·exact vw h.2 f hf
   ·exact Zt h f hf
 | .v n,b,h=>by intro f hf;simp only[sE,cw]at hf;subst hf;exact h
 | .i n,b,h=>by intro f hf;simp only[sE,cw]at hf;subst hf;exact h
 | .b n,b,h=>by intro f hf;simp only[sE,cw]at hf;subst hf;exact h
 | .s n,b,h=>by intro f hf;simp only[sE,cw]at hf;subst hf;exact h
 | .nil,b,h=>by intro f hf;simp only[sE,cw]at hf;subst hf;exact h
 | .t _ _ _ _,b,h=>by intro f hf;simp only[sE,cw]at hf;subst hf;exact h
theorem CG:∀{F:List Fc},(∀f∈F,f.ok tb I J ρ)->∀f∈K4 F,f.ok tb I J ρ
 |[],h=>h|g::r,h=>by
  intro f hf;have hr:∀f∈r,f.ok tb I J ρ:=fun f hf=>h f (bB _ hf);unfold K4 at hf;split at hf
  ·cases hf
  ·rename_i e b r' heq;cases heq
   rcases ic.1 hf with hf|hf
   ·exact vw (h (.t e b) (by simp)) f hf
   ·exact CG hr f hf
  ·rename_i g' r' _ heq;cases heq
   rcases bX.1 hf with rfl|hf
   ·exact h _ (by simp)
   ·exact CG hr f hf
end
def U7(tb:Tb)(I:Nat->Sc->Prop)(J:Nat->ab->Prop):E2->Sc->Prop
 | .t u,v=>has tb I J u v| .cs l,v=>∃c,v= .l c/\cR tb I J l c| .lit l,v=>∃xs,v= .l xs/\∀y∈xs,∃c,y= .l c/\cR tb I J l c
structure Nw(tb:Tb)(I:Nat->Sc->Prop)(J:Nat->ab->Prop)(p:Pr)(ρ:ab):Prop where
 rO:∀e u,p.rO e=some u->U7 tb I J u (e.ev ρ)
 lp:∀e b,p.lp e b=true->(e.ev ρ).bool=b
 up:∀e z,p.kJ true e=some z->(e.ev ρ).int<=z
 lo:∀e z,p.kJ false e=some z->z<=(e.ev ρ).int
 fit:∀e u,p.fit e u=true->has tb I J u (e.ev ρ)
 KF:∀x y g,p.KF x y=some g->(x.ev ρ).list.length<=(y.ev ρ).list.length+g
 rel:∀r es,p.rel r es=true->J r (es.map (Ex.ev ρ))
section
variable{tb:Tb}{I:Nat->Sc->Prop}{J:Nat->ab->Prop}{G:List Ty}{F:List Fc}{p:Pr}{ρ:ab}
variable(hT:Fa tb I J)(hG:cR tb I J G ρ)(hF:∀f∈F,f.ok tb I J ρ)(hp:Nw tb I J p ρ)
include hF in
theorem ii{c:Ex}{b:Bool}(h:fact F c b=true):(c.ev ρ).bool=b:=by
 unfold fact at h;rw[fS]at h;obtain⟨f,hf,h⟩:=h;split at h
 ·rename_i e b';rw[aL,AO]at h;have:=hF _ hf;rw[<-Ex.aG h.2,<-h.1];exact this
 ·cases h
include hF in
theorem aau{e:Ex}{u:Ty}(h:tyF F e=some u):has tb I J u (e.ev ρ):=by
 unfold tyF at h;obtain⟨f,hf,h⟩:=exists_of_findSome?_eq_some h;split at h
 ·rename_i e' u';split at h
  ·rename_i hs;simp only[eF]at h;subst h;have:=hF _ hf;rw[<-Ex.aG hs];exact this
  ·cases h
 ·cases h
include hF in
theorem Vi{e:Ex}{z:Int}(h:Re F e=some z):(e.ev ρ).int=z:=by
 unfold Re at h;split at h
 ·simp only[eF]at h;subst h;rfl
 ·obtain⟨f,hf,h⟩:=exists_of_findSome?_eq_some h;split at h
  ·split at h
   ·split at h
    ·rename_i hs;rw[aL]at hs;have e:=rC h;subst e;have:=hF _ hf;have hb:=hs.1;subst hb;rw[<-Ex.aG hs.2];exact vK.1 this
    ·cases h
   ·cases h
  ·cases h
include hF in
theorem Id(e:Ex):(qL F e).ev ρ=e.ev ρ:=by
 unfold qL;split
 ·split
  ·rename_i j g l i;split
   ·rename_i z hz;split
    ·rename_i h0;split
     ·rename_i r hr;have h1:=CH (ρ:=ρ) hr;have h2:=Vi hF hz;have h3:(Ex.u (.cell j) (.o .idx l i)).ev ρ=(r.ev ρ).list.getD j (.i 0):=by show((l.ev ρ).list.getD (i.ev ρ).int.toNat (.i 0)).list.getD j (.i 0)=_;rw[h2,h1]
      split
      ·rename_i w hw;rw[h3,CH hw]
      ·rename_i w hw;rw[h3,CH hw]
      ·rfl
     ·rfl
    ·rfl
   ·rfl
  ·rfl
 ·rfl
include hp in
theorem sB{x i:Ex}(h:rB p x i=true):∃n:Nat,(i.ev ρ).int=n/\n<(x.ev ρ).list.length:=by unfold rB at h;rw[aL]at h;have h1:=uH.1 (hp.lp _ _ h.1);have h2:=wT.1 (hp.lp _ _ h.2);rw[mc]at h1;rw[Jb]at h2;exact⟨(i.ev ρ).int.toNat,by omega,by omega⟩
theorem bh{xs:ab}{n:Nat}(h:n<xs.length):xs.getD n (.i 0)∈xs:=by rw[cE,cB h];exact BQ h
include hT in
theorem vu{o:Option E2}{k:Nat}{v:Sc}(h:wv o=some k)(ho:∀u,o=some u->U7 tb I J u v)(hk:tb.tk k≠.no\/∃u,o=some (.t (.aV u))):∃xs,v= .l xs/\∀y∈xs,cA tb I J k y:=by
 unfold wv at h;split at h
 ·simp only[eF]at h;subst h;have hv:I _ v:=ho _ rfl;rcases hk with hk|⟨u,hu⟩
  ·obtain⟨xs,h1,_,h3⟩:=hT.list _ v hk hv;exact⟨xs,h1,h3⟩
  ·simp at hu
 ·simp only[eF]at h;subst h;exact ho _ rfl
 ·cases h
theorem L8{k:Nat}{y:Sc}(h:cA tb I J k y):tb.tk k≠.no:=by intro e;unfold cA at h;rw[e]at h;exact h
include hT hp in
theorem pI{e:Ex}{k:Nat}(h:Aq tb p e k=true):cA tb I J k (e.ev ρ):=by
 unfold Aq at h;unfold cA;split at h
 ·cases h
 ·rename_i u hu;rw[aL]at h;exact F5 h.1 (hp.fit _ _ h.2)
 ·rename_i cs nP;rw[aL]at h;obtain⟨h1,h2⟩:=h;refine⟨?_,fun q hq=> ?_⟩
  ·split at h2
   ·rename_i l hl;exact⟨_,MC hl,DF (g:=Ex.ev ρ) (fun x u hx=>by rw[aL]at hx;exact F5 hx.1 (hp.fit _ _ hx.2)) h2⟩
   ·split at h2
    ·rename_i ds hds;obtain⟨c,h3,h4⟩:=hp.rO _ _ hds;refine⟨c,h3,DG (tb:=tb) (J:=J) (fun u w x hf hu=> ?_) h2 h4⟩;rw[aL]at hf;exact M8 hT hf.1 hf.2 hu
    ·cases h2
  ·have:=hp.rel _ _ (lO.1 h1 q hq);rw[map_map]at this;have e:(Ex.ev ρ∘TU e)=fun j=>(e.ev ρ).list.getD j (.i 0):=by funext j;exact Zu e j
   rw[e]at this;exact this
def Wy(tb:Tb)(I:Nat->Sc->Prop)(J:Nat->ab->Prop)(k:Nat)(v:Sc):Prop:=∃xs,v= .l xs/\∀y∈xs,cA tb I J k y
theorem aj{k:Nat}(h:cT tb k=true):tb.tk k≠.no:=by intro e;unfold cT at h;rw[e]at h;cases h
include hT hp in
theorem mT{x:Ex}{k:Nat}(h:Du tb p x k=true):Wy tb I J k (x.ev ρ):=by
 unfold Du at h;split at h
 ·rename_i j hj;rw[aL]at h;obtain⟨xs,h1,h3⟩:=vu hT hj (hp.rO x) (.inl (aj h.1));exact⟨xs,h1,fun y hy=>VT hT h.2 (h3 y hy)⟩
 ·cases h
include hT hp in
theorem kj{k:Nat}:∀{x:Ex},elems tb p k x=true->Wy tb I J k (x.ev ρ)
 | .nil,_=>⟨[],rfl,nofun⟩| .o f a b,h=>by
   cases f with
   |cons=>
    simp only[elems,aL]at h;obtain⟨xs,h1,h2⟩:=kj h.2;refine⟨a.ev ρ::xs,?_,fun y hy=> ?_⟩
    ·show Sc.l (a.ev ρ::(b.ev ρ).list)=_;rw[h1];rfl
    ·rcases bX.1 hy with rfl|hy
     ·exact pI hT hp h.1
     ·exact h2 y hy
   |gx=>
    simp only[elems,aL]at h;obtain⟨xs,h1,h2⟩:=kj h.1;refine⟨xs++[b.ev ρ],?_,fun y hy=> ?_⟩
    ·show Sc.l ((a.ev ρ).list++[b.ev ρ])=_;rw[h1];rfl
    ·rcases ic.1 hy with hy|hy
     ·exact h2 y hy
     ·rw[cw.1 hy];exact pI hT hp h.2
   |app=>
    simp only[elems,aL]at h;obtain⟨xs,h1,h2⟩:=kj h.1;obtain⟨ys,h3,h4⟩:=kj h.2;refine⟨xs++ys,?_,fun y hy=> ?_⟩
    ·show Sc.l ((a.ev ρ).list++(b.ev ρ).list)=_;rw[h1,h3];rfl
    ·rcases ic.1 hy with hy|hy
     ·exact h2 y hy
     ·exact h4 y hy
   |Bp=>
    refine⟨_,rfl,fun y hy=> ?_⟩;rw[(mem_replicate.1 hy).2];exact pI hT hp h
   |BS n=>
    simp only[elems,aL]at h;obtain⟨xs,h1,h2⟩:=kj h.1;refine⟨_,rfl,fun y hy=> ?_⟩;rw[h1]at hy;have hy:y∈(if(xs.any fun k=>ef n k (b.ev ρ))=true then xs else xs++[b.ev ρ]):=hy;split at hy
    ·exact h2 y hy
    ·rcases ic.1 hy with hy|hy
     ·exact h2 y hy
     ·rw[cw.1 hy];exact pI hT hp h.2
   |_=>exact mT hT hp h
 | .t f x y z,h=>by
   cases f with
   |mu=>
    simp only[elems,aL]at h;obtain⟨xs,h1,h2⟩:=kj h.1;refine⟨xs.set (y.ev ρ).int.toNat (z.ev ρ),?_,fun w hw=> ?_⟩
    ·show Sc.l ((x.ev ρ).list.set (y.ev ρ).int.toNat (z.ev ρ))=_;rw[h1];rfl
    ·rcases Ke hw with hw|rfl
     ·exact h2 w hw
     ·exact pI hT hp h.2
   |iM=>
    have key:elems tb p k x=true->Wy tb I J k ((Ex.t .iM x y z).ev ρ):=fun h=>by obtain⟨xs,h1,h2⟩:=kj h;refine⟨(xs.take (z.ev ρ).int.toNat).drop (y.ev ρ).int.toNat,?_,fun w hw=>h2 w (vS (xB hw))⟩;show Sc.l (((x.ev ρ).list.take (z.ev ρ).int.toNat).drop (y.ev ρ).int.toNat)=_;rw[h1];rfl
    cases x with
    |o g c d=>
     simp only[elems,bY]at h;rcases h with h|h
     ·cases g<;>try(cases h;done)
      simp only[aL]at h;obtain⟨xs,h1,h2⟩:=mT hT hp h.2;have hz:=wT.1 (hp.lp _ _ h.1);rw[mc,h1]at hz;have hz:(z.ev ρ).int<=(xs.length:Int):=hz;refine⟨(xs.take (z.ev ρ).int.toNat).drop (y.ev ρ).int.toNat,?_,fun w hw=>h2 w (vS (xB hw))⟩;show Sc.l ((((c.ev ρ).list++(d.ev ρ).list).take (z.ev ρ).int.toNat).drop (y.ev ρ).int.toNat)=_;rw[h1];show Sc.l (((xs++(d.ev ρ).list).take (z.ev ρ).int.toNat).drop (y.ev ρ).int.toNat)=_;rw[iw (by omega)]
     ·exact key h
    |_=>exact key h
   |_=>exact mT hT hp h
 | .v _,h=>mT hT hp h| .i _,h=>mT hT hp h| .b _,h=>mT hT hp h| .s _,h=>mT hT hp h| .u _ _,h=>mT hT hp h
include hp in
theorem KY{e:Ex}{l:List Ty}(h:Rj p e=some l):∃c,e.ev ρ= .l c/\cR tb I J l c:=by
 unfold Rj at h;split at h
 ·rename_i es Mn;refine⟨_,MC Mn,?_⟩;clear Mn;induction es generalizing l with
  |nil=>cases h;exact trivial
  |cons a es ih=>
   unfold ahV at h;split at h
   ·rename_i u us hu F8;simp only[eF]at h;subst h;refine⟨?_,ih F8⟩;unfold alg at hu;split at hu
    ·rename_i u' he;simp only[eF]at hu;subst hu;exact hp.rO _ _ he
    ·cases hu
   ·cases h
 ·cases h
include hT in
theorem YU{a b:Ty}{x:Sc}(h:has tb I J a x\/has tb I J b x):has tb I J (Tw tb a b) x:=by
 unfold Tw;split
 ·rename_i e;subst e;rcases h with h|h<;>exact h
 ·split
  ·rcases h with⟨s,rfl,h⟩|⟨s,rfl,h⟩
   ·exact⟨s,rfl,by omega⟩
   ·exact⟨s,rfl,by omega⟩
  ·split
   ·rename_i hs;rcases h with h|h
    ·exact nE hT hs h
    ·exact h
   ·split
    ·rename_i hs;rcases h with h|h
     ·exact h
     ·exact nE hT hs h
    ·exact trivial
include hT in
theorem Nj:∀{as bs cs:List Ty}{xs:ab},Sf (Tw tb) as bs=some cs->cR tb I J as xs\/cR tb I J bs xs->cR tb I J cs xs
 |[],[],cs,xs,h,hx=>by simp only[Sf,eF]at h;subst h;rcases hx with h|h<;>exact h
 |a::as,b::bs,cs,xs,h,hx=>by
  simp only[Sf,nW]at h;obtain⟨Ap,h,rfl⟩:=h;cases xs with
  |nil=>rcases hx with h|h<;>exact h.elim
  |cons x xs=>
   refine⟨YU hT (hx.imp (·.1) (·.1)),Nj h (hx.imp (·.2) (·.2))⟩
 |[],_::_,_,_,h,_=>by simp[Sf]at h
 |_::_,[],_,_,h,_=>by simp[Sf]at h
include hT hp in
theorem Ie:∀{e:Ex}{l:List Ty},Gd tb p e=some l->∃xs,e.ev ρ= .l xs/\∀y∈xs,∃c,y= .l c/\cR tb I J l c
 | .o f a r,l,h=>by
   unfold Gd at h;split at h
   ·split at h
    ·rename_i u h1;cases h
     refine⟨[a.ev ρ],rfl,fun y hy=> ?_⟩;rw[cw.1 hy];exact KY hp h1
    ·rename_i r' _ _ u h1 _;split at h
     ·rename_i w h2;obtain⟨xs,h3,h4⟩:=Ie h2;refine⟨a.ev ρ::xs,?_,fun y hy=> ?_⟩
      ·show Sc.l (a.ev ρ::(r'.ev ρ).list)=_;rw[h3];rfl
      ·rcases bX.1 hy with rfl|hy
       ·obtain⟨c,h5,h6⟩:=KY hp h1;exact⟨c,h5,Nj hT h (.inl h6)⟩
       ·obtain⟨c,h5,h6⟩:=h4 y hy;exact⟨c,h5,Nj hT h (.inr h6)⟩
     ·cases h
    ·cases h
   ·cases h
include hT hG hF hp in
theorem nh:∀{e:Ex}{u:E2},rO tb G F p e=some u->U7 tb I J u (e.ev ρ)
 | .v n,u,h=>by
   unfold rO at h;split at h
   ·rename_i w hw;cases h;exact aau hF hw
   ·rw[nW]at h;obtain⟨w,hw,rfl⟩:=h;exact HD hG hw
 | .i z,u,h=>by unfold rO at h;cases h;exact⟨z,rfl⟩
 | .b x,u,h=>by unfold rO at h;cases h;exact⟨x,rfl⟩
 | .s x,u,h=>by unfold rO at h;cases h;exact⟨_,rfl,by simp[ByteArray.size]⟩
 | .nil,u,h=>by unfold rO at h;cases h
 | .u f x,u,h=>by
   unfold rO at h;split at h
   ·rename_i w hw;cases h;exact aau hF hw
   ·split at h
    ·split at h
     ·rename_i l hl;rw[nW]at h;obtain⟨w,hw,rfl⟩:=h;obtain⟨c,h1,h2⟩:=nh hl;show has tb I J w ((x.ev ρ).list.getD _ (.i 0));rw[h1];exact HD h2 hw
     ·cases h
    ·cases h;exact⟨_,rfl⟩
    ·cases h;exact⟨_,rfl⟩
    ·cases h;exact⟨_,rfl⟩
    ·cases h;exact⟨_,rfl⟩
    ·cases h
 | .o f x y,u,h=>by
   have el:∀k xs(n:Nat),(x.ev ρ).list=xs->(∀z∈xs,cA tb I J k z)->(y.ev ρ).int=n->n<xs.length->(match tb.tk k with| .row cs=>some (E2.cs cs)| .vec t=>some (.t t)| .no=>none)=some u->U7 tb I J u ((Ex.o .idx x y).ev ρ):=by
    intro k xs n e1 e2 e3 e4 h;have hy:=e2 _ (bh e4);have ee:(Ex.o .idx x y).ev ρ=xs.getD n (.i 0):=by show(x.ev ρ).list.getD (y.ev ρ).int.toNat (.i 0)=_;rw[e1,e3];rfl
    rw[ee];unfold cA at hy;split at h
    ·rename_i cs nP;cases h
     rw[nP]at hy;obtain⟨⟨c,h1,h2⟩,_⟩:=hy;exact⟨c,h1,ve h2⟩
    ·rename_i w hw;cases h
     rw[hw]at hy;exact bA hy
    ·cases h
   unfold rO at h;split at h
   ·split at h
    ·rename_i hr;obtain⟨n,hn,bi⟩:=sB hp hr;split at h
     ·rename_i k hk;have hv:I k (x.ev ρ):=nh hk;have vP:tb.tk k≠.no:=by intro e;rw[e]at h;cases h
      obtain⟨xs,h1,_,h3⟩:=hT.list k _ vP hv;rw[h1]at bi;exact el k xs n (by rw[h1];rfl) h3 hn bi h
     ·rename_i k hk;obtain⟨xs,h1,h3⟩:=nh hk;rw[h1]at bi;exact el k xs n (by rw[h1];rfl) h3 hn bi h
     ·rename_i l hl;cases h
      obtain⟨xs,h1,h3⟩:=nh hl;rw[h1]at bi;obtain⟨c,h4,h5⟩:=h3 _ (bh bi);refine⟨c,?_,h5⟩;show(x.ev ρ).list.getD (y.ev ρ).int.toNat (.i 0)=_;rw[h1,hn,<-h4];rfl
     ·cases h
    ·cases h
   ·split at h
    ·rename_i k hk;split at h
     ·rename_i hb;cases h
      rw[aL]at hb;obtain⟨xs,h1,h2⟩:=kj hT hp hb.1;obtain⟨ys,h3,h4⟩:=vu hT hk (fun u hu=>nh hu) (.inl (aj hb.2));refine⟨xs++ys,?_,fun z hz=> ?_⟩
      ·show Sc.l ((x.ev ρ).list++(y.ev ρ).list)=_;rw[h1,h3];rfl
      ·rcases ic.1 hz with hz|hz
       ·exact h2 z hz
       ·exact h4 z hz
     ·cases h
    ·split at h
     ·rename_i k hk;split at h
      ·rename_i hb;cases h
       rw[aL]at hb;obtain⟨xs,h1,h2⟩:=kj hT hp hb.1;obtain⟨ys,h3,h4⟩:=vu hT hk (fun u hu=>nh hu) (.inl (aj hb.2));refine⟨ys++xs,?_,fun z hz=> ?_⟩
       ·show Sc.l ((x.ev ρ).list++(y.ev ρ).list)=_;rw[h1,h3];rfl
       ·rcases ic.1 hz with hz|hz
        ·exact h4 z hz
        ·exact h2 z hz
      ·cases h
     ·cases h
   ·split at h
    ·rename_i k hk;split at h
     ·rename_i hb;cases h
      have hy:=pI hT hp hb;obtain⟨ys,h3,h4⟩:=vu hT hk (fun u hu=>nh hu) (.inl (L8 hy));refine⟨ys++[y.ev ρ],?_,fun z hz=> ?_⟩
      ·show Sc.l ((x.ev ρ).list++[y.ev ρ])=_;rw[h3];rfl
      ·rcases ic.1 hz with hz|hz
       ·exact h4 z hz
       ·rw[cw.1 hz];exact hy
     ·cases h
    ·cases h
   ·rw[nW]at h;obtain⟨l,hl,rfl⟩:=h;exact Ie hT hp hl
   all_goals first
    |(cases h;exact⟨_,rfl⟩)
    |cases h
 | .t f x y z,u,h=>by
   unfold rO at h;split at h
   ·split at h
    ·rename_i k hk;split at h
     ·rename_i hb;cases h
      have hy:=pI hT hp hb;have hv:I k (x.ev ρ):=nh hk;obtain⟨xs,h1,_,_⟩:=hT.list k _ (L8 hy) hv;show I k (.l ((x.ev ρ).list.set (y.ev ρ).int.toNat (z.ev ρ)));rw[h1]at hv⊢;exact hT.mu k xs _ _ (L8 hy) hv hy
     ·cases h
    ·rename_i k hk;split at h
     ·rename_i hb;cases h
      have hy:=pI hT hp hb;obtain⟨xs,h1,h2⟩:=nh hk;refine⟨xs.set (y.ev ρ).int.toNat (z.ev ρ),?_,fun w hw=> ?_⟩
      ·show Sc.l ((x.ev ρ).list.set (y.ev ρ).int.toNat (z.ev ρ))=_;rw[h1];rfl
      ·rcases Ke hw with hw|rfl
       ·exact h2 w hw
       ·exact hy
     ·cases h
    ·cases h
   ·split at h
    ·rename_i k hk;split at h
     ·rename_i hb;cases h
      rw[aL]at hb;have vP:tb.tk k≠.no:=aj hb.2;have hv:I k (x.ev ρ):=nh hk;obtain⟨xs,h1,h2,h3⟩:=hT.list k _ vP hv;show I k (.l (((x.ev ρ).list.take (z.ev ρ).int.toNat).drop (y.ev ρ).int.toNat));rw[h1];refine hT.free k _ hb.1 vP ?_ fun w hw=>h3 w (vS (xB hw));show((xs.take (z.ev ρ).int.toNat).drop (y.ev ρ).int.toNat).length<=_;rw[tc,iW];omega
     ·cases h
    ·rename_i k hk;cases h
     obtain⟨xs,h1,h3⟩:=nh hk;refine⟨(xs.take (z.ev ρ).int.toNat).drop (y.ev ρ).int.toNat,?_,fun w hw=>h3 w (vS (xB hw))⟩;show Sc.l (((x.ev ρ).list.take (z.ev ρ).int.toNat).drop (y.ev ρ).int.toNat)=_;rw[h1];rfl
    ·cases h
   ·cases h
end
theorem NG{α β γ:Type}{f:α->β->Bool}{g:α->γ}{h:β->γ}(hf:∀a b,f a b=true->g a=h b):∀{as:List α}{bs:List β},iy f as bs=true->as.map g=bs.map h
 |[],[],_=>rfl|a::as,b::bs,e=>by simp only[iy,aL]at e;rw[jQ,jQ,hf a b e.1,NG hf e.2]
 |[],_::_,e=>by simp[iy]at e
 |_::_,[],e=>by simp[iy]at e
section
variable{tb:Tb}{I:Nat->Sc->Prop}{J:Nat->ab->Prop}{G:List Ty}{F:List Fc}{p:Pr}{ρ:ab}
variable(hT:Fa tb I J)(hG:cR tb I J G ρ)(hF:∀f∈F,f.ok tb I J ρ)(hp:Nw tb I J p ρ)
theorem AX:∀{es:bZ}{x:Ex}{js:bH},cellsOf es=some (x,js)->es=js.map fun j=>Ex.u (.cell j) x
 |[],_,_,h=>by cases h
 |e::r,x,js,h=>by
  unfold cellsOf at h;split at h
  ·split at h
   ·split at h
    ·cases h;rfl
    ·split at h
     ·rename_i y js' hr;split at h
      ·rename_i hs;cases h
       have:=Ex.aG hs;subst this;rw[AX hr];rfl
      ·cases h
     ·cases h
   ·cases h
  ·cases h
include hT hp in
theorem La{k:Nat}{x i:Ex}(hr:OR tb k=true)(hk:wv (p.rO x)=some k)(h2:rB p x i=true){q:Nat×bH}(hq:q∈tb.ma k):J q.1 (q.2.map fun j=>(Ex.u (.cell j) (.o .idx x i)).ev ρ):=by
 obtain⟨n,hn,bi⟩:=sB hp h2;have vP:tb.tk k≠.no:=by intro e;unfold OR at hr;rw[e]at hr;cases hr
 obtain⟨xs,e1,e2⟩:=vu hT hk (hp.rO x) (.inl vP);rw[e1]at bi;have hy:=e2 _ (bh bi);have ee:(Ex.o .idx x i).ev ρ=xs.getD n (.i 0):=by show(x.ev ρ).list.getD (i.ev ρ).int.toNat (.i 0)=_;rw[e1,hn];rfl
 unfold cA at hy;unfold OR at hr;split at hy
 ·exact hy.elim
 ·rename_i hv;rw[hv]at hr;cases hr
 ·have:=hy.2 q hq;rw[<-ee]at this;exact this
include hT hp in
theorem Rv{r:Nat}{x i:Ex}{js:bH}(h:MZ tb p r x i js=true):J r (js.map fun j=>(Ex.u (.cell j) (.o .idx x i)).ev ρ):=by
 unfold MZ at h;split at h
 ·rename_i k hk;rw[aL,aL,fS]at h;obtain⟨h0,⟨q,hq,h1⟩,h2⟩:=h;rw[aL]at h1;have hr:q.1=r:=fh h1.1;have hj:q.2=js:=fv h1.2;have:=La hT hp h0 hk h2 hq;rw[hr,hj]at this;exact this
 ·cases h
theorem TR{x i:Ex}{n:Nat}(hn:(i.ev ρ).int=n)(bi:n<(x.ev ρ).list.length):(Ex.o .idx x i).ev ρ∈(x.ev ρ).list:=by show(x.ev ρ).list.getD (i.ev ρ).int.toNat (.i 0)∈_;rw[hn];exact bh bi
theorem FU(xs:ab):(xs.attach.map fun x=>db x.1)=xs.map db:=by rw[show(fun x:{y//y∈xs}=>db x.1)=db∘Subtype.val from rfl,<-map_map,attach_map_subtype_val]
theorem Qw(x:Sc):(x.list.map db).sum<=db x:=by
 cases x with
 |l xs=>rw[db,FU];show(xs.map db).sum<=_;omega
 |r a n c xs=>rw[db,FU];show(xs.map db).sum<=_;omega
 |_=>show(([]:ab).map db).sum<=_;simp
theorem Xk{x:Sc}(h:x.list≠[]):(x.list.map db).sum<db x:=by
 cases x with
 |l xs=>rw[db,FU];show(xs.map db).sum<_;omega
 |r a n c xs=>rw[db,FU];show(xs.map db).sum<_;omega
 |_=>exact absurd rfl h
theorem Ky:∀{l:ab}{y:Sc},y∈l->db y<=(l.map db).sum
 |a::l,y,h=>by
  rw[jQ,sum_cons];rcases bX.1 h with rfl|h
  ·omega
  ·have:=Ky h;omega
theorem yi:∀(l:ab)(js:bH)(k:Nat),Vk js=true->(∀j∈js,k<=j)->(js.map fun j=>db (l.getD (j-k) (.i 0))).sum<=(l.map db).sum
 |[],js,k,_,_=>by
  have:∀js:bH,(js.map fun j=>db (([]:ab).getD (j-k) (.i 0))).sum=0:=by
   intro js;induction js with
   |nil=>rfl|cons a r ih=>rw[jQ,sum_cons,ih];simp[db]
  rw[this];omega
 |y::l,[],k,_,_=>by simp
 |y::l,j::js,k,hi,hk=>by
  have hj:=hk j (by simp);have hjs:∀i∈js,j<i/\Vk js=true:=by
   intro i him;clear hk;induction js generalizing j with
   |nil=>cases him
   |cons b r ih=>
    simp only[Vk,aL]at hi;have hb:j<b:=by simpa[blt_eq]using hi.1
    rcases bX.1 him with rfl|him
    ·exact⟨hb,hi.2⟩
    ·have:=ih b hi.2 (by omega) him;exact⟨by omega,hi.2⟩
  have atm:Vk js=true:=by
   cases js with|nil=>rfl|cons b r=>exact(hjs b (by simp)).2
  rw[jQ,sum_cons,jQ,sum_cons];by_cases h0:j=k
  ·subst h0;have h1:=yi l js (j+1) atm (fun i hi=>(hjs i hi).1);have e:(js.map fun i=>db ((y::l).getD (i-j) (.i 0)))=js.map fun i=>db (l.getD (i-(j+1)) (.i 0)):=by refine ND fun i hi=> ?_;have:=(hjs i hi).1;rw[show i-j=(i-(j+1))+1 by omega,Qe]
   rw[e,Ad,LD];omega
  ·have h1:=yi l (j::js) (k+1) hi (fun i hi=>by
    rcases bX.1 hi with rfl|hi
    ·omega
    ·have:=(hjs i hi).1;omega)
   rw[jQ,sum_cons]at h1;have e:(js.map fun i=>db ((y::l).getD (i-k) (.i 0)))=js.map fun i=>db (l.getD (i-(k+1)) (.i 0)):=by refine ND fun i hi=> ?_;have:=(hjs i hi).1;rw[show i-k=(i-(k+1))+1 by omega,Qe]
   rw[e,show j-k=(j-(k+1))+1 by omega,Qe];omega
theorem H0:∀{as bs:bZ},KS as bs=true->(as.map fun e=>db (e.ev ρ)).sum<=(bs.map fun e=>db (e.ev ρ)).sum
 |[],_,_=>by simp
 |_::_,[],h=>by simp[KS]at h
 |a::as,b::bs,h=>by
  unfold KS at h;rw[jQ (l:=bs),sum_cons];split at h
  ·rename_i hs;have:=H0 h;rw[jQ,sum_cons,Ex.aG hs];omega
  ·have:=H0 h;omega
theorem TX(es:bZ)(D:bH):(D.map fun d=>db ((es.map (Ex.ev ρ)).getD d (.i 0))).sum=((pick es D).map fun e=>db (e.ev ρ)).sum:=by unfold pick;rw[map_map];congr 1;refine ND fun d _=> ?_;show db ((es.map (Ex.ev ρ)).getD d (.i 0))=db ((es.getD d (.i 0)).ev ρ);rw[cE,cE,vR];cases es[d]? <;>rfl
include hp in
theorem Ru{c o:Nat×bH×Nat}{es xQ:bZ}(h:MV p c o es xQ=true):mz c.2.1 c.2.2 (es.map (Ex.ev ρ))<mz o.2.1 o.2.2 (xQ.map (Ex.ev ρ)):=by
 unfold MV at h;unfold mz;rw[TX,TX];rw[bY]at h;rcases h with h|h
 ·split at h
  ·rename_i f x i js hc;split at h
   ·rw[aL,aL,aL,fS]at h;obtain⟨⟨⟨h1,e,he,h2⟩,h3⟩,h4⟩:=h;have h4:c.2.2<16:=by simpa[blt_eq]using h4
    have h2:=Ex.aG h2;subst h2;obtain⟨n,hn,bi⟩:=sB hp h3;rw[AX hc,map_map];have hy:(Ex.o .idx e i).ev ρ=(e.ev ρ).list.getD n (.i 0):=by show(e.ev ρ).list.getD (i.ev ρ).int.toNat (.i 0)=_;rw[hn];rfl
    have k1:=yi ((e.ev ρ).list.getD n (.i 0)).list js 0 h1 (fun _ _=>xA _);have k2:=Qw ((e.ev ρ).list.getD n (.i 0));have k3:=Ky (bh bi);have k4:((e.ev ρ).list.map db).sum<db (e.ev ρ):=Xk (by intro e0;rw[e0]at bi;simp at bi);have k5:db (e.ev ρ)<=((pick xQ o.2.1).map fun e=>db (e.ev ρ)).sum:=by
     have:∀{l:bZ},e∈l->db (e.ev ρ)<=(l.map fun e=>db (e.ev ρ)).sum:=by
      intro l hl;induction l with
      |nil=>cases hl
      |cons a r ih=>
       rw[jQ,sum_cons];rcases bX.1 hl with rfl|hl
       ·omega
       ·have:=ih hl;omega
     exact this he
    have e1:(js.map ((fun e=>db (e.ev ρ))∘fun j=>Ex.u (.cell j) (.o .idx e i)))=js.map fun j=>db (((e.ev ρ).list.getD n (.i 0)).list.getD (j-0) (.i 0)):=by refine ND fun j _=> ?_;show db ((((Ex.o .idx e i).ev ρ)).list.getD j (.i 0))=_;rw[hy,Nat.sub_zero]
    rw[e1];omega
   ·cases h
  ·cases h
 ·rw[aL]at h;have h1:c.2.2<o.2.2:=by simpa[blt_eq]using h.1
  have:=H0 (ρ:=ρ) h.2;omega
include hT hF hp in
theorem acW{r:Nat}{es:bZ}(h:ah3 tb F p r es=true):J r (es.map (Ex.ev ρ)):=by
 unfold ah3 at h;rw[bY,bY,bY,bY,bY]at h;rcases h with((((h|h)|h)|h)|h)|h
 ·rw[aL,fS]at h;obtain⟨_,c,hc,h⟩:=h;rw[aL,fS]at h;obtain⟨hr,f,hf,h⟩:=h;have hr:200+c.1=r:=fh hr;subst hr;split at h
  ·rename_i r' xQ;rw[fS]at h;obtain⟨o,ho,h⟩:=h;rw[aL]at h;have Jo:300+o.1=r':=fh h.1;subst Jo;exact hT.less c hc o ho _ _ (hF _ hf) (Ru hp h.2)
  ·cases h
 ·rw[fS]at h;obtain⟨f,hf,h⟩:=h;split at h
  ·rename_i r' xQ;rw[aL]at h;have:=hF _ hf;have e:r'=r:=fh h.1;subst e;have e2:xQ.map (Ex.ev ρ)=es.map (Ex.ev ρ):=NG (fun a b hab=>by rw[Ex.aG hab]) h.2;rw[<-e2];exact this
  ·cases h
 ·split at h
  ·rename_i f x i js hc;split at h
   ·have:=Rv hT hp h;rw[AX hc,map_map];exact this
   ·cases h
  ·cases h
 ·rw[fS]at h;obtain⟨q,hq,h⟩:=h;rw[aL]at h;have e:q.1=r:=fh h.1;subst e;refine hT.VI q hq _ (DF (g:=Ex.ev ρ) (fun x u hx=> ?_) h.2);rw[aL]at hx;exact F5 hx.1 (hp.fit _ _ hx.2)
 ·rw[aL]at h;have e:r=Pn:=fh h.1;subst e;have h:=h.2;split at h
  ·rename_i a b x _;split at h
   ·rw[aL]at h;have e:=Ex.aG h.1;subst e;obtain⟨n,hn,bi⟩:=sB hp h.2;exact hT.mem _ _ ⟨_,TR hn bi,rfl⟩
   ·rw[aL]at h;have h1:=hp.rel _ _ h.1;have h2:=hp.rel _ _ h.2;have:((Ex.o .max a b).ev ρ).int=if(b.ev ρ).int>(a.ev ρ).int then(b.ev ρ).int else(a.ev ρ).int:=rfl
    obtain⟨y1,m1,e1⟩:=hT.Vy _ _ h1;obtain⟨y2,m2,e2⟩:=hT.Vy _ _ h2;refine hT.mem _ _ ?_;rw[this];split
    ·exact⟨y2,m2,e2⟩
    ·exact⟨y1,m1,e1⟩
   ·rw[aL]at h;have h1:=hp.rel _ _ h.1;have h2:=hp.rel _ _ h.2;have:((Ex.o .min a b).ev ρ).int=if(b.ev ρ).int<(a.ev ρ).int then(b.ev ρ).int else(a.ev ρ).int:=rfl
    obtain⟨y1,m1,e1⟩:=hT.Vy _ _ h1;obtain⟨y2,m2,e2⟩:=hT.Vy _ _ h2;refine hT.mem _ _ ?_;rw[this];split
    ·exact⟨y2,m2,e2⟩
    ·exact⟨y1,m1,e1⟩
   ·cases h
  ·cases h
 ·rw[aL]at h;have e:r=rId:=fh h.1;subst e;have h:=h.2;split at h
  ·rename_i f g a b x;split at h
   ·rename_i j;rw[aL,aL]at h;have e:=Ex.aG h.1.2;have e0:j=0:=fh h.1.1;subst e;subst e0;obtain⟨n,hn,bi⟩:=sB hp h.2;exact hT.id _ _ ⟨_,TR hn bi,rfl⟩
   ·cases h
  ·cases h
include hT hG hF hp in
theorem OP{o:Option E2}{v:Sc}(h:isInt tb o=true)(ho:∀u,o=some u->U7 tb I J u v):∃z,v= .i z:=by
 unfold isInt at h;split at h
 ·exact nE hT h (ho _ rfl)
 ·cases h
include hT hG hF hp in
theorem Vp{o:Option E2}{v:Sc}(h:Ri tb o=true)(ho:∀u,o=some u->U7 tb I J u v):∃n:Nat,v= .i n:=by
 unfold Ri at h;split at h
 ·exact nE hT h (ho _ rfl)
 ·cases h
include hp in
theorem YT{e:Ex}(h:isStr p e=true):∃s,e.ev ρ= .s s:=by
 have key:(match p.rO e with|some (.t (.str _))=>true|_=>false)=true->∃s,e.ev ρ= .s s:=by
  intro h;split at h
  ·rename_i c hc;obtain⟨s,h1,_⟩:=hp.rO _ _ hc;exact⟨s,h1⟩
  ·cases h
 cases e with
 |o f x y=>
  unfold isStr at h;split at h
  ·exact⟨_,rfl⟩
  ·cases h
 |_=>exact key h
include hT hG hF hp in
theorem ab1{e:Ex}{u:Ty}(h:agD tb G F p e u=true):has tb I J u (e.ev ρ):=by
 unfold agD at h;rw[bY,bY]at h;rcases h with(h|h)|h
 ·rw[fv h];exact trivial
 ·split at h
  ·rename_i w hw;exact nE hT h (nh hT hG hF hp hw)
  ·cases h
 ·split at h
  ·rw[aL]at h;obtain⟨z,hz⟩:=OP hT hG hF hp h.1 (fun u hu=>nh hT hG hF hp hu);have:=wT.1 (hp.lp _ _ h.2);rw[hz]at this;rw[hz];have this:0<=z:=this;exact⟨z.toNat,by congr 1;omega⟩
  ·rename_i c;rw[aL]at h;obtain⟨s,hs⟩:=YT hp h.1;have h:=h.2;split at h
   ·rename_i z hz;have h1:=hp.up _ _ hz;have h2:=fv h;have e:((Ex.u .iN e).ev ρ).int=(s.size:Int):=by show((e.ev ρ).str.size:Int)=_;rw[hs];rfl
    rw[hs];exact⟨s,rfl,by omega⟩
   ·cases h
  ·exact kj hT hp h
  ·rename_i k;rw[bY,bY]at h;rcases h with(h|h)|h
   ·rw[aL,aL,aL]at h;obtain⟨⟨⟨h1,h2⟩,h3⟩,h4⟩:=h;obtain⟨xs,e1,e2⟩:=kj hT hp h4;split at h3
    ·rename_i c hc;have h5:=hp.up _ _ hc;have h6:=fv h3;rw[mc,e1]at h5;have h5:(xs.length:Int)<=c:=h5;rw[e1];exact hT.free k xs h2 (aj h1) (by omega) e2
    ·cases h3
   ·rw[fS]at h;obtain⟨q,hq,h⟩:=h;rw[aL,aL,aL,fS]at h;obtain⟨⟨⟨h1,h2⟩,h3⟩,f,hf,h4⟩:=h;obtain⟨z,hz⟩:=OP hT hG hF hp h2 (hp.rO e);have h3:=wT.1 (hp.lp _ _ h3);rw[hz]at h3;have h3:0<=z:=h3;have fin:I q.1 (e.ev ρ):=by
     split at h4
     ·rename_i op x g y b;split at h4
      ·rw[aL,aL]at h4;obtain⟨⟨hb,hs⟩,h5⟩:=h4;subst hb;have e1:=Ex.aG hs;subst e1;have:=uH.1 (hF _ hf);rw[mc,hz]at this;have this:z<((y.ev ρ).list.length:Int):=this;split at h5
       ·rename_i j hj;have hy:I j (y.ev ρ):=hp.rO _ _ hj;have ej:j=q.2:=fh h5;subst ej;have:=hT.Vs q hq z.toNat _ hy (by omega);rw[hz];have ez:((z.toNat:Nat):Int)=z:=by omega
        rw[ez]at this;exact this
       ·cases h5
      ·cases h4
     ·cases h4
    rw[bY]at h1;rcases h1 with h1|h1
    ·rw[<-fh h1];exact fin
    ·rw[fS]at h1;obtain⟨w,hw,h1⟩:=h1;have:=hT.sup _ _ _ hw fin;rw[fv h1]at this;exact this
   ·split at h
    ·rename_i f g x i;split at h
     ·rename_i c;split at h
      ·rename_i j hj;rw[aL,aL,fS]at h;obtain⟨⟨h0,q,hq,h1⟩,h2⟩:=h;rw[fS]at h1;obtain⟨w,hw,h1⟩:=h1;rw[aL,aL,aL,aL]at h1;obtain⟨⟨⟨⟨h3,h4⟩,h5⟩,h6⟩,h7⟩:=h1;have hr:=La hT hp h0 hj h2 hq;rw[<-fh h3]at hr;have h4:=fv h4;split at h7
       ·rename_i d hd;have h7:=vK.1 (hp.lp _ _ h7);have:=hT.rt w hw _ hr (by rw[cE,vR,hd];exact h7)
        rw[cE,vR,h4]at this;exact nE hT h6 (bA this)
       ·cases h7
      ·cases h
     ·cases h
    ·cases h
  ·cases h
end
def Sg(up:Bool)(x:Int)(o:Option Int):Prop:=∀z,o=some z->if up then x<=z else z<=x
theorem tD{up:Bool}{x:Int}:∀{l:List (Option Int)},(∀o∈l,Sg up x o)->Sg up x (BZ up l)
 |[],_=>nofun
 |none::r,h=>tD (l:=r) fun o ho=>h o (by simp[ho])|some a::r,h=>by
  intro z hz;have h1:=h (some a) (by simp) a rfl;have h2:=tD (l:=r) fun o ho=>h o (by simp[ho]);unfold BZ at hz;split at hz
  ·rename_i y hy;have h2:=h2 y hy;cases up
   ·simp only[qM,na]at hz h1 h2⊢;cases hz
    split<;>assumption
   ·simp only[qO]at hz h1 h2⊢;cases hz
    split<;>assumption
  ·cases hz;exact h1
theorem cJ{a b:Option Int}{z:Int}(h:gu a b=some z):∃x y,a=some x/\b=some y/\z=x+y:=by
 unfold gu at h;split at h
 ·rename_i x y;cases h;exact⟨x,y,rfl,rfl,rfl⟩
 ·cases h
theorem gJ{a b:Option Int}{z:Int}(h:sG a b=some z):∃x y,a=some x/\b=some y/\z=x-y:=by
 unfold sG at h;split at h
 ·rename_i x y;cases h;exact⟨x,y,rfl,rfl,rfl⟩
 ·cases h
theorem IA{a b:Option Int}{q:Int×Int}(h:rng a b=some q):a=some q.1/\b=some q.2/\ -9223372036854775808<=q.1/\q.2<9223372036854775808:=by
 unfold rng at h;split at h
 ·split at h
  ·rename_i h1;cases h;exact⟨rfl,rfl,h1.1,h1.2⟩
  ·cases h
 ·cases h
theorem kN{up:Bool}{x:Int}:Sg up x none:=nofun
theorem pD{x:Int}{o:Option Int}(h:∀z,o=some z->x<=z):Sg true x o:=fun z hz=>h z hz
theorem GU{x:Int}{o:Option Int}(h:∀z,o=some z->z<=x):Sg false x o:=fun z hz=>by simpa using h z hz
section
variable{tb:Tb}{I:Nat->Sc->Prop}{J:Nat->ab->Prop}{G:List Ty}{F:List Fc}{p:Pr}{ρ:ab}
variable(hT:Fa tb I J)(hG:cR tb I J G ρ)(hF:∀f∈F,f.ok tb I J ρ)(hp:Nw tb I J p ρ)
include hp in
theorem LN(up:Bool)(e:Ex):Sg up (e.ev ρ).int (p.kJ up e):=by
 intro z hz;cases up
 ·simpa using hp.lo e z hz
 ·exact hp.up e z hz
include hT hG hF hp in
theorem Y6(x:Ex):∀o∈Y5 tb F p x,Sg true ((x.ev ρ).list.length:Int) o:=by
 intro o ho;have sZ:=fun e=>hp.up (.u .len e);unfold Y5 at ho;rw[ic,ic]at ho;rcases ho with(ho|ho)|ho
 ·split at ho
  ·rename_i k he;split at ho
   ·rename_i hl;rw[cw]at ho;subst ho;refine pD fun z hz=> ?_;cases hz
    obtain⟨xs,h1,h2,_⟩:=hT.list k _ (aj hl) (hp.rO _ _ he);rw[h1];show((xs.length:Nat):Int)<=_;omega
   ·cases ho
  ·cases ho
 ·split at ho
  ·rw[cw]at ho;subst ho;exact pD fun z hz=>by cases hz;exact Int.le_refl _
  ·rename_i f a b;split at ho
   ·rw[cw]at ho;subst ho;refine pD fun z hz=> ?_;obtain⟨u,w,h1,h2,rfl⟩:=cJ hz;cases h2
    have:=sZ b _ h1;rw[mc]at this;show((a.ev ρ::(b.ev ρ).list).length:Int)<=_;rw[AM];omega
   ·rw[cw]at ho;subst ho;refine pD fun z hz=> ?_;obtain⟨u,w,h1,h2,rfl⟩:=cJ hz;cases h2
    have:=sZ a _ h1;rw[mc]at this;show(((a.ev ρ).list++[b.ev ρ]).length:Int)<=_;rw[fR,BM];omega
   ·rename_i n;rw[cw]at ho;subst ho;refine pD fun z hz=> ?_;obtain⟨u,w,h1,h2,rfl⟩:=cJ hz;cases h2
    have:=sZ a _ h1;rw[mc]at this;show(((if((a.ev ρ).list.any fun k=>ef n k (b.ev ρ))=true then(a.ev ρ).list else(a.ev ρ).list++[b.ev ρ]).length:Nat):Int)<=_;split
    ·omega
    ·rw[fR,BM];omega
   ·rw[cw]at ho;subst ho;refine pD fun z hz=> ?_;obtain⟨u,w,h1,h2,rfl⟩:=cJ hz;have h3:=sZ a _ h1;have h4:=sZ b _ h2;rw[mc]at h3 h4;show(((a.ev ρ).list++(b.ev ρ).list).length:Int)<=_;rw[fR];omega
   ·split at ho
    ·rename_i z hz;rw[cw]at ho;subst ho;refine pD fun w hw=> ?_;cases hw
     have:=hp.up _ _ hz;show((replicate (b.ev ρ).int.toNat (a.ev ρ)).length:Int)<=_;rw[Ny];split<;>omega
    ·cases ho
   ·cases ho
  ·rename_i f a l h;split at ho
   ·rw[cw]at ho;subst ho;refine pD fun z hz=> ?_;have:=sZ a _ hz;rw[mc]at this;show(((a.ev ρ).list.set (l.ev ρ).int.toNat (h.ev ρ)).length:Int)<=_;rw[BO];exact this
   ·have e:((((Ex.t .iM a l h).ev ρ).list.length:Nat):Int)=(((a.ev ρ).list.take (h.ev ρ).int.toNat).drop (l.ev ρ).int.toNat).length:=rfl;rw[tc,iW]at e;rcases bX.1 ho with ho|ho
    ·subst ho;refine pD fun z hz=> ?_;have:=sZ a _ hz;rw[mc]at this;rw[e];omega
    ·rw[cw]at ho;subst ho;refine pD fun z hz=> ?_;split at hz
     ·rename_i w hw;cases hz
      have:=hp.up _ _ hw;rw[e];split<;>omega
     ·cases hz
   ·cases ho
  ·rename_i f a;split at ho
   ·rw[cw]at ho;subst ho;refine pD fun z hz=> ?_;have:=hp.up _ _ hz;have e1:((Ex.u .iN a).ev ρ).int=((a.ev ρ).str.size:Int):=rfl;rw[e1]at this;show((jC (a.ev ρ).str).length:Int)<=_;unfold jC;rw[Ab,cW];exact this
   ·cases ho
  ·cases ho
 ·rw[pB]at ho;obtain⟨f,hf,rfl⟩:=ho;split
  ·rename_i x' y g;split
   ·rename_i hs;have e:=Ex.aG hs;subst e;refine pD fun z hz=> ?_;obtain⟨u,w,h1,h2,rfl⟩:=cJ hz;cases h2
    have h3:=sZ y _ h1;rw[mc]at h3;have h4:(x'.ev ρ).list.length<=(y.ev ρ).list.length+g:=hF _ hf;omega
   ·exact kN
  ·exact kN
theorem Cy:∀(x:Ex),ln x<=((x.ev ρ).list.length:Int)/\0<=ln x
 | .o f a b=>by
   have ha:=Cy a;have hb:=Cy b;unfold ln;split
   ·refine⟨?_,by omega⟩;show _<=((a.ev ρ::(b.ev ρ).list).length:Int);rw[AM];omega
   ·refine⟨?_,by omega⟩;show _<=(((a.ev ρ).list++[b.ev ρ]).length:Int);rw[fR,BM];omega
   ·refine⟨?_,by omega⟩;show _<=(((a.ev ρ).list++(b.ev ρ).list).length:Int);rw[fR];omega
   ·exact⟨by omega,by omega⟩
 | .t f a l h=>by
   have ha:=Cy a;unfold ln;split
   ·refine⟨?_,ha.2⟩;show _<=(((a.ev ρ).list.set (l.ev ρ).int.toNat (h.ev ρ)).length:Int);rw[BO];exact ha.1
   ·exact⟨by omega,by omega⟩
 | .v _=>⟨by unfold ln;omega,by unfold ln;omega⟩| .i _=>⟨by unfold ln;omega,by unfold ln;omega⟩| .b _=>⟨by unfold ln;omega,by unfold ln;omega⟩| .s _=>⟨by unfold ln;omega,by unfold ln;omega⟩| .nil=>⟨by unfold ln;omega,by unfold ln;omega⟩| .u _ _=>⟨by unfold ln;omega,by unfold ln;omega⟩
include hp in
theorem VY:∀(x:Ex)(z:Int),IV p x=some z->((x.ev ρ).str.size:Int)<=z:=by
 have key:∀(e:Ex)(z:Int),(match p.rO e with|some (.t (.str c))=>some (c:Int)|_=>none)=some z->((e.ev ρ).str.size:Int)<=z:=by
  intro e z h;split at h
  ·rename_i c hc;cases h
   obtain⟨s,h1,h2⟩:=hp.rO _ _ hc;rw[h1];show((s.size:Nat):Int)<=c;omega
  ·cases h
 intro x;induction x with
 |s l=>
  intro z h;cases h
  show((ByteArray.size ⟨(l.map UInt8.ofNat).toArray⟩:Nat):Int)<=_;simp[ByteArray.size]
 |o f a b iha ihb=>
  intro z h;unfold IV at h;split at h
  ·obtain⟨u,w,h1,h2,rfl⟩:=cJ h;have h3:=iha _ h1;have h4:=ihb _ h2;show((((a.ev ρ).str++(b.ev ρ).str).size:Nat):Int)<=_;rw[ByteArray.size_append];omega
  ·cases h
 |_=>intro z h;exact key _ z h
end
section
variable{tb:Tb}{I:Nat->Sc->Prop}{J:Nat->ab->Prop}{G:List Ty}{F:List Fc}{p:Pr}{ρ:ab}
variable(hT:Fa tb I J)(hG:cR tb I J G ρ)(hF:∀f∈F,f.ok tb I J ρ)(hp:Nw tb I J p ρ)
include hp in
theorem tE:∀(e:Ex)(up:Bool),Sg up (e.ev ρ).int (pE p e up)
 | .i z,up=>by
   intro w hw;have:some z=some w:=hw;cases this
   cases up<;>simp[Ex.ev]
 | .o f a b,up=>by
   have la:=tE a false;have ua:=tE a true;have lb:=tE b false;have ub:=tE b true;intro w hw;unfold pE at hw;split at hw
   ·rename_i k;split at hw
    ·rename_i hk;subst hk;rw[nW]at hw;obtain⟨q,hq,rfl⟩:=hw;obtain⟨h1,h2,h3,h4⟩:=IA hq;obtain⟨x1,y1,e1,e2,e3⟩:=cJ h1;obtain⟨x2,y2,e4,e5,e6⟩:=cJ h2;have a1:=la _ e1;have a2:=ua _ e4;have a3:=lb _ e2;have a4:=ub _ e5;simp only[qM,na,qO]at a1 a2 a3 a4;rw[rW (by show-9223372036854775808<=_;omega) (by show _<(9223372036854775808:Int);omega)];cases up
     ·simp only[qM,na];omega
     ·simp only[qO];omega
    ·cases hw
   ·rename_i k;split at hw
    ·rename_i hk;subst hk;rw[nW]at hw;obtain⟨q,hq,rfl⟩:=hw;obtain⟨h1,h2,h3,h4⟩:=IA hq;obtain⟨x1,y1,e1,e2,e3⟩:=gJ h1;obtain⟨x2,y2,e4,e5,e6⟩:=gJ h2;have a1:=la _ e1;have a2:=ua _ e4;have a3:=lb _ e5;have a4:=ub _ e2;simp only[qM,na,qO]at a1 a2 a3 a4;rw[RV (by show-9223372036854775808<=_;omega) (by show _<(9223372036854775808:Int);omega)];cases up
     ·simp only[qM,na];omega
     ·simp only[qO];omega
    ·cases hw
   ·have e:((Ex.o .max a b).ev ρ).int=if(b.ev ρ).int>(a.ev ρ).int then(b.ev ρ).int else(a.ev ρ).int:=by show(Sc.i _).int=_;rfl
    rw[e];split at hw
    ·rename_i sZ;subst sZ;split at hw
     ·rename_i x y hx hy;cases hw
      have a1:=ua _ hx;have a2:=ub _ hy;simp only[qO]at a1 a2⊢;split<;>split<;>omega
     ·cases hw
    ·rename_i sZ;have sZ:up=false:=by simpa using sZ
     subst sZ;refine tD (up:=false) (l:=[pE p a false,pE p b false]) (fun o ho=> ?_) w hw;intro z hz;simp only[qM,na];rcases bX.1 ho with ho|ho
     ·subst ho;have:=la _ hz;simp only[qM,na]at this;split<;>omega
     ·rw[cw]at ho;subst ho;have:=lb _ hz;simp only[qM,na]at this;split<;>omega
   ·have e:((Ex.o .min a b).ev ρ).int=if(b.ev ρ).int<(a.ev ρ).int then(b.ev ρ).int else(a.ev ρ).int:=by show(Sc.i _).int=_;rfl
    rw[e];split at hw
    ·rename_i sZ;subst sZ;refine tD (up:=true) (l:=[pE p a true,pE p b true]) (fun o ho=> ?_) w hw;intro z hz;simp only[qO];rcases bX.1 ho with ho|ho
     ·subst ho;have:=ua _ hz;simp only[qO]at this;split<;>omega
     ·rw[cw]at ho;subst ho;have:=ub _ hz;simp only[qO]at this;split<;>omega
    ·rename_i sZ;have sZ:up=false:=by simpa using sZ
     subst sZ;split at hw
     ·rename_i x y hx hy;cases hw
      have a1:=la _ hx;have a2:=lb _ hy;simp only[qM,na]at a1 a2⊢;split<;>split<;>omega
     ·cases hw
   ·exact LN hp up _ w hw
 | .v _,up=>LN hp up _| .b _,up=>LN hp up _| .s _,up=>LN hp up _| .nil,up=>LN hp up _| .u _ _,up=>LN hp up _| .t _ _ _ _,up=>LN hp up _
include hp in
theorem abx(up:Bool)(e:Ex):Sg up (e.ev ρ).int (agl p up e):=by
 intro w hw;unfold agl at hw;split at hw
 ·rename_i a b hm;split at hw
  ·rename_i x y z u h1 h2 h3 h4;split at hw
   ·rename_i hc;cases hw
    have a1:=hp.lo _ _ h1;have a2:=hp.up _ _ h2;have a3:=hp.lo _ _ h3;have a4:=hp.up _ _ h4;have Jj:y+u<9223372036854775808:=hc.2.2;have zM:=hc.1;have DH:=hc.2.1;clear hc;have hm:=Gg hm;dsimp only at hm;rw[hm,D5 (by omega) (by omega) (by show _<(9223372036854775808:Int);omega)];cases up
    ·simp only[qM,na];omega
    ·simp only[qO];omega
   ·cases hw
  ·cases hw
 ·cases hw
include hF hp in
theorem Un{x e:Ex}{d:Int}{o1 o2:Ex->Ex->Option Int}{y:Ex}(hxy:(x.ev ρ).int+d<=(y.ev ρ).int)(h1:∀u v z,o1 u v=some z->∃b c,p.kJ true y=some b/\p.kJ false v=some c/\z=b-c-d)(h2:∀u v z,o2 u v=some z->∃b c,p.kJ true y=some b/\p.kJ false u=some c/\z=b-c-d):
 Sg true (e.ev ρ).int (match Fg x with
  |some (u,v)=>match rng (gu (p.kJ false u) (p.kJ false v)) (gu (p.kJ true u) (p.kJ true v))with
   |some _=>BZ true [if u.same e then o1 u v else none,if v.same e then o2 u v else none]|none=>none
  |none=>none):=by
 intro w hw
 split at hw
 ·rename_i u v XT;have hx:=tw XT;subst hx;split at hw
  ·rename_i q hq;obtain⟨r1,r2,r3,r4⟩:=IA hq;obtain⟨x1,y1,e1,e2,e3⟩:=cJ r1;obtain⟨x2,y2,e4,e5,e6⟩:=cJ r2;have a1:=hp.lo _ _ e1;have a2:=hp.up _ _ e4;have a3:=hp.lo _ _ e2;have a4:=hp.up _ _ e5;have hs:((Ex.o (.add .i64) u v).ev ρ).int=(u.ev ρ).int+(v.ev ρ).int:=rW (by show-9223372036854775808<=_;omega) (by show _<(9223372036854775808:Int);omega);have hxy:((Ex.o (.add .i64) u v).ev ρ).int+d<=(y.ev ρ).int:=hxy;refine tD (up:=true) (l:=[if u.same e then o1 u v else none,if v.same e then o2 u v else none]) (fun o ho=> ?_) w hw;rcases bX.1 ho with ho|ho
   ·subst ho;split
    ·rename_i hu;have:=Ex.aG hu;subst this;refine pD fun z hz=> ?_;obtain⟨b,c,k1,k2,rfl⟩:=h1 _ _ _ hz;have:=hp.up _ _ k1;have:=hp.lo _ _ k2;omega
    ·exact kN
   ·rw[cw]at ho;subst ho;split
    ·rename_i hu;have:=Ex.aG hu;subst this;refine pD fun z hz=> ?_;obtain⟨b,c,k1,k2,rfl⟩:=h2 _ _ _ hz;have:=hp.up _ _ k1;have:=hp.lo _ _ k2;omega
    ·exact kN
  ·cases hw
 ·cases hw
include hF hp in
theorem abw(up:Bool)(e:Ex):∀o∈agk F p up e,Sg up (e.ev ρ).int o:=by
 intro o ho;unfold agk at ho;rw[pB]at ho;obtain⟨f,hf,rfl⟩:=ho;split
 ·rename_i op x y b;split
  ·rename_i hb;subst hb;have DJ:=hF _ hf;split
   ·have bi:=uH.1 DJ;split
    ·rename_i sZ;subst sZ;refine tD fun o ho=> ?_;rcases bX.1 ho with ho|ho
     ·subst ho;split
      ·rename_i hs;have:=Ex.aG hs;subst this;refine pD fun z hz=> ?_;obtain⟨u,w,h1,h2,rfl⟩:=cJ hz;cases h2
       have:=hp.up _ _ h1;omega
      ·exact kN
     ·rw[cw]at ho;subst ho;refine Un hF hp (d:=1) (y:=y) (by omega) (fun u v z hz=> ?_) (fun u v z hz=> ?_)
      ·obtain⟨m,n,k1,k2,k3⟩:=cJ hz;cases k2
       obtain⟨a,c,h1,h2,h3⟩:=gJ k1;exact⟨a,c,h1,h2,by omega⟩
      ·obtain⟨m,n,k1,k2,k3⟩:=cJ hz;cases k2
       obtain⟨a,c,h1,h2,h3⟩:=gJ k1;exact⟨a,c,h1,h2,by omega⟩
    ·rename_i sZ;have sZ:up=false:=by simpa using sZ
     subst sZ;split
     ·rename_i hs;have:=Ex.aG hs;subst this;refine GU fun z hz=> ?_;obtain⟨u,w,h1,h2,rfl⟩:=cJ hz;cases h2
      have:=hp.lo _ _ h1;omega
     ·exact kN
   ·have hle:=wT.1 DJ;split
    ·rename_i sZ;subst sZ;refine tD fun o ho=> ?_;rcases bX.1 ho with ho|ho
     ·subst ho;split
      ·rename_i hs;have:=Ex.aG hs;subst this;refine pD fun z hz=> ?_;have:=hp.up _ _ hz;omega
      ·exact kN
     ·rw[cw]at ho;subst ho;refine Un hF hp (d:=0) (y:=y) (by omega) (fun u v z hz=> ?_) (fun u v z hz=> ?_)
      ·obtain⟨a,c,h1,h2,rfl⟩:=gJ hz;exact⟨a,c,h1,h2,by omega⟩
      ·obtain⟨a,c,h1,h2,rfl⟩:=gJ hz;exact⟨a,c,h1,h2,by omega⟩
    ·rename_i sZ;have sZ:up=false:=by simpa using sZ
     subst sZ;split
     ·rename_i hs;have:=Ex.aG hs;subst this;refine GU fun z hz=> ?_;have:=hp.lo _ _ hz;omega
     ·exact kN
   ·have heq:=vK.1 DJ;split
    ·rename_i hs;have:=Ex.aG hs;subst this;rw[heq];exact LN hp up y
    ·split
     ·rename_i hs;have:=Ex.aG hs;subst this;rw[<-heq];exact LN hp up x
     ·exact kN
   ·exact kN
  ·exact kN
 ·exact kN
include hF in
theorem Su(e:Ex):∀(n:Nat)(z:Int),z<=(e.ev ρ).int->bump F e n z<=(e.ev ρ).int
 |0,_,h=>h|n+1,z,h=>by
  unfold bump;split
  ·rename_i hf;have:=R8.1 (ii hF hf);rw[Jb]at this;exact Su e n (z+1) (by omega)
  ·exact h
include hT hG hF hp in
theorem Ss(up:Bool)(e:Ex):Sg up (e.ev ρ).int (agm tb F p up e):=by
 have hl:∀(l:List (Option Int)),(∀o∈l,Sg up (e.ev ρ).int o)->Sg up (e.ev ρ).int (if up then BZ up l else(BZ up l).map (bump F e 3)):=by
  intro l hl;have hb:=tD (up:=up) hl;cases up
  ·simp only[qM,na];refine GU fun z hz=> ?_;rw[nW]at hz;obtain⟨w,hw,rfl⟩:=hz;have:=hb w hw;simp only[qM,na]at this;exact Su hF e 3 w this
  ·simp only[qO];exact hb
 unfold agm;refine hl _ fun o ho=> ?_;rw[ic,ic]at ho;rcases ho with(ho|ho)|ho
 ·split at ho
  ·rw[cw]at ho;subst ho;intro w hw;cases hw
   cases up<;>simp[Ex.ev]
  ·rename_i f x;split at ho
   ·rw[show((Ex.u .len x).ev ρ).int=((x.ev ρ).list.length:Int)from rfl];split at ho
    ·rename_i sZ;subst sZ;exact Y6 hT hG hF hp x o ho
    ·rename_i sZ;have sZ:up=false:=by simpa using sZ
     subst sZ;rcases bX.1 ho with ho|ho
     ·subst ho;exact GU fun z hz=>by cases hz;exact(Cy x).1
     ·rw[cw]at ho;subst ho;split
      ·rename_i a l h;refine GU fun z hz=> ?_;have:=hp.lo _ _ hz;rw[mc]at this;show _<=(((a.ev ρ).list.set (l.ev ρ).int.toNat (h.ev ρ)).length:Int);rw[BO];exact this
      ·exact kN
   ·rw[show((Ex.u .iN x).ev ρ).int=((x.ev ρ).str.size:Int)from rfl];split at ho
    ·rename_i sZ;subst sZ;rw[cw]at ho;subst ho;exact pD fun z hz=>VY hp x z hz
    ·rename_i sZ;have sZ:up=false:=by simpa using sZ
     subst sZ;rw[cw]at ho;subst ho;exact GU fun z hz=>by cases hz;omega
   ·rw[cw]at ho;subst ho;exact abx hp up _
  ·split at ho
   ·rw[cw]at ho;subst ho;exact tE hp _ up
   ·rw[cw]at ho;subst ho;exact tE hp _ up
   ·rw[cw]at ho;subst ho;exact tE hp _ up
   ·rw[cw]at ho;subst ho;exact tE hp _ up
   ·cases ho
  ·cases ho
 ·split at ho
  ·rename_i hc;rw[aL]at hc;have sZ:up=false:=by simpa using hc.1
   subst sZ;rw[cw]at ho;subst ho;obtain⟨n,hn⟩:=Vp hT hG hF hp hc.2 (hp.rO e);refine GU fun z hz=> ?_;cases hz
   rw[hn];exact natCast_nonneg n
  ·cases ho
 ·exact abw hF hp up e o ho
include hF hp in
theorem ab5{x v:Ex}{g:Nat}(h:agI F p x v=some g):(x.ev ρ).list.length<=(v.ev ρ).list.length+g:=by
 unfold agI at h;split at h
 ·rename_i hs;cases h
  rw[Ex.aG hs];omega
 ·split at h
  ·rename_i g' hg;cases h
   split at hg
   ·rename_i a b _;split at hg
    ·rw[nW]at hg;obtain⟨k,hk,rfl⟩:=hg;have:=hp.KF _ _ _ hk;show((a.ev ρ).list++[b.ev ρ]).length<=_;rw[fR,BM];omega
    ·rename_i n _;rw[nW]at hg;obtain⟨k,hk,rfl⟩:=hg;have:=hp.KF _ _ _ hk;show(if((a.ev ρ).list.any fun k=>ef n k (b.ev ρ))=true then(a.ev ρ).list else(a.ev ρ).list++[b.ev ρ]).length<=_;split
     ·omega
     ·rw[fR,BM];omega
    ·split at hg
     ·rename_i k z hk hz;cases hg
      have h1:=hp.KF _ _ _ hk;have h2:=hp.up _ _ hz;rw[mc]at h2;show((a.ev ρ).list++(b.ev ρ).list).length<=_;rw[fR];omega
     ·cases hg
    ·cases hg
   ·rename_i a l h _;split at hg
    ·have:=hp.KF _ _ _ hg;show((a.ev ρ).list.set (l.ev ρ).int.toNat (h.ev ρ)).length<=_;rw[BO];exact this
    ·show(((a.ev ρ).list.take (h.ev ρ).int.toNat).drop (l.ev ρ).int.toNat).length<=_;rw[tc,iW];split at hg
     ·rename_i ht;cases hg
      have:=wT.1 (hp.lp _ _ ht);rw[mc]at this;omega
     ·have:=hp.KF _ _ _ hg;omega
    ·cases hg
   ·cases hg
  ·obtain⟨f,hf,h'⟩:=exists_of_findSome?_eq_some h;split at h'
   ·rename_i x' y k;split at h'
    ·rename_i hs;have:=Ex.aG hs;subst this;rw[nW]at h';obtain⟨m,hm,rfl⟩:=h';have h1:(x'.ev ρ).list.length<=(y.ev ρ).list.length+k:=hF _ hf;have h2:=hp.KF _ _ _ hm;omega
    ·cases h'
   ·cases h'
end
section
variable{tb:Tb}{I:Nat->Sc->Prop}{J:Nat->ab->Prop}{G:List Ty}{F:List Fc}{p:Pr}{ρ:ab}
variable(hT:Fa tb I J)(hG:cR tb I J G ρ)(hF:∀f∈F,f.ok tb I J ρ)(hp:Nw tb I J p ρ)
include hp
theorem fV{x y:Ex}(h:pL p x y=true):(x.ev ρ).int<=(y.ev ρ).int:=wT.1 (hp.lp _ _ h)
theorem vA{x y:Ex}(h:pl p x y=true):(x.ev ρ).int<(y.ev ρ).int:=uH.1 (hp.lp _ _ h)
theorem SA{d:Int}{x y:Ex}(h:abL p d x y=true):(x.ev ρ).int+d<=(y.ev ρ).int:=by
 unfold abL at h;split at h
 ·rename_i a b h1 h2;have:=fv h;have:=hp.up _ _ h1;have:=hp.lo _ _ h2;omega
 ·cases h
theorem pd{a:Ex}{z:Int}(h:FE p a z=true): -9223372036854775808<=(a.ev ρ).int+z/\(a.ev ρ).int+z<9223372036854775808:=by
 unfold FE at h;split at h
 ·rename_i l u h1 h2;rw[aL]at h;have k1: -9223372036854775808<=l+z:=fv h.1;have k2:u+z<9223372036854775808:=fv h.2;have:=hp.lo _ _ h1;have:=hp.up _ _ h2;omega
 ·cases h
theorem Ik{a b:Ex}(h:O9 p a b=true):0<=(a.ev ρ).int/\0<=(b.ev ρ).int/\(a.ev ρ).int+(b.ev ρ).int<9223372036854775808:=by
 unfold O9 at h;split at h
 ·rename_i x y z w h1 h2 h3 h4;rw[aL,aL]at h;have k1:=fv h.1.1;have k2:=fv h.1.2;have k3:y+w<9223372036854775808:=fv h.2;have:=hp.lo _ _ h1;have:=hp.up _ _ h2;have:=hp.lo _ _ h3;have:=hp.up _ _ h4;omega
 ·cases h
omit hp in
theorem Cz(a l h:Ex):((Ex.u .len (.t .mu a l h)).ev ρ).int=((Ex.u .len a).ev ρ).int:=by show(((a.ev ρ).list.set (l.ev ρ).int.toNat (h.ev ρ)).length:Int)=((a.ev ρ).list.length:Int);rw[BO]
omit hp in
theorem H7(a b:Ex):((Ex.u .len (.o .gx a b)).ev ρ).int=((Ex.u .len a).ev ρ).int+1:=by show(((a.ev ρ).list++[b.ev ρ]).length:Int)=((a.ev ρ).list.length:Int)+1;rw[fR,BM];omega
omit hp in
theorem TI(a b:Ex):((Ex.u .len (.o .app a b)).ev ρ).int=((Ex.u .len a).ev ρ).int+((Ex.u .len b).ev ρ).int:=by show(((a.ev ρ).list++(b.ev ρ).list).length:Int)=((a.ev ρ).list.length:Int)+((b.ev ρ).list.length:Int);rw[fR];omega
omit hp in
theorem Gc(a:Ex):0<=((Ex.u .len a).ev ρ).int:=by rw[mc];omega
include hT hF
theorem Zh{x y:Ex}(h:ltS tb F p x y=true):(x.ev ρ).int<(y.ev ρ).int:=by
 unfold ltS at h;rw[bY,bY,bY,bY,bY]at h;rcases h with((((h|h)|h)|h)|h)|h
 ·have:=SA hp h;omega
 ·replace h:=eH h;obtain⟨z,hz,h⟩:=h;have hz:=zQ hz;subst hz;rw[bY]at h;rcases h with h|h
  ·split at h
   ·rename_i f a l u;split at h
    ·rw[Cz];exact vA hp h
    ·cases h
   ·rename_i f a b;split at h
    ·have:=fV hp h;rw[H7];omega
    ·rw[bY]at h;rw[TI];rcases h with h|h
     ·have:=vA hp h;have:=Gc (ρ:=ρ) b;omega
     ·have:=vA hp h;have:=Gc (ρ:=ρ) a;omega
    ·cases h
   ·cases h
  ·split at h
   ·rename_i k hk;rw[fS]at h;obtain⟨q,hq,h⟩:=h;rw[aL]at h;have e:q.2=k:=fh h.1;subst e;obtain⟨n,h1,h2⟩:=hT.inr q hq _ _ (hp.fit _ _ h.2) (hp.rO _ _ hk);rw[h1,mc];show(n:Int)<_;omega
   ·cases h
 ·replace h:=eH h;obtain⟨q,hq,h⟩:=h;replace h:=eH h;obtain⟨z,hz,h⟩:=h;have hz:=rC hz;have hq:=Ul hq;rw[hz]at hq;subst hq;rw[aL,aL]at h;have h1:=fv h.1.1;have h2:=pd hp h.1.2;have h3:=fV hp h.2;rw[RV (by show-9223372036854775808<=(q.1.ev ρ).int-z;omega) (by show(q.1.ev ρ).int-z<(9223372036854775808:Int);omega),Jb];omega
 ·replace h:=eH h;obtain⟨q,hq,h⟩:=h;have hq:=Gg hq;subst hq;rw[aL,aL]at h;obtain⟨h1,h2,h3⟩:=Ik hp h.1.1;have h4:=vA hp h.1.2;have h5:=fV hp h.2;rw[D5 h1 h2 h3];omega
 ·replace h:=eH h;obtain⟨q,hq,h⟩:=h;replace h:=eH h;obtain⟨z,hz,h⟩:=h;have hz:=rC hz;have hq:=tw hq;rw[aL,aL]at h;have h1:=fv h.1.1;have h2:=pd hp h.1.2;have h:=h.2;have ey:(y.ev ρ).int=(q.1.ev ρ).int+z:=by rw[hq,hz,rW (by show-9223372036854775808<=(q.1.ev ρ).int+z;omega) (by show(q.1.ev ρ).int+z<(9223372036854775808:Int);omega),Jb]
  rw[ey];rw[bY,bY]at h;rcases h with(h|h)|h
  ·have:=vA hp h;omega
  ·rw[aL]at h;have:=fv h.1;have:=fV hp h.2;omega
  ·replace h:=eH h;obtain⟨w,hw,h⟩:=h;rw[aL,aL]at h;have e:=Ex.aG h.1.1;have h3:=pd hp h.1.2;have h4:=vA hp h.2;have hw:=tw hw;rw[hw,e,hz,rW (by show-9223372036854775808<=(w.1.ev ρ).int+z;omega) (by show(w.1.ev ρ).int+z<(9223372036854775808:Int);omega),Jb];omega
 ·rw[fS]at h;obtain⟨f,hf,h⟩:=h;split at h
  ·rename_i op u v b;rw[aL]at h;have hb:=h.1;subst hb;have h:=h.2;have DJ:=hF _ hf;split at h
   ·rw[aL]at h;have:=uH.1 DJ;have:=fV hp h.2;rw[<-Ex.aG h.1];omega
   ·rw[aL]at h;have:=wT.1 DJ;have:=vA hp h.2;rw[<-Ex.aG h.1];omega
   ·have e:=vK.1 DJ;rw[bY,aL,aL]at h;rcases h with h|h
    ·have:=vA hp h.2;rw[<-Ex.aG h.1];omega
    ·have:=vA hp h.2;rw[<-Ex.aG h.1];omega
   ·cases h
  ·cases h
theorem Y3{x y:Ex}(h:leS tb F p x y=true):(x.ev ρ).int<=(y.ev ρ).int:=by
 unfold leS at h;simp only[bY]at h;rcases h with((((((((((((h|h)|h)|h)|h)|h)|h)|h)|h)|h)|h)|h)|h)
 ·rw[Ex.aG h];omega
 ·have:=uH.1 (ii hF h);omega
 ·have:=SA hp h;omega
 ·replace h:=eH h;obtain⟨z,hz,h⟩:=h;have hz:=zQ hz;subst hz;split at h
  ·rename_i f a l u;split at h
   ·rw[Cz];exact fV hp h
   ·rw[aL,aL]at h;obtain⟨⟨h1,h2⟩,h3⟩:=h;have e:=Ex.aG h2;subst e;have h3:=fV hp h3;split at h1
    ·have h1:=fv h1;subst h1;rw[mc]at h3;show _<=((((a.ev ρ).list.take (u.ev ρ).int.toNat).drop (0:Int).toNat).length:Int);rw[tc,iW];omega
    ·cases h1
   ·cases h
  ·rename_i f a b;split at h
   ·rw[H7];rw[bY]at h;rcases h with h|h
    ·have:=fV hp h;omega
    ·replace h:=eH h;obtain⟨q,hq,h⟩:=h;replace h:=eH h;obtain⟨z,hz,h⟩:=h;rw[aL,aL]at h;have h1:=fv h.1.1;subst h1;have h2:=pd hp h.1.2;have h3:=fV hp h.2;rw[tw hq,rC hz,rW (by show-9223372036854775808<=(q.1.ev ρ).int+1;omega) (by show(q.1.ev ρ).int+1<(9223372036854775808:Int);omega),Jb];omega
   ·rw[bY]at h;rw[TI];rcases h with h|h
    ·have:=fV hp h;have:=Gc (ρ:=ρ) b;omega
    ·have:=fV hp h;have:=Gc (ρ:=ρ) a;omega
   ·cases h
  ·cases h
 ·replace h:=eH h;obtain⟨z,hz,h⟩:=h;have hz:=zQ hz;subst hz;rw[bY]at h;rcases h with h|h
  ·split at h
   ·rename_i f a l u;split at h
    ·rw[Cz];exact fV hp h
    ·cases h
   ·rename_i f a b;split at h
    ·replace h:=eH h;obtain⟨q,hq,h⟩:=h;replace h:=eH h;obtain⟨z,hz,h⟩:=h;rw[aL,aL]at h;have h1:=fv h.1.1;subst h1;have h2:=pd hp h.1.2;have h3:=fV hp h.2;rw[H7,tw hq,rC hz,rW (by show-9223372036854775808<=(q.1.ev ρ).int+1;omega) (by show(q.1.ev ρ).int+1<(9223372036854775808:Int);omega),Jb];omega
    ·cases h
   ·cases h
  ·replace h:=eH h;obtain⟨v,hv,h⟩:=h;replace h:=eH h;obtain⟨g,hg,h⟩:=h;have hv:=zQ hv;subst hv;have e:g=0:=fh h;subst e;have:=hp.KF _ _ _ hg;rw[mc,mc];omega
 ·split at h
  ·rename_i f a b;split at h
   ·rw[aL]at h;have h1:=fV hp h.1;have h2:=fV hp h.2;show(if(b.ev ρ).int>(a.ev ρ).int then(b.ev ρ).int else(a.ev ρ).int)<=_;split<;>omega
   ·rw[bY]at h;show(if(b.ev ρ).int<(a.ev ρ).int then(b.ev ρ).int else(a.ev ρ).int)<=_;rcases h with h|h
    ·have h1:=fV hp h;split<;>omega
    ·have h1:=fV hp h;split<;>omega
   ·cases h
  ·cases h
 ·replace h:=eH h;obtain⟨q,hq,h⟩:=h;have hq:=tw hq;rw[bY]at h;rcases h with h|h
  ·replace h:=eH h;obtain⟨z,hz,h⟩:=h;rw[aL,aL]at h;have h1:=fv h.1.1;subst h1;have h2:=pd hp h.1.2;have h3:=vA hp h.2;rw[hq,rC hz,rW (by show-9223372036854775808<=(q.1.ev ρ).int+1;omega) (by show(q.1.ev ρ).int+1<(9223372036854775808:Int);omega),Jb];omega
  ·replace h:=eH h;obtain⟨z,hz,h⟩:=h;rw[aL,aL]at h;have h1:=fv h.1.1;subst h1;have h2:=pd hp h.1.2;have h3:=fV hp h.2;rw[hq,rC hz,rW (by show-9223372036854775808<=0+(q.2.ev ρ).int;omega) (by show 0+(q.2.ev ρ).int<(9223372036854775808:Int);omega),Jb];omega
 ·replace h:=eH h;obtain⟨q,hq,h⟩:=h;replace h:=eH h;obtain⟨z,hz,h⟩:=h;rw[aL,aL]at h;have h1:=fv h.1.1;have h2:=pd hp h.1.2;have h3:=fV hp h.2;rw[Ul hq,rC hz,RV (by show-9223372036854775808<=(q.1.ev ρ).int-z;omega) (by show(q.1.ev ρ).int-z<(9223372036854775808:Int);omega),Jb];omega
 ·replace h:=eH h;obtain⟨q,hq,h⟩:=h;rw[aL,aL]at h;obtain⟨h1,h2,h3⟩:=Ik hp h.1.1;have h4:=fV hp h.1.2;have h5:=fV hp h.2;rw[Gg hq,D5 h1 h2 h3];omega
 ·replace h:=eH h;obtain⟨q,hq,h⟩:=h;rw[aL,aL]at h;obtain⟨h1,h2,h3⟩:=Ik hp h.1.1;have h4:=fV hp h.1.2;have h5:=fV hp h.2;rw[Gg hq,D5 h1 h2 h3];omega
 ·replace h:=eH h;obtain⟨q,hq,h⟩:=h;replace h:=eH h;obtain⟨z,hz,h⟩:=h;have hz:=rC hz;have hq:=tw hq;rw[aL,aL]at h;have h1:=fv h.1.1;have h2:=pd hp h.1.2;have h:=h.2;have ey:(y.ev ρ).int=(q.1.ev ρ).int+z:=by rw[hq,hz,rW (by show-9223372036854775808<=(q.1.ev ρ).int+z;omega) (by show(q.1.ev ρ).int+z<(9223372036854775808:Int);omega),Jb]
  rw[ey];rw[bY,bY]at h;rcases h with(h|h)|h
  ·have:=fV hp h;omega
  ·rw[aL]at h;have:=fv h.1;have:=vA hp h.2;omega
  ·replace h:=eH h;obtain⟨w,hw,h⟩:=h;rw[aL,aL]at h;have e:=Ex.aG h.1.1;have h3:=pd hp h.1.2;have h4:=fV hp h.2;have hw:=tw hw;rw[hw,e,hz,rW (by show-9223372036854775808<=(w.1.ev ρ).int+z;omega) (by show(w.1.ev ρ).int+z<(9223372036854775808:Int);omega),Jb];omega
 ·split at h
  ·rename_i z f g a i;split at h
   ·rw[aL,fS]at h;obtain⟨hz,w,hw,h⟩:=h;rw[aL]at h;have hz:=fv hz;obtain⟨m,hm⟩:=nE hT h.1 (hp.fit _ _ h.2);rw[hm,Jb];show z<=(m:Int);omega
   ·cases h
  ·cases h
 ·rw[fS]at h;obtain⟨f,hf,h⟩:=h;split at h
  ·rename_i op u v b;rw[aL]at h;have hb:=h.1;subst hb;have h:=h.2;have DJ:=hF _ hf;split at h
   ·rw[aL]at h;have:=uH.1 DJ;have:=fV hp h.2;rw[<-Ex.aG h.1];omega
   ·rw[aL]at h;have:=wT.1 DJ;have:=fV hp h.2;rw[<-Ex.aG h.1];omega
   ·have e:=vK.1 DJ;rw[bY,aL,aL]at h;rcases h with h|h
    ·have:=fV hp h.2;rw[<-Ex.aG h.1];omega
    ·have:=fV hp h.2;rw[<-Ex.aG h.1];omega
   ·cases h
  ·cases h
theorem Xw{x y:Ex}(h:eqS F p x y=true):(x.ev ρ).int=(y.ev ρ).int:=by
 unfold eqS at h;rw[bY,bY,bY,bY]at h;rcases h with(((h|h)|h)|h)|h
 ·rw[Ex.aG h]
 ·exact(vK.1 (ii hF h)).symm
 ·replace h:=eH h;obtain⟨z,hz,h⟩:=h;have hz:=zQ hz;subst hz;split at h
  ·rename_i f a l u;split at h
   ·rw[Cz];exact vK.1 (hp.lp _ _ h)
   ·cases h
  ·cases h
 ·replace h:=eH h;obtain⟨z,hz,h⟩:=h;have hz:=zQ hz;subst hz;split at h
  ·rename_i f a l u;split at h
   ·rw[Cz];exact vK.1 (hp.lp _ _ h)
   ·cases h
  ·cases h
 ·rw[aL]at h;have:=fV hp h.1;have:=fV hp h.2;omega
theorem Zo{x y:Ex}(h:neS F p x y=true):(x.ev ρ).int≠(y.ev ρ).int:=by
 unfold neS at h;rw[bY,bY]at h;rcases h with(h|h)|h
 ·exact fun e=>R8.1 (ii hF h) e.symm
 ·have:=vA hp h;omega
 ·have:=vA hp h;omega
omit hT hp in
theorem jy{x:Ex}{u:Int}(h:qL F x= .i u):(x.ev ρ).int=u:=by rw[<-Id hF x,h];rfl
theorem pt:∀{e:Ex}{b:Bool},wS tb F p e b=true->(e.ev ρ).bool=b
 | .b x,b,h=>by unfold wS at h;exact AO.1 h
 | .u f x,b,h=>by
   unfold wS at h;rw[bY]at h;rcases h with h|h
   ·exact ii hF h
   ·split at h
    ·have:=pt h;show(!(x.ev ρ).bool)=b;rw[this];simp
    ·split at h
     ·rename_i w hw;rw[<-Id hF,hw];exact AO.1 h
     ·cases h
 | .o f x y,b,h=>by
   unfold wS at h;rw[bY,bY]at h;rcases h with(h|h)|h
   ·exact ii hF h
   ·split at h
    ·show((x.ev ρ).bool&&(y.ev ρ).bool)=b;split at h
     ·rename_i hb;subst hb;rw[aL]at h;rw[pt h.1,pt h.2];rfl
     ·rename_i hb;have hb:b=false:=by simpa using hb
      subst hb;rw[bY]at h;rcases h with h|h
      ·rw[pt h];rfl
      ·rw[pt h,Bool.and_false]
    ·show((x.ev ρ).bool||(y.ev ρ).bool)=b;split at h
     ·rename_i hb;subst hb;rw[bY]at h;rcases h with h|h
      ·rw[pt h];rfl
      ·rw[pt h,Bool.or_true]
     ·rename_i hb;have hb:b=false:=by simpa using hb
      subst hb;rw[aL]at h;rw[pt h.1,pt h.2];rfl
    ·split at h
     ·rename_i u v hu hv;show decide ((x.ev ρ).int<=(y.ev ρ).int)=b;rw[jy hF hu,jy hF hv];exact AO.1 h
     ·split at h
      ·rename_i hb;subst hb;exact wT.2 (Y3 hT hF hp h)
      ·rename_i hb;have hb:b=false:=by simpa using hb
       subst hb;rw[bY]at h;rcases h with h|h
       ·exact aay.2 (uH.1 (ii hF h))
       ·exact aay.2 (Zh hT hF hp h)
    ·split at h
     ·rename_i u v hu hv;show decide ((x.ev ρ).int<(y.ev ρ).int)=b;rw[jy hF hu,jy hF hv];exact AO.1 h
     ·split at h
      ·rename_i hb;subst hb;exact uH.2 (Zh hT hF hp h)
      ·rename_i hb;have hb:b=false:=by simpa using hb
       subst hb;rw[bY]at h;rcases h with h|h
       ·exact aaz.2 (wT.1 (ii hF h))
       ·exact aaz.2 (Y3 hT hF hp h)
    ·split at h
     ·rename_i u v hu hv;show((x.ev ρ).int==(y.ev ρ).int)=b;rw[jy hF hu,jy hF hv];exact AO.1 h
     ·split at h
      ·rename_i hb;subst hb;exact vK.2 (Xw hT hF hp h)
      ·rename_i hb;have hb:b=false:=by simpa using hb
       subst hb;rw[bY]at h;rcases h with h|h
       ·exact aax.2 (R8.1 (ii hF h))
       ·exact aax.2 (Zo hT hF hp h)
    ·split at h
     ·rename_i u v hu hv;show((x.ev ρ).int !=(y.ev ρ).int)=b;rw[jy hF hu,jy hF hv];exact AO.1 h
     ·split at h
      ·rename_i hb;subst hb;exact R8.2 (Zo hT hF hp h)
      ·rename_i hb;have hb:b=false:=by simpa using hb
       subst hb;rw[bY]at h;rcases h with h|h
       ·exact aaA.2 (vK.1 (ii hF h))
       ·exact aaA.2 (Xw hT hF hp h)
    ·rw[aL]at h;have hb:=h.1;subst hb;rw[Ex.aG h.2];show((y.ev ρ).str.toList==(y.ev ρ).str.toList)=true;exact beq_self_eq_true _
    ·cases h
   ·split at h
    ·rename_i z g s;split at h
     ·rw[aL,aL]at h;have hb:=h.1.1;subst hb;have hz:=fv h.1.2;subst hz;have hs:=ii hF h.2;have hs:((s.ev ρ).str.toList==(ByteArray.mk ([]:List UInt8).toArray).toList)=false:=hs;refine uH.2 ?_;show(0:Int)<((s.ev ρ).str.size:Int);by_cases h0:(s.ev ρ).str.size=0
      ·exfalso;have e:(s.ev ρ).str=ByteArray.mk ([]:List UInt8).toArray:=by
        have:(s.ev ρ).str.data= #[]:=Ai h0;cases hh:(s.ev ρ).str with
        |mk d=>rw[hh]at this;simp only at this;rw[this]
       rw[e]at hs;simp at hs
      ·omega
     ·cases h
    ·cases h
 | .v _,b,h=>by unfold wS at h;exact ii hF h
 | .i _,b,h=>by unfold wS at h;exact ii hF h
 | .s _,b,h=>by unfold wS at h;exact ii hF h
 | .nil,b,h=>by unfold wS at h;exact ii hF h
 | .t _ _ _ _,b,h=>by unfold wS at h;exact ii hF h
omit hp
include hG
theorem xq:∀n,Nw tb I J (pr tb G F n) ρ
 |0=>⟨fun _ _ h=>(by cases h),fun _ _ h=>(by cases h),fun _ _ h=>(by cases h),fun _ _ h=>(by cases h),fun _ _ h=>(by cases h),fun _ _ _ h=>(by cases h),fun _ _ h=>(by cases h)⟩|n+1=>
  have hp:=xq n
  ⟨fun _ _ h=>nh hT hG hF hp h,fun _ _ h=>pt hT hF hp h,fun e z h=>by simpa using Ss hT hG hF hp true e z h,fun e z h=>by simpa using Ss hT hG hF hp false e z h,fun _ _ h=>ab1 hT hG hF hp h,fun _ _ _ h=>ab5 hF hp h,fun _ _ h=>acW hT hF hp h⟩
end
def Ex.sub(g:Nat->Ex):Ex->Ex
 | .v n=>g n| .u f x=> .u f (x.sub g)| .o f x y=> .o f (x.sub g) (y.sub g)| .t f x y z=> .t f (x.sub g) (y.sub g) (z.sub g)|e=>e
def Fc.sub(g:Nat->Ex):Fc->Fc
 | .t e b=> .t (e.sub g) b| .ty e u=> .ty (e.sub g) u| .rel r es=> .rel r (es.map (Ex.sub g))| .grow x y n=> .grow (x.sub g) (y.sub g) n| .imp e b f=> .imp (e.sub g) b (f.sub g)
def Fc.under(n:Nat):Fc->Bool
 | .t e _=>e.under n| .ty e _=>e.under n| .rel _ es=>es.all (·.under n)| .grow x y _=>x.under n&&y.under n| .imp e _ f=>e.under n&&f.under n
structure Sp where
 key:Nat
 args:List Ty
 pre:List Fc
 res:List Ty
 post:List Fc
inductive Ms where|up (x B:Ex) (st:Bool)|bin (x y:Ex)|shrink (x:Ex)|down (x:Ex)|dn (x A:Ex)
structure LH where
 b:Nat
 Dc:List Ty
 inv:List Fc
 ms:Ms
 gr:List (Nat×Nat)
def Ms.val(σ:ab):Ms->Nat
 | .up x B st=>((B.ev σ).int-(x.ev σ).int+(if st then 0 else 1)).toNat| .bin x y=>((y.ev σ).int-(x.ev σ).int).toNat| .shrink x=>(x.ev σ).list.length| .down x=>((x.ev σ).int+1).toNat| .dn x A=>((x.ev σ).int-(A.ev σ).int).toNat
def Ms.under(n:Nat):Ms->Bool
 | .up x B _=>x.under n&&B.under n| .bin x y=>x.under n&&y.under n| .shrink x=>x.under n| .down x=>x.under n| .dn x A=>x.under n&&A.under n
section
variable(tb:Tb)
def agc(G:List Ty)(F:List Fc):List Fc:=F.flatMap fun f=>match f with
 | .imp e b f'=>if(pr tb G F 3).lp e b then K4 [f']else[.imp e b f']
 |f=>[f]
def amZ:Fc->Bool| .imp _ _ _=>true|_=>false
def act:Nat->List Ty->List Fc->List Fc
 |0,_,F=>F|n+1,G,F=>if F.any amZ then act n G (agc tb G F)else F
def ui(new:List Fc)(G:List Ty)(F:List Fc):List Fc:=act tb 2 G (K4 new++F)
def sb(F:List Fc):Bool:=F.any fun f=>match f with
 | .t e b=>(match e with
   | .o f x y=>b&&(match f with
     | .eq=>(match qL F x,y with| .i u,.i v=>u !=v|_,_=>false)| .ne=>(match qL F x,y with| .i u,.i v=>u==v|_,_=>false)|_=>false)
   | .u f x=>(match qL F (.u f x)with| .b w=>w !=b|_=>false)|_=>false)
 |_=>false
abbrev NL:Nat:=8
abbrev NI:Nat:=5
def prove:Nat->List Ty->List Fc->Fc->Bool
 |n,G,F,.t e b=>(pr tb G F n).lp e b|n,G,F,.ty e u=>(pr tb G F n).fit e u|n,G,F,.rel r es=>(pr tb G F n).rel r es|n,G,F,.grow x y g=>match(pr tb G F n).KF x y with|some k=>ble k g|none=>false
 |n,G,F,.imp e b f=>(pr tb G F n).lp e (!b)||(let F':=ui tb [.t e b] G F;sb F'||prove n G F' f)
def Kq(xs:bZ)(nv:Nat)(n:Nat):Ex:=if n<xs.length then xs.getD n (.i 0)else .v (nv+(n-xs.length))
def xm(b:Nat)(vs:bZ)(n:Nat):Ex:=if n<b then .v n else vs.getD (n-b) (.i 0)
def Ms.dec(p:Pr)(g:Nat->Ex):Ms->Bool
 | .up x B st=>p.lp (if st then .o .lt x B else .o .le x B) true&&p.lp (.o .lt x (x.sub g)) true&&p.lp (.o .le (B.sub g) B) true| .bin x y=>p.lp (.o .lt x y) true&&p.lp (.o .le x (x.sub g)) true&&p.lp (.o .le (y.sub g) y) true&&(p.lp (.o .lt x (x.sub g)) true||p.lp (.o .lt (y.sub g) y) true)| .shrink x=>(match x.sub g with| .t f a l _=>(match f,l with| .iM,.i z=>decide (z=1)&&a.same x&&p.lp (.o .lt (.i 0) (.u .len x)) true|_,_=>false)|_=>false)| .down x=>p.lp (.o .le (.i 0) x) true&&p.lp (.o .lt (x.sub g) x) true| .dn x A=>p.lp (.o .lt A x) true&&p.lp (.o .lt (x.sub g) x) true&&p.lp (.o .le A (A.sub g)) true
def Ms.most(p:Pr)(g:Nat->Ex):Ms->Option Int
 | .up x B st=>gu (sG (p.kJ true (B.sub g)) (p.kJ false (x.sub g))) (some (if st then 0 else 1))| .bin x y=>sG (p.kJ true (y.sub g)) (p.kJ false (x.sub g))| .shrink x=>p.kJ true (.u .len (x.sub g))| .down x=>gu (p.kJ true (x.sub g)) (some 1)| .dn x A=>sG (p.kJ true (x.sub g)) (p.kJ false (A.sub g))
abbrev big:Nat:=1000000000000000000000000
def SR(b:Nat)(jH:bZ)(R:Nat)(q:Nat×Nat):Fc:= .grow (.v (b+q.1)) (jH.getD q.1 (.i 0)) (q.2*R)
def ck(S:List Sp)(HS:List LH)(sp:Sp):T bZ->List Ty->List Fc->List LH->Bool
 | .ah es,G,F,_=>iy (pr tb G F NL).fit es sp.res&&sp.post.all (fun f=>prove tb NL G F (f.sub (xm sp.args.length es)))| .fail _,_,_,_=>false| .ite c a b,G,F,K=>
   ((pr tb G F NI).lp c false||(let F':=ui tb [.t c true] G F;sb F'||ck S HS sp a G F' K))
   &&((pr tb G F NI).lp c true||(let F':=ui tb [.t c false] G F;sb F'||ck S HS sp b G F' K))
 | .aa c k,G,F,K=>(pr tb G F NL).lp c true&&ck S HS sp k G (ui tb [.t c true] G F) K| .call f xs n k,G,F,K=>S.any fun s=>Nat.beq s.key f&&(Nat.beq s.res.length n&&xs.all (·.under G.length)&&F.all (·.under G.length)&&iy (pr tb G F NL).fit xs s.args
     &&s.pre.all (fun q=>prove tb NL G F (q.sub fun i=>xs.getD i (.i 0)))
     &&(let G':=G++s.res;let F':=ui tb (s.post.map (Fc.sub (Kq xs G.length))) G' F;sb F'||ck S HS sp k G' F' K))
 | .loop jH body,G,F,K=>HS.any fun h=>Nat.beq h.b G.length&&(Nat.beq h.Dc.length jH.length&&jH.all (·.under G.length)&&F.all (·.under G.length)&&iy (pr tb G F NL).fit jH h.Dc
     &&h.ms.under (G.length+h.Dc.length)&&h.gr.all (fun q=>blt q.1 h.Dc.length)&&h.inv.all (fun q=>prove tb NL G F (q.sub (xm G.length jH)))
     &&(match h.ms.most (pr tb G F NL) (xm G.length jH)with
      |some R=>ble R.toNat big&&(let G':=G++h.Dc;let F':=ui tb (h.inv++h.gr.map (SR G.length jH R.toNat)) G' F;sb F'||ck S HS sp body G' F' (K++[h]))|none=>false))
 | .next l vs,G,F,K=>match K[l]? with
   |some h=>Nat.beq vs.length h.Dc.length&&iy (pr tb G F NL).fit vs h.Dc&&h.inv.all (fun q=>prove tb NL G F (q.sub (xm h.b vs)))
    &&h.ms.dec (pr tb G F NL) (xm h.b vs)
    &&h.gr.all (fun q=>match(pr tb G F NL).KF (vs.getD q.1 (.i 0)) (.v (h.b+q.1))with|some k=>ble k q.2|none=>false)
   |none=>false
end
theorem fB{ρ σ:ab}{g:Nat->Ex}(h:∀n,(g n).ev ρ=σ.getD n (.i 0)):∀e:Ex,(e.sub g).ev ρ=e.ev σ
 | .v n=>h n| .u f x=>by show f.ev ((x.sub g).ev ρ)=_;rw[fB h x];rfl
 | .o f x y=>by show f.ev ((x.sub g).ev ρ) ((y.sub g).ev ρ)=_;rw[fB h x,fB h y];rfl
 | .t f x y z=>by show f.ev ((x.sub g).ev ρ) ((y.sub g).ev ρ) ((z.sub g).ev ρ)=_;rw[fB h x,fB h y,fB h z];rfl
 | .i _=>rfl| .b _=>rfl| .s _=>rfl| .nil=>rfl
section
variable{tb:Tb}{I:Nat->Sc->Prop}{J:Nat->ab->Prop}
theorem D6{ρ σ:ab}{g:Nat->Ex}(h:∀n,(g n).ev ρ=σ.getD n (.i 0)):∀f:Fc,(f.sub g).ok tb I J ρ↔f.ok tb I J σ
 | .t e b=>by show((e.sub g).ev ρ).bool=b↔_;rw[fB h];rfl
 | .ty e u=>by show has tb I J u ((e.sub g).ev ρ)↔_;rw[fB h];rfl
 | .rel r es=>by
   show J r ((es.map (Ex.sub g)).map (Ex.ev ρ))↔_;rw[map_map];have:(Ex.ev ρ∘Ex.sub g)=Ex.ev σ:=by funext e;exact fB h e
   rw[this];rfl
 | .grow x y n=>by show((x.sub g).ev ρ).list.length<=((y.sub g).ev ρ).list.length+n↔_;rw[fB h,fB h];rfl
 | .imp e b f=>by show(((e.sub g).ev ρ).bool=b->(f.sub g).ok tb I J ρ)↔_;rw[fB h,D6 h f];rfl
theorem Ir{n:Nat}{ρ σ:ab}(h:∀i,i<n->σ.getD i (.i 0)=ρ.getD i (.i 0)):∀{f:Fc},f.under n=true->(f.ok tb I J σ↔f.ok tb I J ρ)
 | .t e b,hu=>by show(e.ev σ).bool=b↔_;rw[Ex.aH h hu];rfl
 | .ty e u,hu=>by show has tb I J u (e.ev σ)↔_;rw[Ex.aH h hu];rfl
 | .rel r es,hu=>by show J r (es.map (Ex.ev σ))↔_;rw[u5 h hu];rfl
 | .grow x y n,hu=>by simp only[Fc.under,aL]at hu;show(x.ev σ).list.length<=(y.ev σ).list.length+n↔_;rw[Ex.aH h hu.1,Ex.aH h hu.2];rfl
 | .imp e b f,hu=>by simp only[Fc.under,aL]at hu;show((e.ev σ).bool=b->f.ok tb I J σ)↔_;rw[Ex.aH h hu.1,Ir h hu.2];rfl
theorem Wb{n:Nat}{ρ σ:ab}(h:∀i,i<n->σ.getD i (.i 0)=ρ.getD i (.i 0)){m:Ms}(hu:m.under n=true):m.val σ=m.val ρ:=by
 cases m with|up x B st=>simp only[Ms.under,aL]at hu;simp only[Ms.val];rw[Ex.aH h hu.1,Ex.aH h hu.2]|bin x y=>simp only[Ms.under,aL]at hu;simp only[Ms.val];rw[Ex.aH h hu.1,Ex.aH h hu.2]|shrink x=>simp only[Ms.under]at hu;simp only[Ms.val];rw[Ex.aH h hu]|down x=>simp only[Ms.under]at hu;simp only[Ms.val];rw[Ex.aH h hu]|dn x A=>simp only[Ms.under,aL]at hu;simp only[Ms.val];rw[Ex.aH h hu.1,Ex.aH h hu.2]
theorem pQ{ρ m:ab}{i:Nat}(h:i<ρ.length):(ρ++m).getD i (.i 0)=ρ.getD i (.i 0):=by rw[cE,cE,gA h]
theorem u7{ρ m:ab}{i:Nat}(h:ρ.length<=i):(ρ++m).getD i (.i 0)=m.getD (i-ρ.length) (.i 0):=by rw[cE,cE,lR h]
theorem getD_take{ρ:ab}{n i:Nat}(h:i<n):(ρ.take n).getD i (.i 0)=ρ.getD i (.i 0):=by rw[cE,cE,getElem?_take_of_lt h]
theorem getD_map{ρ:ab}{es:bZ}(i:Nat):(es.map (Ex.ev ρ)).getD i (.i 0)=(es.getD i (.i 0)).ev ρ:=by rw[cE,cE,vR];cases es[i]? <;>rfl
theorem Io{ρ:ab}{b:Nat}{vs:bZ}(hb:b<=ρ.length)(n:Nat):(xm b vs n).ev ρ=(ρ.take b++vs.map (Ex.ev ρ)).getD n (.i 0):=by
 have hl:(ρ.take b).length=b:=by rw[iW];omega
 unfold xm;split
 ·rename_i h;rw[pQ (by omega),getD_take h];rfl
 ·rw[u7 (by omega),hl,getD_map]
theorem WW{ρ rs:ab}{xs:bZ}{N:Nat}(hN:ρ.length=N)(hu:xs.all (·.under N)=true)(n:Nat):(Kq xs N n).ev (ρ++rs)=(xs.map (Ex.ev ρ)++rs).getD n (.i 0):=by
 subst hN;unfold Kq;split
 ·rename_i h;rw[pQ (by rw[Ab];exact h),getD_map];have hx:(xs.getD n (.i 0)).under ρ.length=true:=by
   have:xs.getD n (.i 0)∈xs:=by rw[cE,cB h];exact BQ h
   exact lO.1 hu _ this
  exact Ex.aH (fun i hi=>pQ hi) hx
 ·rename_i h;rw[u7 (by rw[Ab];omega),Ab];show(ρ++rs).getD (ρ.length+(n-xs.length)) (.i 0)=_;rw[u7 (by omega)];congr 1;omega
variable(hT:Fa tb I J)
include hT
theorem abl{G:List Ty}{F:List Fc}{ρ:ab}(hG:cR tb I J G ρ)(hF:∀f∈F,f.ok tb I J ρ):∀f∈agc tb G F,f.ok tb I J ρ:=by
 intro f hf;unfold agc at hf;rw[xc]at hf;obtain⟨g,hg,hf⟩:=hf;split at hf
 ·rename_i e b f';split at hf
  ·rename_i ht;have h1:(e.ev ρ).bool=b->f'.ok tb I J ρ:=hF _ hg;have h2:=h1 ((xq hT hG hF 3).lp _ _ ht);exact CG (F:=[f']) (fun q hq=>by rw[cw.1 hq];exact h2) f hf
  ·rw[cw.1 hf];exact hF _ hg
 ·rw[cw.1 hf];exact hF _ hg
theorem WD:∀{n:Nat}{G:List Ty}{F:List Fc}{ρ:ab},cR tb I J G ρ->(∀f∈F,f.ok tb I J ρ)->∀f∈act tb n G F,f.ok tb I J ρ
 |0,_,_,_,_,hF=>hF|n+1,G,F,ρ,hG,hF=>by
  unfold act;split
  ·exact WD hG (abl hT hG hF)
  ·exact hF
theorem vV{new:List Fc}{G:List Ty}{F:List Fc}{ρ:ab}(hG:cR tb I J G ρ)(hF:∀f∈F,f.ok tb I J ρ)(hn:∀f∈new,f.ok tb I J ρ):∀f∈ui tb new G F,f.ok tb I J ρ:=by
 refine WD hT hG fun f hf=> ?_;rcases ic.1 hf with hf|hf
 ·exact CG hn f hf
 ·exact hF f hf
omit hT in
theorem uX{F:List Fc}{ρ:ab}(hF:∀f∈F,f.ok tb I J ρ)(h:sb F=true):False:=by
 unfold sb at h;rw[fS]at h;obtain⟨f,hf,h⟩:=h;have DJ:=hF _ hf;split at h
 ·rename_i e b;split at h
  ·rename_i f x y;rw[aL]at h;have hb:=h.1;subst hb;have h:=h.2;cases hx:qL F x<;>rw[hx]at h<;>try(cases f<;>cases h;done)
   rename_i u;cases y<;>try(cases f<;>cases h;done)
   rename_i v;cases f<;>try(cases h;done)
   ·have:=vK.1 DJ;rw[jy hF hx,Jb]at this;rw[this]at h;simp at h
   ·have:=R8.1 DJ;rw[jy hF hx,Jb]at this;exact this (by simpa using h)
  ·rename_i f x;split at h
   ·rename_i w hw;have DJ:((Ex.u f x).ev ρ).bool=b:=DJ;rw[<-Id hF,hw]at DJ;have DJ:w=b:=DJ;rw[DJ]at h;simp at h
   ·cases h
  ·cases h
 ·cases h
theorem yP:∀{f:Fc}{n:Nat}{G:List Ty}{F:List Fc}{ρ:ab},cR tb I J G ρ->(∀f∈F,f.ok tb I J ρ)->prove tb n G F f=true->f.ok tb I J ρ
 | .t e b,n,G,F,ρ,hG,hF,h=>by unfold prove at h;exact(xq hT hG hF n).lp _ _ h
 | .ty e u,n,G,F,ρ,hG,hF,h=>by unfold prove at h;exact(xq hT hG hF n).fit _ _ h
 | .rel r es,n,G,F,ρ,hG,hF,h=>by unfold prove at h;exact(xq hT hG hF n).rel _ _ h
 | .grow x y g,n,G,F,ρ,hG,hF,h=>by
   unfold prove at h;split at h
   ·rename_i k hk;have:=(xq hT hG hF n).KF _ _ _ hk;have:=oo h;show(x.ev ρ).list.length<=(y.ev ρ).list.length+g;omega
   ·cases h
 | .imp e b f,n,G,F,ρ,hG,hF,h=>by
   unfold prove at h;intro hb;rw[bY]at h;rcases h with h|h
   ·have:=(xq hT hG hF n).lp _ _ h;rw[this]at hb;cases b<;>cases hb
   ·have ST:=vV hT hG hF (new:=[.t e b]) (fun q hq=>by rw[cw.1 hq];exact hb);rw[bY]at h;rcases h with h|h
    ·exact(uX ST h).elim
    ·exact yP hG ST h
theorem Cf{G:List Ty}{F:List Fc}{ρ:ab}{n:Nat}(hG:cR tb I J G ρ)(hF:∀f∈F,f.ok tb I J ρ):∀{es:bZ}{ts:List Ty},iy (pr tb G F n).fit es ts=true->cR tb I J ts (es.map (Ex.ev ρ))
 |[],[],_=>trivial|e::es,u::ts,h=>by simp only[iy,aL]at h;exact⟨(xq hT hG hF n).fit _ _ h.1,Cf hG hF h.2⟩
 |[],_::_,h=>by simp[iy]at h
 |_::_,[],h=>by simp[iy]at h
end
theorem NF{α β:Type}{f:α->β->Bool}:∀{as:List α}{bs:List β},iy f as bs=true->as.length=bs.length
 |[],[],_=>rfl|a::as,b::bs,h=>by simp only[iy,aL]at h;simp[NF h.2]
 |[],_::_,h=>by simp[iy]at h
 |_::_,[],h=>by simp[iy]at h
theorem TN{g:dK->dK}{Q:ab->Prop}(P:ab->Prop)(μ:ab->Nat)(h:∀v rec,P v->(∀w,P w->μ w<μ v->∃rs,rec w=some rs/\Q rs)->∃rs,g rec v=some rs/\Q rs):∀(n:Nat)(v:ab),P v->μ v<n->∃rs,cH g n v=some rs/\Q rs
 |0,_,_,hm=>absurd hm (not_lt_zero _)|n+1,v,hv,hm=>h v _ hv fun w hw bi=>TN P μ h n w hw (by omega)
theorem Qk:big+1<fg:=by decide+kernel
section
variable(tb:Tb)(I:Nat->Sc->Prop)(J:Nat->ab->Prop)
def dQ(Γ:Nat->dK)(s:Sp):Prop:=∀xs,cR tb I J s.args xs->(∀f∈s.pre,f.ok tb I J xs)->∃rs,Γ s.key xs=some rs/\cR tb I J s.res rs/\∀f∈s.post,f.ok tb I J (xs++rs)
def Qc(h:LH)(ρ w:ab):Prop:=w.length=h.Dc.length/\cR tb I J h.Dc w/\(∀f∈h.inv,f.ok tb I J (ρ.take h.b++w))/\h.ms.val (ρ.take h.b++w)<h.ms.val (ρ.take (h.b+h.Dc.length))/\∀q∈h.gr,(w.getD q.1 (.i 0)).list.length<=(ρ.getD (h.b+q.1) (.i 0)).list.length+q.2
end
section
variable{tb:Tb}{I:Nat->Sc->Prop}{J:Nat->ab->Prop}{p:Pr}{ρ σ:ab}{g:Nat->Ex}
theorem agy(hp:Nw tb I J p ρ)(hg:∀n,(g n).ev ρ=σ.getD n (.i 0)){m:Ms}(h:m.dec p g=true):m.val σ<m.val ρ:=by
 cases m with
 |up x B st=>
  simp only[Ms.dec,aL]at h;obtain⟨⟨h1,h2⟩,h3⟩:=h;have h2:=uH.1 (hp.lp _ _ h2);have h3:=wT.1 (hp.lp _ _ h3);rw[fB hg]at h2 h3;simp only[Ms.val];cases st
  ·simp only[qM,na]at h1⊢;have:=wT.1 (hp.lp _ _ h1);omega
  ·simp only[qO]at h1⊢;have:=uH.1 (hp.lp _ _ h1);omega
 |bin x y=>
  simp only[Ms.dec,aL,bY]at h;obtain⟨⟨⟨h1,h2⟩,h3⟩,h4⟩:=h;have h1:=uH.1 (hp.lp _ _ h1);have h2:=wT.1 (hp.lp _ _ h2);have h3:=wT.1 (hp.lp _ _ h3);rw[fB hg]at h2 h3;simp only[Ms.val];rcases h4 with h4|h4
  ·have h4:=uH.1 (hp.lp _ _ h4);rw[fB hg]at h4;omega
  ·have h4:=uH.1 (hp.lp _ _ h4);rw[fB hg]at h4;omega
 |shrink x=>
  simp only[Ms.dec]at h;have hs:=fB hg x;split at h
  ·rename_i f a l u he;split at h
   ·rename_i z;rw[aL,aL]at h;have hz:=fv h.1.1;subst hz;have hx:=Ex.aG h.1.2;subst hx;have hl:=uH.1 (hp.lp _ _ h.2);rw[mc,Jb]at hl;rw[he]at hs;simp only[Ms.val];rw[<-hs];show(((a.ev ρ).list.take (u.ev ρ).int.toNat).drop (1:Int).toNat).length<_;rw[tc,iW];have:(1:Int).toNat=1:=rfl;omega
   ·cases h
  ·cases h
 |down x=>
  simp only[Ms.dec,aL]at h;have h1:=wT.1 (hp.lp _ _ h.1);have h2:=uH.1 (hp.lp _ _ h.2);rw[fB hg]at h2;rw[Jb]at h1;simp only[Ms.val];omega
 |dn x A=>
  simp only[Ms.dec,aL]at h;have h1:=uH.1 (hp.lp _ _ h.1.1);have h2:=uH.1 (hp.lp _ _ h.1.2);have h3:=wT.1 (hp.lp _ _ h.2);rw[fB hg]at h2 h3;simp only[Ms.val];omega
theorem acB(hp:Nw tb I J p ρ)(hg:∀n,(g n).ev ρ=σ.getD n (.i 0)){m:Ms}{R:Int}(h:m.most p g=some R):m.val σ<=R.toNat:=by
 cases m with
 |up x B st=>
  simp only[Ms.most]at h;obtain⟨u,w,h1,h2,rfl⟩:=cJ h;cases h2
  obtain⟨a,c,h3,h4,rfl⟩:=gJ h1;have h3:=hp.up _ _ h3;have h4:=hp.lo _ _ h4;rw[fB hg]at h3 h4;simp only[Ms.val];cases st
  ·simp only[qM,na];omega
  ·simp only[qO];omega
 |bin x y=>
  simp only[Ms.most]at h;obtain⟨a,c,h3,h4,rfl⟩:=gJ h;have h3:=hp.up _ _ h3;have h4:=hp.lo _ _ h4;rw[fB hg]at h3 h4;simp only[Ms.val];omega
 |shrink x=>
  simp only[Ms.most]at h;have h:=hp.up _ _ h;rw[mc,fB hg]at h;simp only[Ms.val];omega
 |down x=>
  simp only[Ms.most]at h;obtain⟨u,w,h1,h2,rfl⟩:=cJ h;cases h2
  have h1:=hp.up _ _ h1;rw[fB hg]at h1;simp only[Ms.val];omega
 |dn x A=>
  simp only[Ms.most]at h;obtain⟨a,c,h3,h4,rfl⟩:=gJ h;have h3:=hp.up _ _ h3;have h4:=hp.lo _ _ h4;rw[fB hg]at h3 h4;simp only[Ms.val];omega
end
theorem aar{ρ v:ab}{n:Nat}(h:ρ.length+v.length=n):(ρ++v).take n=ρ++v:=lQ (by rw[fR];omega)
section
variable{tb:Tb}{I:Nat->Sc->Prop}{J:Nat->ab->Prop}
theorem Ro{h:LH}{ρ m w:ab}(hb:h.b+h.Dc.length<=ρ.length)(hq:∀q∈h.gr,q.1<h.Dc.length)(hn:Qc tb I J h (ρ++m) w):Qc tb I J h ρ w:=by obtain⟨h1,h2,h3,h4,h5⟩:=hn;rw[iw (by omega)]at h3 h4;rw[iw hb]at h4;refine⟨h1,h2,h3,h4,fun q hq'=> ?_⟩;have:=h5 q hq';rw[pQ (by have:=hq q hq';omega)]at this;exact this
def Kok(tb:Tb)(I:Nat->Sc->Prop)(J:Nat->ab->Prop)(Q:ab->Prop)(K:List LH)(Ks:List dK)(ρ:ab):Prop:=
 K.length=Ks.length/\∀(l:Nat)(h:LH),K[l]? =some h->∃k,Ks[l]? =some k/\h.b+h.Dc.length<=ρ.length/\h.ms.under (h.b+h.Dc.length)=true/\(∀q∈h.gr,q.1<h.Dc.length)/\∀w,Qc tb I J h ρ w->∃rs,k w=some rs/\Q rs
theorem Kok.ext{Q:ab->Prop}{K:List LH}{Ks:List dK}{ρ:ab}(h:Kok tb I J Q K Ks ρ)(m:ab):Kok tb I J Q K Ks (ρ++m):=by refine⟨h.1,fun l x hx=> ?_⟩;obtain⟨k,h1,h2,h3,h4,h5⟩:=h.2 l x hx;exact⟨k,h1,by rw[fR];omega,h3,h4,fun w hw=>h5 w (Ro h2 h4 hw)⟩
variable(hT:Fa tb I J)
include hT
theorem Ku{S:List Sp}{HS:List LH}{sp:Sp}{Γ:Nat->dK}(hS:∀s∈S,dQ tb I J Γ s)(Gv:ab)(hx:Gv.length=sp.args.length):
 ∀(t:T bZ)(G:List Ty)(F:List Fc)(K:List LH)(ρ q:ab)(Ks:List dK),ck tb S HS sp t G F K=true->cR tb I J G ρ->ρ=Gv++q->(∀f∈F,f.ok tb I J ρ)->Kok tb I J (fun rs=>cR tb I J sp.res rs/\∀f∈sp.post,f.ok tb I J (Gv++rs)) K Ks ρ->∃rs,t.aF Γ ρ Ks=some rs/\cR tb I J sp.res rs/\∀f∈sp.post,f.ok tb I J (Gv++rs)
 | .ah es,G,F,K,ρ,q,Ks,h,hG,hq,hF,hK=>by
   simp only[ck,aL]at h;refine⟨_,rfl,Cf hT hG hF h.1,fun f hf=> ?_⟩;have h2:=yP hT hG hF (lO.1 h.2 f hf);subst hq;have:=(D6 (tb:=tb) (I:=I) (J:=J) (σ:=Gv++es.map (Ex.ev (Gv++q))) (fun n=>by rw[Io (ρ:=Gv++q) (by rw[fR];omega),<-hx,take_left'];rfl) f).1 h2
   exact this
 | .fail _,G,F,K,ρ,q,Ks,h,_,_,_,_=>by simp[ck]at h
 | .ite c a b,G,F,K,ρ,q,Ks,h,hG,hq,hF,hK=>by
   simp only[ck,aL,bY]at h;simp only[T.aF];have hp:=xq hT hG hF NI;split
   ·rename_i hc;have ST:=vV hT hG hF (new:=[.t c true]) (fun f hf=>by rw[cw.1 hf];exact hc);rcases h.1 with h1|h1|h1
    ·have:=hp.lp _ _ h1;rw[hc]at this;cases this
    ·exact(uX ST h1).elim
    ·exact Ku hS Gv hx a G _ K ρ q Ks h1 hG hq ST hK
   ·rename_i hc;have hc':(c.ev ρ).bool=false:=by simpa using hc
    have ST:=vV hT hG hF (new:=[.t c false]) (fun f hf=>by rw[cw.1 hf];exact hc');rcases h.2 with h1|h1|h1
    ·have:=hp.lp _ _ h1;rw[hc']at this;cases this
    ·exact(uX ST h1).elim
    ·exact Ku hS Gv hx b G _ K ρ q Ks h1 hG hq ST hK
 | .aa c k,G,F,K,ρ,q,Ks,h,hG,hq,hF,hK=>by simp only[ck,aL]at h;have hc:=(xq hT hG hF NL).lp _ _ h.1;simp only[T.aF];rw[aA hc];exact Ku hS Gv hx k G _ K ρ q Ks h.2 hG hq (vV hT hG hF (new:=[.t c true]) (fun f hf=>by rw[cw.1 hf];exact hc)) hK
 | .call f xs n k,G,F,K,ρ,q,Ks,h,hG,hq,hF,hK=>by
   simp only[ck,fS,aL,bY]at h;obtain⟨s,hs,hk,⟨⟨⟨⟨hn,hu⟩,huF⟩,gj⟩,gk⟩,h⟩:=h;have hk:s.key=f:=fh hk;have hn:s.res.length=n:=fh hn;have hGl:G.length=ρ.length:=pR hG;have dH:=Cf hT hG hF gj;have Wt:xs.length=s.args.length:=NF gj;obtain⟨rs,h1,h2,h3⟩:=hS s hs (xs.map (Ex.ev ρ)) dH (fun f' JN=>by have:=yP hT hG hF (lO.1 gk f' JN);exact(D6 (fun m=>(getD_map m).symm) f').1 this)
   simp only[T.aF];rw[hk]at h1;rw[h1];have Vd:rs.length=n:=by rw[<-hn,pR h2]
   simp only[Vd,qO];have hG':=nj hG h2;have yw:∀i,i<G.length->(ρ++rs).getD i (.i 0)=ρ.getD i (.i 0):=fun i hi=>pQ (by omega);have hF1:∀f'∈F,f'.ok tb I J (ρ++rs):=fun f' JN=>(Ir yw (lO.1 huF f' JN)).2 (hF f' JN);have ST:=vV hT hG' hF1 (new:=s.post.map (Fc.sub (Kq xs G.length))) (fun f' JN=>by obtain⟨f0,Mu,rfl⟩:=pB.1 JN;exact(D6 (fun m=>WW (rs:=rs) hGl.symm hu m) f0).2 (h3 f0 Mu))
   rcases h with h|h
   ·exact(uX ST h).elim
   ·exact Ku hS Gv hx k _ _ K (ρ++rs) (q++rs) Ks h hG' (by rw[hq,eh]) ST (hK.ext rs)
 | .loop jH body,G,F,K,ρ,q,Ks,h,hG,hq,hF,hK=>by
   simp only[ck,fS,aL]at h;obtain⟨L,hL,hb,⟨⟨⟨⟨⟨⟨⟨hl,hu⟩,huF⟩,gj⟩,hms⟩,Q2⟩,hinv⟩,h⟩⟩:=h;have hb:L.b=G.length:=fh hb;have hl:L.Dc.length=jH.length:=fh hl;have hGl:G.length=ρ.length:=pR hG;have hp:=xq hT hG hF NL;have Q2:∀q∈L.gr,q.1<L.Dc.length:=fun q hq=>by simpa[blt_eq]using lO.1 Q2 q hq
   split at h
   ·rename_i R hR;rw[aL,bY]at h;obtain⟨JL,h⟩:=h;have JL:=oo JL;have hg0:∀n,(xm G.length jH n).ev ρ=(ρ++jH.map (Ex.ev ρ)).getD n (.i 0):=fun n=>by rw[Io (by omega),lQ (by omega)]
    have Q4:=acB hp hg0 hR;simp only[T.aF];refine TN (fun v=>v.length=L.Dc.length/\cR tb I J L.Dc v/\(∀f∈L.inv,f.ok tb I J (ρ++v))/\L.ms.val (ρ++v)<=R.toNat/\∀q∈L.gr,(v.getD q.1 (.i 0)).list.length+q.2*L.ms.val (ρ++v)<=((jH.getD q.1 (.i 0)).ev ρ).list.length+q.2*R.toNat)
     (fun v=>L.ms.val (ρ++v)) (fun v rec hv lE=> ?_) fg (jH.map (Ex.ev ρ)) ?_ (by have:=Qk;omega)
    ·obtain⟨v1,v2,v3,v4,v5⟩:=hv;have hG':=nj hG v2;have yw:∀i,i<G.length->(ρ++v).getD i (.i 0)=ρ.getD i (.i 0):=fun i hi=>pQ (by omega);have hF1:∀f'∈F,f'.ok tb I J (ρ++v):=fun f' JN=>(Ir yw (lO.1 huF f' JN)).2 (hF f' JN);have ST:=vV hT hG' hF1 (new:=L.inv++L.gr.map (SR G.length jH R.toNat)) (fun f' JN=>by
      rcases ic.1 JN with JN|JN
      ·exact v3 f' JN
      ·obtain⟨x,hx,rfl⟩:=pB.1 JN;show((ρ++v).getD (G.length+x.1) (.i 0)).list.length<=((jH.getD x.1 (.i 0)).ev (ρ++v)).list.length+x.2*R.toNat;have e1:(ρ++v).getD (G.length+x.1) (.i 0)=v.getD x.1 (.i 0):=by rw[u7 (by omega)];congr 1;omega
       have e2:(jH.getD x.1 (.i 0)).ev (ρ++v)=(jH.getD x.1 (.i 0)).ev ρ:=by
        refine Ex.aH yw ?_;have bi:x.1<jH.length:=by have:=Q2 x hx;omega
        have:jH.getD x.1 (.i 0)∈jH:=by rw[cE,cB bi];exact BQ bi
        exact lO.1 hu _ this
       rw[e1,e2];have:=v5 x hx;omega)
     rcases h with h|h
     ·exact(uX ST h).elim
     ·refine Ku hS Gv hx body _ _ (K++[L]) (ρ++v) (q++v) (Ks++[rec]) h hG' (by rw[hq,eh]) ST ⟨by simp[hK.1],fun l x OJ=> ?_⟩;by_cases hlK:l<K.length
      ·rw[gA hlK]at OJ;obtain⟨k,k1,k2⟩:=(hK.ext v).2 l x OJ;exact⟨k,by rw[gA (by rw[<-hK.1];exact hlK)];exact k1,k2⟩
      ·rw[lR (by omega)]at OJ;have Q3:l-K.length=0:=by
        by_cases h0:l-K.length=0
        ·exact h0
        ·rw[mB (by simp;omega)]at OJ;cases OJ
       rw[Q3]at OJ;simp at OJ;subst OJ;refine⟨rec,?_,by rw[fR];omega,by rw[hb];exact hms,Q2,fun w hw=> ?_⟩
       ·rw[lR (by rw[<-hK.1];omega),<-hK.1,Q3];rfl
       ·obtain⟨w1,w2,w3,w4,w5⟩:=hw;rw[hb]at w3 w4;have t1:(ρ++v).take G.length=ρ:=by rw[hGl];exact take_left' rfl
        have t2:(ρ++v).take (G.length+L.Dc.length)=ρ++v:=aar (by omega);rw[t1]at w3 w4;rw[t2]at w4;refine lE w ⟨w1,w2,w3,by omega,fun x amQ=> ?_⟩ w4;have h5:=w5 x amQ;have h6:=v5 x amQ;have e1:(ρ++v).getD (L.b+x.1) (.i 0)=v.getD x.1 (.i 0):=by rw[u7 (by omega)];congr 1;omega
        rw[e1]at h5;have h7:x.2*(L.ms.val (ρ++w)+1)<=x.2*L.ms.val (ρ++v):=Aj _ w4;rw[Nat.mul_add,Nat.mul_one]at h7;omega
    ·refine⟨by rw[Ab];exact hl.symm,Cf hT hG hF gj,fun f' JN=> ?_,Q4,fun x OJ=> ?_⟩
     ·exact(D6 hg0 f').1 (yP hT hG hF (lO.1 hinv f' JN))
     ·rw[getD_map];have:=Aj x.2 Q4;omega
   ·cases h
 | .next l vs,G,F,K,ρ,q,Ks,h,hG,hq,hF,hK=>by
   simp only[ck]at h;split at h
   ·rename_i L hL;simp only[aL]at h;obtain⟨⟨⟨⟨hl,gj⟩,hinv⟩,X9⟩,Q2⟩:=h;obtain⟨k,k1,k2,k3,k4,k5⟩:=hK.2 l L hL;have hl:vs.length=L.Dc.length:=fh hl;have hp:=xq hT hG hF NL;have hg:∀n,(xm L.b vs n).ev ρ=(ρ.take L.b++vs.map (Ex.ev ρ)).getD n (.i 0):=fun n=>Io (by omega) n;simp only[T.aF];rw[k1];refine k5 _ ⟨by rw[Ab];exact hl,Cf hT hG hF gj,fun f' JN=> ?_,?_,fun x OJ=> ?_⟩
    ·exact(D6 hg f').1 (yP hT hG hF (lO.1 hinv f' JN))
    ·have h1:=agy hp hg X9;have h2:L.ms.val ρ=L.ms.val (ρ.take (L.b+L.Dc.length)):=Wb (fun i hi=>(getD_take hi).symm) k3;omega
    ·have:=lO.1 Q2 x OJ;split at this
     ·rename_i m hm;have h1:=hp.KF _ _ _ hm;have h2:=oo this;rw[getD_map];show _<=((Ex.v (L.b+x.1)).ev ρ).list.length+x.2;omega
     ·cases this
   ·cases h
theorem ak2{S:List Sp}{HS:List LH}{sp:Sp}{Γ:Nat->dK}{t:T bZ}(hS:∀s∈S,dQ tb I J Γ s)(hF:∀l,l.length=sp.args.length->Γ sp.key l=t.aF Γ l [])(h:ck tb S HS sp t sp.args (ui tb sp.pre sp.args []) []=true):dQ tb I J Γ sp:=by
 intro xs hx gk
 have hl:=pR hx
 rw[hF xs hl.symm]
 exact Ku hT hS xs hl.symm t sp.args _ [] xs [] [] h hx (by simp) (vV hT hx (nofun) gk) ⟨rfl,fun l h hh=>by simp at hh⟩
end
def Jm(xP:List (Nat×bH×Nat))(J:Nat->ab->Prop)(N:Nat)(r:Nat)(xs:ab):Prop:=
 if r<200 then J r xs else ∃c∈xP,(r=200+c.1/\mz c.2.1 c.2.2 xs<N)\/(r=300+c.1/\mz c.2.1 c.2.2 xs<N+1)
def Fc.low:Fc->Bool
 | .rel r _=>blt r 200| .imp _ _ f=>f.low|_=>true
section
variable{tb:Tb}{I:Nat->Sc->Prop}{J:Nat->ab->Prop}(hE:∀k,∀q∈tb.ma k,q.1<200){N M:Nat}
include hE
theorem Xp{k:Nat}{y:Sc}:cA tb I (Jm tb.xP J N) k y->cA tb I (Jm tb.xP J M) k y:=by
 intro h;unfold cA at h⊢;split at h
 ·exact h
 ·exact h
 ·refine⟨h.1,fun q hq=> ?_⟩;have:=h.2 q hq;unfold Jm at this⊢;rw[aA (hE _ q hq)]at this⊢;exact this
theorem Mk:∀{u:Ty}{x:Sc},has tb I (Jm tb.xP J N) u x->has tb I (Jm tb.xP J M) u x
 | .aV k,x,⟨xs,h1,h2⟩=>⟨xs,h1,fun y hy=>Xp hE (h2 y hy)⟩| .any,_,h=>h| .int,_,h=>h| .nat,_,h=>h| .bool,_,h=>h| .str _,_,h=>h| .ae _,_,h=>h
theorem yv:∀{us:List Ty}{xs:ab},cR tb I (Jm tb.xP J N) us xs->cR tb I (Jm tb.xP J M) us xs
 |[],[],_=>trivial|_::_,_::_,h=>⟨Mk hE h.1,yv h.2⟩|[],_::_,h=>h.elim|_::_,[],h=>h.elim
theorem Iq{ρ:ab}:∀{f:Fc},f.low=true->(f.ok tb I (Jm tb.xP J N) ρ↔f.ok tb I (Jm tb.xP J M) ρ)
 | .t e b,_=>Iff.rfl| .ty e u,_=>⟨Mk hE,Mk hE⟩| .rel r es,h=>by
   have hr:r<200:=by simpa[Fc.low,blt_eq]using h
   show Jm _ _ _ _ _↔Jm _ _ _ _ _;unfold Jm;rw[aA hr,aA hr]
 | .grow x y g,_=>Iff.rfl| .imp e b f,h=>by have:=Iq (ρ:=ρ) (f:=f) h;show((e.ev ρ).bool=b->_)↔((e.ev ρ).bool=b->_);rw[this]
end
def NN(n:Nat):bZ:=(range n).map Ex.v
theorem WK{xs m:ab}{n:Nat}(h:xs.length=n):(NN n).map (Ex.ev (xs++m))=xs:=by
 subst h;unfold NN;rw[map_map];apply ext_getElem
 ·simp
 ·intro i h1 h2;simp only[getElem_map,getElem_range,Function.comp];show(xs++m).getD i (.i 0)=_;rw[pQ h2,cE,cB h2];rfl
def Sp.rcd(s:Sp)(c i:Nat):Sp:={s with pre:= .rel (c+i) (NN s.args.length)::s.pre}
section
variable{tb:Tb}{I:Nat->Sc->Prop}{J:Nat->ab->Prop}(hE:∀k,∀q∈tb.ma k,q.1<200)
include hE
theorem anH{Γ:Nat->dK}(Nm:List (Nat×Sp))(Yl:∀e∈Nm,(e.2.pre++e.2.post).all Fc.low=true)(hid:∀e∈Nm,e.1<100/\∃c∈tb.xP,c.1=e.1)(hnd:∀c∈tb.xP,∀d∈tb.xP,c.1=d.1->c=d)(hb:∀c∈tb.xP,c.1<100)(h:∀N,(∀e∈Nm,dQ tb I (Jm tb.xP J N) Γ (e.2.rcd 200 e.1))->∀e∈Nm,dQ tb I (Jm tb.xP J N) Γ (e.2.rcd 300 e.1)):∀N,∀e∈Nm,dQ tb I (Jm tb.xP J N) Γ e.2:=by
 have key:∀N,∀e∈Nm,dQ tb I (Jm tb.xP J N) Γ (e.2.rcd 200 e.1):=by
  intro N;induction N with
  |zero=>
   intro e he xs hx hp;have:=hp _ (fc ..);have hr:Jm tb.xP J 0 (200+e.1) ((NN e.2.args.length).map (Ex.ev xs)):=this;unfold Jm at hr;rw[aE (by omega)]at hr;obtain⟨c,hc,h|h⟩:=hr
   ·omega
   ·have:=hb c hc;have:=(hid e he).1;omega
  |succ N ih=>
   intro e he xs hx hp;have hl:=Yl e he;have hl':=lO.1 hl;have hlen:xs.length=e.2.args.length:=(pR hx).symm;have hr:Jm tb.xP J (N+1) (200+e.1) ((NN e.2.args.length).map (Ex.ev xs)):=hp _ (fc ..);obtain⟨rs,h1,h2,h3⟩:=h N ih e he xs (yv hE hx) (fun f hf=>by
    rcases bX.1 hf with rfl|hf
    ·show Jm tb.xP J N (300+e.1) _;unfold Jm at hr⊢;rw[aE (by omega)]at hr⊢;obtain⟨c,hc,h|h⟩:=hr
     ·refine⟨c,hc,.inr ⟨by omega,h.2⟩⟩
     ·have:=hb c hc;have:=(hid e he).1;omega
    ·exact(Iq hE (hl' f (by simp[hf]))).1 (hp f (bB _ hf)))
   exact⟨rs,h1,yv hE h2,fun f hf=>(Iq hE (hl' f (by simp[show f∈e.2.post from hf]))).1 (h3 f hf)⟩
 intro N e he xs hx hp
 have hl:=Yl e he
 have hl':=lO.1 hl
 have hlen:xs.length=e.2.args.length:=(pR hx).symm
 obtain⟨ax7,c,hc,hce⟩:=hid e he
 obtain⟨rs,h1,h2,h3⟩:=key (mz c.2.1 c.2.2 xs+1) e he xs (yv hE hx) (fun f hf=>by
  rcases bX.1 hf with rfl|hf
  ·show Jm tb.xP J _ (200+e.1) _;unfold Jm;rw[aE (by omega)];refine⟨c,hc,.inl ⟨by omega,?_⟩⟩;have:=WK (m:=[]) hlen;rw[uP]at this;rw[this];omega
  ·exact(Iq hE (hl' f (by simp[hf]))).1 (hp f hf))
 exact⟨rs,h1,yv hE h2,fun f hf=>(Iq hE (hl' f (by simp[show f∈e.2.post from hf]))).1 (h3 f hf)⟩
end
def aob:List (Nat×Tk):=[(3,.vec .int),(9,.vec (.str 4294967296)),(35,.row [(.str 4294967296),(.ae 115),(.ae 184),(.ae 193),(.ae 200),(.ae 9),(.ae 9),(.ae 9),(.ae 9),(.ae 9),(.ae 63),(.ae 111),(.ae 408)]),(51,.vec (.ae 88)),(52,.vec (.ae 95)),(60,.vec (.ae 109)),(63,.row [(.str 4294967296),(.ae 109),(.ae 109),(.ae 105)]),(67,.vec (.ae 3)),(76,.row [.int,.int,.int,(.ae 88),(.ae 223),.int,(.ae 3),(.ae 187),(.ae 196),(.ae 203),(.ae 67),(.ae 208),(.ae 283),(.ae 213),(.ae 3),(.ae 3),(.ae 3),.int]),(88,.row [.int,.int,.int,.int,.int,.int,.int,.int,(.ae 3)]),(95,.row [.int,.int,.int,.int,.int,.int]),(100,.row [.int,(.str 4294967296),.int,(.ae 100)]),(105,.row [.int,(.str 4294967296),(.str 4294967296),.int,(.str 4294967296),.int,(.ae 100),.int,(.str 4294967296),.int,(.ae 100),(.ae 100),.int,.int,.int,.int,(.ae 3),(.ae 3),.bool,(.ae 105),(.ae 105)]),(107,.vec .int),(109,.row [(.str 4294967296),.int]),(111,.row [(.str 4294967296),(.ae 3),.int,.int,.int]),(115,.row [(.str 4294967296),.int,.int]),(117,.row [(.str 4294967296),.int]),(126,.row [(.str 4294967296),(.ae 115),(.ae 184),(.ae 193),(.ae 200),(.ae 9),(.ae 9),(.ae 9),(.ae 9),(.ae 9),(.ae 63),(.ae 111),(.ae 408),(.ae 130)]),(130,.row [(.str 4294967296),.int,.int,(.ae 173)]),(134,.row [(.str 4294967296),(.str 4294967296),.int]),(137,.row [.int,.int,.int]),(152,.row [.int,.int,.int,.int,.int,.int,.int,.int,(.ae 3),(.ae 95)]),(173,.row [.int,.int,.int,.int,.int,(.str 4294967296),.int,(.ae 100),.int,(.str 4294967296),.int,(.ae 100),(.ae 100),.int,.int,.int,.int,(.ae 3),(.ae 3),.bool]),(184,.row [(.str 4294967296),.int,(.ae 270),.int,(.str 4294967296),.int,.int,.int,.int,(.ae 3),(.ae 3),.int,.int,.int,.int,(.ae 3),(.ae 3)]),(185,.vec (.ae 361)),(187,.row [.int,.bool,(.ae 361),(.ae 361),.int]),(193,.row [(.str 4294967296),.int,.int]),(196,.row [.int,.int,(.ae 3),(.ae 373),(.ae 3),.int,.int]),(200,.row [(.str 4294967296),.int,.int]),(203,.row [.int,.int,(.ae 377),.int]),(208,.row [.int,.int,.bool]),(213,.row [.int,.int,.int,.int,.int,.int]),(223,.row [.int,.int,.int,(.ae 3),.int,.int,.int]),(270,.row [.int,.int]),(283,.row [.int,.int,.int,.int,.int]),(361,.row [.int,.int,.int,.int,.bool]),(373,.row [.int,.int]),(377,.row [.int,.int,.int]),(408,.row [(.str 4294967296),(.ae 411),.int]),(411,.row [.int,(.str 4294967296),(.str 4294967296)]),(1001,.vec (.str 4294967296)),(1002,.vec .int),(1003,.vec .any),(1004,.vec .int),(1005,.vec .int),(1006,.row [(.str 4294967296),.int]),(1007,.row [.int,.int,.int,.int,.bool]),(1008,.row [.int,.int,.int,.int,.int,.int,.int,.int,(.ae 3)]),(1009,.vec .int),(1010,.vec (.ae 1009)),(1011,.vec .int),(1012,.row [.int,.int,.int,.int,.int,.int,.int,.int,(.ae 3)]),(1013,.vec (.ae 1012)),(1014,.row [(.str 4294967296),.int,(.ae 270),.int,(.str 4294967296),.int,.int,.int,.int,(.ae 3),(.ae 3),.int,.int,.int,.int,(.ae 3),(.ae 3)]),(1015,.vec .int),(1016,.row [.int,.bool,(.ae 361),(.ae 361),.int]),(1017,.row [.int,.int,(.ae 3),(.ae 373),(.ae 3),.int,.int]),(1018,.row [.int,.int,(.ae 377),.int]),(1019,.vec (.ae 3)),(1020,.row [.int,.int,.bool]),(1021,.row [.int,.int,.int,.int,.int]),(1022,.row [.int,.int,.int,.int,.int,.int]),(1023,.vec .int),(1024,.vec .int),(1025,.vec .int),(1026,.row [(.str 4294967296),.int,.int,(.ae 173)]),(1027,.row [.int,(.ae 1028),.int,(.ae 3),.int,.int,.int]),(1029,.row [.int,.int,.int,.int,(.ae 1030),.int,.int,.int,(.ae 3)]),(1031,.row [.int,(.ae 1032),.int,.int,.int,.int]),(1033,.row [.int,.int,.int,.int,.int,(.str 4294967296),.int,(.ae 100),.int,(.str 4294967296),.int,(.ae 100),(.ae 100),.int,.int,.int,.int,(.ae 3),(.ae 3),.bool])]
def agr:List (Nat×Nat):=[(88,10000),(95,400000000),(223,1000),(361,5000),(373,5000),(377,5000),(1004,281474976710656),(1005,4194304),(1006,4194304),(1007,4194304),(1008,4194304),(1009,1000),(1011,4000),(1012,5000),(1014,32),(1016,32),(1027,1000),(1029,1000000000),(1031,400000000)]
def ab3:bH:=[1014,1015,1016,1017,1018,1019,1020,1021,1022,1023,1024,1025,1026,1033]
def BA:List (Nat×List Ty):=[(3,[(.ae 1005)]),(109,[(.ae 1006)]),(361,[(.ae 1007)]),(88,[(.ae 1008)]),(1009,[(.ae 3)]),(1011,[(.ae 3)]),(1012,[(.ae 88)]),(1014,[(.ae 184)]),(1015,[(.ae 3)]),(1016,[(.ae 187)]),(1017,[(.ae 196)]),(1018,[(.ae 203)]),(1019,[(.ae 67)]),(1020,[(.ae 208)]),(1021,[(.ae 283)]),(1022,[(.ae 213)]),(1023,[(.ae 3)]),(1024,[(.ae 3)]),(1025,[(.ae 3)]),(1026,[(.ae 130)]),(1027,[(.ae 223)]),(1031,[(.ae 95)]),(1033,[(.ae 173)]),(1028,[.nat,.int]),(1034,[(.ae 1028),.nat,.int]),(1032,[.nat,.int]),(1030,[.nat,.int]),(1035,[.nat,.int]),(1036,[.nat,.int]),(1037,[.nat,.int]),(1038,[.nat,.int]),(1039,[.nat,.int]),(1040,[.nat,.int]),(1041,[.nat,.int]),(1042,[.nat,.int]),(1043,[.nat,.int]),(1044,[.nat,.int])]
def lk{α:Type}(d:α)(k:Nat):List (Nat×α)->α
 |[]=>d|(j,a)::r=>if Nat.beq j k then a else lk d k r
def ZL:List (Nat×List (Nat×bH)):=[(1027,[(0,[1,3])]),(1033,[(5,[0,1,2])])]
def am:Tb where
 tk k:=lk .no k aob
 cap k:=lk 1048576 k agr
 free k:= ! ab3.any (Nat.beq k)
 sup k:=lk [] k BA
 inr:=[(1039,1018),(1044,1023),(1043,1022),(1040,1019),(1037,1014),(1037,1016),(1038,1017),(1035,1025),(1034,1024),(1034,1026),(1041,1020),(1042,1021),(1036,1015),(1028,1024),(1028,1026)]
 Vs:=[(1028,1026)]
 ma k:=lk [] k ZL
 VI:=[(0,[(.ae 1034),(.ae 1025)])]
 xP:=[(0,[0],0),(1,[3],0),(2,[1],0),(3,[20,21],1),(4,[20],0),(5,[0],0),(6,[0],0),(7,[0],0),(8,[11],0),(9,[3],0),(10,[23],1),(11,[20],0),(12,[3],0),(13,[3],0),(14,[3],0),(15,[3],0),(16,[4],0),(17,[18],0),(18,[9],0)]
 rt:=[(5,0,1,1,(.ae 1035)),(5,0,2,1,(.ae 1036)),(5,0,3,1,(.ae 1035)),(5,0,3,2,(.ae 1041)),(5,0,7,1,(.ae 1037)),(5,0,8,1,(.ae 1037)),(5,0,9,1,(.ae 1038)),(5,0,10,1,(.ae 1038)),(5,0,10,2,(.ae 1035)),(5,0,11,1,(.ae 1039)),(5,0,12,1,(.ae 1040)),(5,0,13,1,(.ae 1040)),(5,0,14,1,(.ae 1030)),(5,0,16,1,(.ae 1042)),(5,0,17,1,(.ae 1043)),(5,0,18,1,(.ae 1044))]
abbrev Y1:Nat:=1009
abbrev Y0:Nat:=1012
abbrev OX:Nat:=1014
abbrev TF:Nat:=1015
abbrev TC:Nat:=1016
abbrev TD:Nat:=1017
abbrev Tx:Nat:=1018
abbrev TB:Nat:=1019
abbrev Y2:Nat:=1020
abbrev TE:Nat:=1021
abbrev TA:Nat:=1022
abbrev Tz:Nat:=1023
abbrev YZ:Nat:=1024
abbrev bQ:Nat:=1025
abbrev gq:Nat:=1026
abbrev gG:Nat:=1027
abbrev og:Nat:=1028
abbrev mI:Nat:=1030
abbrev H5:Nat:=1032
abbrev jE:Nat:=1034
abbrev eS:Nat:=1035
abbrev am7:Nat:=1036
abbrev ahz:Nat:=1037
abbrev am5:Nat:=1038
abbrev am1:Nat:=1039
abbrev am4:Nat:=1040
abbrev ahA:Nat:=1041
abbrev am6:Nat:=1042
abbrev am3:Nat:=1043
abbrev am2:Nat:=1044
def sj:bH:=[OX,TF,TC,TD,Tx,TB,Y2,TE,TA,Tz,YZ,bQ,gq]
def bs(l:List UInt8):ByteArray:=⟨l.toArray⟩
@[simp] def apz(l:List UInt8):(bs l).data.toList=l:=rfl
def toList_eq(x:ByteArray):x.toList=x.data.toList:=by exact ByteArray.toList_eq x
@[simp] def UH(l:List UInt8):(bs l).toList=l:=by rw[toList_eq];rfl
@[simp] def apA(l:List UInt8):(bs l).size=l.length:=by simp[bs,ByteArray.size]
def agp(a b:List UInt8):bs a++bs b=bs (a++b):=by apply ByteArray.ext;rw[ByteArray.data_append];simp[bs]
def rE{n:Nat}(h:n<340282366920938463463374607431768211456):∃k,fg=k+n+1:=⟨fg-n-1,by unfold fg;omega⟩
abbrev Bs:=List UInt8
def au6{α:Type}(f:α->ab)(xs:List α):Sc:= .l (xs.map fun x=> .l (f x))
def amX(xs:Dk):Sc:= .l (xs.map .i)
def anY(xs:List Bs):Sc:= .l (xs.map fun x=> .s (bs x))
abbrev LBs:=List Bs
def ahH{α:Type}{xs:List α}{i:Nat}{x:α}(h:xs[i]? =some x):i<xs.length:=(kK.1 h).1
def wd(l:bH):Bs:=l.map UInt8.ofNat
def asi(ρ:ab)(l:bH):Ex.ev ρ (.s l)= .s (bs (wd l)):=rfl
section
variable(ρ:ab)
def asl(n:Nat):Ex.ev ρ (.v n)=ρ.getD n (.i 0):=rfl
def asg(z:Int):Ex.ev ρ (.i z)= .i z:=rfl
def asf(x:Bool):Ex.ev ρ (.b x)= .b x:=rfl
def agB:Ex.ev ρ .nil= .l []:=rfl
def ask(f:U1)(x:Ex):Ex.ev ρ (.u f x)=f.ev (x.ev ρ):=rfl
def ash(f:U2)(x y:Ex):Ex.ev ρ (.o f x y)=f.ev (x.ev ρ) (y.ev ρ):=rfl
def asj(f:U3)(x y z:Ex):Ex.ev ρ (.t f x y z)=f.ev (x.ev ρ) (y.ev ρ) (z.ev ρ):=rfl
end
def aio(k:IntKind)(a:Int):U1.ev (.conv k) (.i a)= .i (k.wrap a):=rfl
def ape(b:Bool):U1.ev .not (.b b)= .b (!b):=rfl
def apd(x:Sc):U1.ev .len x= .i x.list.length:=rfl
def aiq(a:Bs):U1.ev .iN (.s (bs a))= .i a.length:=by simp[U1.ev]
def ain(n:Nat)(x:Sc):U1.ev (.cell n) x=x.list.getD n (.i 0):=rfl
def anj(k:IntKind)(a b:Int):U2.ev (.add k) (.i a) (.i b)= .i (k.wrap (a+b)):=rfl
def anw(k:IntKind)(a b:Int):U2.ev (.sub k) (.i a) (.i b)= .i (k.wrap (a-b)):=rfl
def ant(k:IntKind)(a b:Int):U2.ev (.mul k) (.i a) (.i b)= .i (k.wrap (a*b)):=rfl
def aeT(a b:Int):U2.ev .max (.i a) (.i b)= .i (if b>a then b else a):=rfl
def Zv(a b:Int):U2.ev .min (.i a) (.i b)= .i (if b<a then b else a):=rfl
def auT(a b:Int):U2.ev .eq (.i a) (.i b)= .b (decide (a=b)):=by simp[U2.ev];rfl
def anu(a b:Int):U2.ev .ne (.i a) (.i b)= .b (decide (a≠b)):=by simp[U2.ev];rfl
def anr(a b:Int):U2.ev .lt (.i a) (.i b)= .b (decide (a<b)):=id rfl
def anq(a b:Int):U2.ev .le (.i a) (.i b)= .b (decide (a<=b)):=id rfl
def KR(z:Int):(Sc.i z).int=z:=id rfl
def LQ(z:Bool):(Sc.b z).bool=z:=id rfl
def Ic(z:ab):(Sc.l z).list=z:=id rfl
def anm(a b:Bool):U2.ev .beq (.b a) (.b b)= .b (a==b):=rfl
def ann(a b:Bool):U2.ev .bne (.b a) (.b b)= .b (a !=b):=rfl
def ank(a b:Bool):U2.ev .and (.b a) (.b b)= .b (a&&b):=rfl
def auU(a b:Bool):U2.ev .or (.b a) (.b b)= .b (a||b):=rfl
def anv(a b:Bs):U2.ev .seq (.s (bs a)) (.s (bs b))= .b (decide (a=b)):=by
 simp only[U2.ev,Sc.PG,UH];by_cases h:a=b
 ·subst h;simp
 ·simp[h]
def ano(a b:Bs):U2.ev .cat (.s (bs a)) (.s (bs b))= .s (bs (a++b)):=by simp only[U2.ev,Sc.PG,agp]
def ahR(a:Bs)(i:Nat):U2.ev .qG (.s (bs a)) (.i (i:Int))= .i ((a.getD i 0).toNat):=rfl
def acK(a:Bs):U2.ev .qG (.s (bs a)) (.i 0)= .i ((a.getD 0 0).toNat):=rfl
def ahS(x y:Sc):U2.ev .gx x y= .l (x.list++[y]):=rfl
def anl(x y:Sc):U2.ev .app x y= .l (x.list++y.list):=rfl
def anp(x:Sc)(i:Int):U2.ev .idx x (.i i)=x.list.getD i.toNat (.i 0):=rfl
def ahQ(x y:Sc):U2.ev .cons x y= .l (x::y.list):=rfl
def ans(n:Nat)(x y:Sc):U2.ev (.mem n) x y= .b (x.list.any fun k=>ef n k y):=rfl
def ahP(n:Nat)(x y:Sc):U2.ev (.BS n) x y= .l (if x.list.any fun k=>ef n k y then x.list else x.list++[y]):=rfl
def an2(c:Bool)(x y:Sc):U3.ev .ite (.b c) x y=if c then x else y:=rfl
def R3(x:Sc)(i j:Int):U3.ev .iM x (.i i) (.i j)= .l ((x.list.take j.toNat).drop i.toNat):=rfl
def E3(x z:Sc)(i:Int):U3.ev .mu x (.i i) z= .l (x.list.set i.toNat z):=rfl
def Zb{α:Type}(f:α->ab)(xs:List α):(au6 f xs).list=xs.map fun x=> .l (f x):=rfl
def Vu(xs:Dk):(amX xs).list=xs.map .i:=rfl
def Vv(xs:LBs):(anY xs).list=xs.map fun x=> .s (bs x):=rfl
def ah9{α β:Type}{f:α->β}{xs:List α}{i:Nat}{x:α}(h:xs[i]? =some x)(d:β):(xs.map f).getD i d=f x:=by simp[cE,h]
def bW(o:Option ab)(Q:ab->Prop):Prop:=∃r,o=some r/\Q r
def bW.some{r:ab}{Q:ab->Prop}(h:Q r):bW (some r) Q:=⟨r,rfl,h⟩
def bW.mono{o:Option ab}{Q R:ab->Prop}(h:bW o Q)(hQ:∀r,Q r->R r):bW o R:=by obtain⟨r,h1,h2⟩:=h;exact⟨r,h1,hQ r h2⟩
def KZ{S:Type}{g:dK->dK}{Q:ab->Prop}(enc:Nat->S->ab)(I:Nat->S->Prop)(n:Nat)(hs:∀i s rec,i<n->I i s->(∀s',I (i+1) s'->bW (rec (enc (i+1) s')) Q)->bW (g rec (enc i s)) Q)(hf:∀s rec,I n s->bW (g rec (enc n s)) Q):∀(d i k:Nat)(s:S),i+d=n->I i s->bW (cH g (k+d+1) (enc i s)) Q
 |0,i,k,s,h,hI=>by
  have h:i=n:=by omega
  subst h;exact hf s _ hI
 |d+1,i,k,s,h,hI=>hs i s _ (by omega) hI fun s' hI'=>KZ enc I n hs hf d (i+1) k s' (by omega) hI'
def dv{S:Type}{g:dK->dK}{Q:ab->Prop}(enc:Nat->S->ab)(I:Nat->S->Prop)(n:Nat){s:S}{v:ab}(hv:v=enc 0 s)(hn:n<340282366920938463463374607431768211456)(h0:I 0 s)(hs:∀i s rec,i<n->I i s->(∀s',I (i+1) s'->bW (rec (enc (i+1) s')) Q)->bW (g rec (enc i s)) Q)(hf:∀s rec,I n s->bW (g rec (enc n s)) Q):bW (cH g fg v) Q:=by obtain⟨k,hk⟩:=rE hn;rw[hk,hv];exact KZ enc I n hs hf n 0 k s (by omega) h0
def Ux(o:Option ab)(A:Prop):Prop:=∃b:Bool,o=some [.b b]/\(b=true->A)
def Ux.no{A:Prop}:Ux (Option.some [Sc.b false]) A:=⟨false,rfl,nofun⟩
def Ux.yes{b:Bool}{A:Prop}(h:b=true->A):Ux (Option.some [Sc.b b]) A:=⟨b,rfl,h⟩
def Zg{g:dK->dK}{A:Prop}{S:Type}(enc:Nat->S->ab)(I:Nat->S->Prop)(n:Nat){s:S}{v:ab}(hv:v=enc 0 s)(hn:n<340282366920938463463374607431768211456)(h0:I 0 s)(hs:∀i s rec,i<n->I i s->(∀s',I (i+1) s'->Ux (rec (enc (i+1) s')) A)->Ux (g rec (enc i s)) A)(hf:∀s rec,I n s->Ux (g rec (enc n s)) A):Ux (cH g fg v) A:=by
 have:bW (cH g fg v) fun r=>∃z:Bool,r=[.b z]/\(z=true->A):=by
  refine dv enc I n hv hn h0 (fun i s rec hi hI hr=> ?_) (fun s rec hI=> ?_)
  ·obtain⟨z,h1,h2⟩:=hs i s rec hi hI (fun s' hI'=>by obtain⟨_,h1,z,rfl,h2⟩:=hr s' hI';exact⟨z,h1,h2⟩)
   exact⟨_,h1,z,rfl,h2⟩
  ·obtain⟨z,h1,h2⟩:=hf s rec hI;exact⟨_,h1,z,rfl,h2⟩
 obtain⟨_,h1,z,rfl,h2⟩:=this;exact⟨z,h1,h2⟩
def bW.ite{c:Prop}[Decidable c]{a b:Option ab}{A:ab->Prop}(h1:c->bW a A)(h2:¬c->bW b A):bW (if c then a else b) A:=by
 split
 ·exact h1 ‹_›
 ·exact h2 ‹_›
def Lx{α:Type}(p:α->Prop)(xs:List α)(i:Nat):Prop:=∀(j:Nat)(x:α),j<i->xs[j]? =some x->p x
def Lx.zero{α:Type}{p:α->Prop}{xs:List α}:Lx p xs 0:=fun _ _ h=>by omega
def Lx.succ{α:Type}{p:α->Prop}{xs:List α}{i:Nat}{x:α}(h:Lx p xs i)(hx:xs[i]? =some x)(hp:p x):Lx p xs (i+1):=fun j y hj hy=>by
 rcases qe.1 hj with hj|rfl
 ·exact h j y hj hy
 ·rw[hx]at hy;cases hy;exact hp
def Lx.all{α:Type}{p:α->Prop}{xs:List α}(h:Lx p xs xs.length):∀x∈xs,p x:=fun x hx=>by obtain⟨j,hj⟩:=mem_iff_getElem?.1 hx;exact h j x (ahH hj) hj
abbrev EL:=bZ
abbrev TL:=T EL
instance (n:Nat):OfNat Ex n:=⟨.v n⟩
def vsE(l:bH):bZ:=l.map .v
def kc(e:Ex)(l:bH):bZ:=l.map fun i=> .u (.cell i) e
def dY:bZ->Ex->Ex
 |[],t=>t|a::r,t=> .o .cons a (dY r t)
def cn(x y:Ex):Ex:= .o .eq x y
def ib(x y:Ex):Ex:= .o .ne x y
def az(x y:Ex):Ex:= .o .le x y
def aB(x y:Ex):Ex:= .o .lt x y
def bE(x y:Ex):Ex:= .o .idx x y
def eX(x:Ex):Ex:= .o (.add .i64) x (.i 1)
def ao(x:Ex):Ex:= .u .len x
def qc(x:Ex):Ex:= .u .not x
def bw(n:Nat)(x:Ex):Ex:= .u (.cell n) x
def alh:=And.intro @natCast_nonneg<|And.intro @bne_iff_ne.{0}<|And.intro @AO<|And.intro @ne_eq.{1}<|And.intro @ei<|And.intro @aL<|And.intro @bY<|And.intro @NC<|And.intro @LB<|And.intro @beq_eq_false_iff_ne.{0}<|And.intro @bne_eq_false_iff_eq.{0}<|And.intro @not_true_eq_false<|And.intro @not_false_eq_true<|And.intro @qO<|And.intro @na<|And.intro @and_true<|And.intro @true_and<|And.intro @and_false<|And.intro @false_and<|And.intro @AR<|And.intro @false_or<|And.intro @or_true<|And.intro @true_or<|And.intro @LD<|And.intro @Qe<|And.intro @AM<|And.intro @oe<|And.intro @Fe<|And.intro @rU<|And.intro @Bool.not_true<|And.intro @Bool.not_false<|And.intro @Bool.true_and<|And.intro @Bool.and_true<|And.intro @Bool.false_and<|And.intro @Bool.and_false<|And.intro @Bool.or_true<|And.intro @Bool.true_or<|And.intro @Bool.or_false<|And.intro @Bool.false_or<|And.intro @qM<|And.intro @Bool.true_eq_false<|And.intro @KR<|And.intro @LQ<|And.intro @Ic<|And.intro @Sc.PG<|And.intro @decide_true<|And.intro @decide_false<|And.intro @decide_not<|And.intro @eq_self.{1}<|And.intro @LE<|And.intro @getElem?_cons_zero.{0}<|And.intro @getElem?_cons_succ.{0}<|And.intro @beq_self_eq_true.{0} @bne_self_eq_false.{0}
def Ho:type_of%alh:=alh
def Zc:(0:Ex)= .v 0/\(1:Ex)= .v 1/\(2:Ex)= .v 2/\(3:Ex)= .v 3/\(4:Ex)= .v 4/\(5:Ex)= .v 5/\(6:Ex)= .v 6/\(7:Ex)= .v 7/\(8:Ex)= .v 8/\(9:Ex)= .v 9/\(10:Ex)= .v 10/\(11:Ex)= .v 11/\(12:Ex)= .v 12/\(13:Ex)= .v 13/\(14:Ex)= .v 14/\(15:Ex)= .v 15/\(16:Ex)= .v 16/\(17:Ex)= .v 17/\(18:Ex)= .v 18/\(19:Ex)= .v 19/\(20:Ex)= .v 20/\(21:Ex)= .v 21/\(22:Ex)= .v 22/\(23:Ex)= .v 23/\(24:Ex)= .v 24/\(25:Ex)= .v 25/\(26:Ex)= .v 26/\(27:Ex)= .v 27/\(28:Ex)= .v 28/\(29:Ex)= .v 29/\(30:Ex)= .v 30/\(31:Ex)= .v 31/\(32:Ex)= .v 32/\(33:Ex)= .v 33/\(34:Ex)= .v 34/\(35:Ex)= .v 35/\(36:Ex)= .v 36/\(37:Ex)= .v 37/\(38:Ex)= .v 38/\(39:Ex)= .v 39/\(40:Ex)= .v 40/\(41:Ex)= .v 41/\(42:Ex)= .v 42/\(43:Ex)= .v 43/\(44:Ex)= .v 44/\(45:Ex)= .v 45/\(46:Ex)= .v 46/\(47:Ex)= .v 47/\(48:Ex)= .v 48/\(49:Ex)= .v 49/\(50:Ex)= .v 50/\(51:Ex)= .v 51/\(52:Ex)= .v 52/\(53:Ex)= .v 53/\(54:Ex)= .v 54/\(55:Ex)= .v 55/\(56:Ex)= .v 56/\(57:Ex)= .v 57/\(58:Ex)= .v 58/\(59:Ex)= .v 59/\(60:Ex)= .v 60/\(61:Ex)= .v 61/\(62:Ex)= .v 62/\(63:Ex)= .v 63:=⟨rfl,rfl,rfl,rfl,rfl,rfl,rfl,rfl,rfl,rfl,rfl,rfl,rfl,rfl,rfl,rfl,rfl,rfl,rfl,rfl,rfl,rfl,rfl,rfl,rfl,rfl,rfl,rfl,rfl,rfl,rfl,rfl,rfl,rfl,rfl,rfl,rfl,rfl,rfl,rfl,rfl,rfl,rfl,rfl,rfl,rfl,rfl,rfl,rfl,rfl,rfl,rfl,rfl,rfl,rfl,rfl,rfl,rfl,rfl,rfl,rfl,rfl,rfl,rfl⟩
def auE:(∀t,dY [] t=t)/\(∀a r t,dY (a::r) t= .o .cons a (dY r t))/\(∀x y,cn x y= .o .eq x y)/\(∀x y,ib x y= .o .ne x y)/\(∀x y,az x y= .o .le x y)/\(∀x y,aB x y= .o .lt x y)/\(∀x y,bE x y= .o .idx x y)/\(∀x,eX x= .o (.add .i64) x (.i 1))/\(∀x,ao x= .u .len x)/\(∀x,qc x= .u .not x)/\(∀n x,bw n x= .u (.cell n) x):=⟨fun _=>rfl,fun _ _ _=>rfl,fun _ _=>rfl,fun _ _=>rfl,fun _ _=>rfl,fun _ _=>rfl,fun _ _=>rfl,fun _=>rfl,fun _=>rfl,fun _=>rfl,fun _ _=>rfl⟩
def ali:=And.intro Zc<|And.intro auE<|And.intro @T.aF.eq_1<|And.intro @T.aF.eq_2<|And.intro @T.aF.eq_3<|And.intro @T.aF.eq_4<|And.intro @T.aF.eq_5<|And.intro @T.aF.eq_6<|And.intro @T.aF.eq_7<|And.intro @vsE.eq_1<|And.intro @kc.eq_1<|And.intro @asl<|And.intro @asg<|And.intro @asf<|And.intro @asi<|And.intro @agB<|And.intro @ask<|And.intro @ash<|And.intro @asj<|And.intro @aio<|And.intro @ape<|And.intro @apd<|And.intro @aiq<|And.intro @ain<|And.intro @anj<|And.intro @anw<|And.intro @auT<|And.intro @anu<|And.intro @anr<|And.intro @anq<|And.intro @anm<|And.intro @ann<|And.intro @ank<|And.intro @auU<|And.intro @anv<|And.intro @ano<|And.intro @ahR<|And.intro @acK<|And.intro @ahS<|And.intro @anl<|And.intro @anp<|And.intro @ahQ<|And.intro @ans<|And.intro @ahP<|And.intro @an2<|And.intro @Zb<|And.intro @Vu<|And.intro @Vv<|And.intro @Ab<|And.intro @jQ<|And.intro @map_nil.{0,0}<|And.intro @om<|And.intro @toNat_zero Ho
def aT:type_of%ali:=ali
end Go.Proofs.YtnfambhakdnncaaGreatDoor
