/-
  A part of the proof of TopText: SymN6, SymS.
-/
import Derived.Test.YtlklkgdaegncaaaGreatDoorZ04
import Derived.StillTail
import Derived.Lib.UnsafeStr
namespace Go.Proofs.YtlklkgdaegncaaaGreatDoor
set_option linter.unusedVariables false
set_option linter.unusedSimpArgs false
open List
open Nat
open Int
section
open Go.RowKit
section
variable {P:Program}{B:mC}{w0:World}{σ:St}{c:Ct}{a:Act}{w w':World}{o:Oper}{rd:Rd}
theorem afg {s x:Operand}{t t':TypeId}{r:il} (h:Y6 P rd s x t t'=some r):r.call=none:=by
 unfold Y6 at h
 repeat' (split at h)
 all_goals(first|(cases h;done)|(cases h;rfl))
theorem abn {s x:Operand}{t t':TypeId}{r:il} (h:MY P rd s x t t'=some r):r.call=none:=by
 unfold MY at h
 repeat' (split at h)
 all_goals(first|(cases h;done)|(cases h;rfl))
theorem ag4 {cons:nw}{cl:Call}{r:il} (h:KX P cons rd cl=some r) (hc:r.call≠none):
 ∃f g xs,cl.callee= .value f/\J0 P cons rd g xs=some r/\((rd.ev f= .c (.a (.fn g []))/\xs=cl.args.toList.map rd.ev)\/∃m b,rd.ev f= .c (.a (.fb g m b))/\xs= .at (aav m b)::cl.args.toList.map rd.ev):=by
 unfold KX at h
 split at h
 ·split at h
  ·split at h
   ·cases h;exact(hc rfl).elim
   ·cases h;exact(hc rfl).elim
   ·simp only[Option.map_eq_some_iff]at h;obtain⟨_,_,rfl⟩:=h;exact(hc rfl).elim
   ·cases h;exact(hc rfl).elim
   ·cases h
  ·cases h
 ·split at h
  ·split at h
   ·cases h;exact(hc rfl).elim
   ·cases h
  ·cases h
 ·exfalso
  repeat' (split at h)
  all_goals(first|(cases h;done)|(cases h;exact hc rfl))
 ·split at h
  ·split at h
   ·simp only[Option.map_eq_some_iff]at h;obtain⟨_,_,rfl⟩:=h;exact(hc rfl).elim
   ·cases h
  ·cases h
 ·split at h
  ·split at h
   ·simp only[Option.map_eq_some_iff]at h;obtain⟨_,_,rfl⟩:=h;exact(hc rfl).elim
   ·cases h
  ·cases h
 ·
  exfalso
  split at h<;>(try(cases h;done))
  split at h
  rotate_left
  ·split at h
   ·rename_i hz
    cases h
    exact hc (abn hz)
   ·exact hc (afg h)
  split at h<;>(try(cases h;done))
  split at h<;>(try(cases h;done))
  split at h<;>(try(cases h;done))
  split at h<;>(try(cases h;done))
  ·split at h<;>(try(cases h;done))
   split at h<;>(try(cases h;done))
   cases h;exact hc rfl
  ·cases h;exact hc rfl
 ·rename_i fo ab1
  split at h
  ·rename_i g he
   exact⟨fo,g,_,ab1,h,.inl ⟨he,rfl⟩⟩
  ·rename_i g m b he
   exact⟨fo,g,_,ab1,h,.inr ⟨m,b,he,rfl⟩⟩
  ·cases h
 ·cases h
theorem ajt (g:aX P B w0 σ c a w) (gY:MV σ c a rd){pl:uE}{cons:nw}{Γ:Nat->fF} (hΓ:∀dr∈cons,∀w,rM B.n B.X w0 w->dr.Yw P (Γ dr.key) B.lim w)
 {r:il} (h:ag5 P pl cons o rd=some r){f:Nat}{es:mA}{n:Nat} (hc:r.call=some (f,es,n)){rs:aP} (hF:Γ f (es.map (Ex.ev c.ρ))=some rs) (hρ:∀i,i<rs.length->c.ρ.getD (rd.nv+i) (.i 0)=rs.getD i (.i 0))
 (hR:∀i,i∈r.nr->c.R i=none):
 ∀(K:Act->World->Prop) (Q:Exit->Act->World->Prop),(∀v w' c',c.le c'->c'.β=c.β->(∀i,i∉r.nr->c'.R i=c.R i)->r.val.rel c' v->
  aX P B w0 {σ with aO:=di σ.aO r.aO,rows:=aH σ.rows r.rows} c' a w'->K (a.put o.dst v) w')->o.wp P a w K Q:=by
 unfold ag5 at h
 split at h
 rotate_left
 ·split at h
  ·split at h
   ·rename_i h1;cases h;rw[h1]at hc;cases hc
   ·cases h
  ·cases h
 rename_i cl ho
 obtain⟨fo,gg,xs,ab1,hcc,TH⟩:=ag4 h (by rw[hc];exact fun h=>by cases h)
 have hfv:=gY.ev fo
 have key:∀first:Array Value,a.eval fo= .func (.func gg) first #[]->xs.length=(first.toList++cl.args.toList.map a.eval).length->
  (∀i (h1:i<xs.length) (h2:i<(first.toList++cl.args.toList.map a.eval).length),(xs[i]).rel c ((first.toList++cl.args.toList.map a.eval)[i]))->
  ∀(K:Act->World->Prop) (Q:Exit->Act->World->Prop),(∀v w' c',c.le c'->c'.β=c.β->(∀i,i∉r.nr->c'.R i=c.R i)->r.val.rel c' v->
  aX P B w0 {σ with aO:=di σ.aO r.aO,rows:=aH σ.rows r.rows} c' a w'->K (a.put o.dst v) w')->o.wp P a w K Q:=by
  intro first Rt hl hx K Q hK
  have Z0:=ahM g gY hΓ hcc hc hF hρ hR hl hx
  have anF:(first.toList++cl.args.toList.map a.eval).toArray=first++cl.args.map a.eval:=by apply Array.ext';simp
  rw[anF]at Z0
  rcases Z0 with⟨jX,ah7⟩|⟨v,w',jX,c',h1,h2,h3,h4,h5⟩
  ·have sC:(execOp a.eval o).run P w= .ok (.enter gg (first++cl.args.map a.eval)) w:=by
    simp[execOp,ho,resolve,ab1,Rt,Deferred.ofValue,invoke,jX]
   unfold Oper.wp
   rw[sC]
   refine ah7.mono ?_
   rintro e w' ⟨v,rfl,c',h1,h2,h3,h4,h5⟩
   exact hK v w' c' h1 h2 h3 h4 h5
  ·have sC:(execOp a.eval o).run P w= .ok (.value v) w':=by
    simp[execOp,ho,resolve,ab1,Rt,Deferred.ofValue,invoke,jX]
   unfold Oper.wp
   rw[sC]
   exact hK v w' c' h1 h2 h3 h4 h5
 rcases TH with⟨he,rfl⟩|⟨m,b,he,rfl⟩
 ·rw[he]at hfv
  obtain⟨ns,hns,hfv⟩:=hfv
  have:ns=[]:=by cases ns with|nil=>rfl|cons=>simp at hns
  subst this
  exact key #[] (by rw[hfv];rfl) (by simp) (fun i h1 h2=>by simpa using gY.ev _)
 ·rw[he]at hfv
  obtain⟨nn,hb,hfv⟩:=hfv
  refine key #[acU m nn] hfv (by simp) (fun i h1 h2=> ?_)
  cases i with
  |zero=>cases m<;>exact⟨nn,hb,rfl⟩
  |succ i=>simpa using gY.ev _
end
abbrev Nx:=List (aP->Prop)
def T.wp (Γ:Nat->fF){L:Type}:T L->aP->Nx->(L->aP->Nx->Prop)->Prop
 | .aa x,ρ,N,Φ=>Φ x ρ N
 | .fail _,_,_,_=>False
 | .ite c p q,ρ,N,Φ=>if(c.ev ρ).bool=true then p.wp Γ ρ N Φ else q.wp Γ ρ N Φ
 | .ag c k,ρ,N,Φ=>(c.ev ρ).bool=true/\k.wp Γ ρ N Φ
 | .call f es n k,ρ,N,Φ=>∃rs,Γ f (es.map (Ex.ev ρ))=some rs/\rs.length=n/\k.wp Γ (ρ++rs) N Φ
 | .loop NL body,ρ,N,Φ=>∃(I:aP->Prop) (μ:aP->Nat),I (NL.map (Ex.ev ρ))/\
     ∀fY,fY.length=NL.length->I fY->body.wp Γ (ρ++fY) (N++[fun v=>I v/\μ v<μ fY]) Φ
 | .next l vs,ρ,N,_=>match N[l]? with|some J=>J (vs.map (Ex.ev ρ))|none=>False
section
variable {Γ:Nat->fF}{L M:Type}
theorem T.wp_mono:∀{t:T L}{ρ:aP}{N:Nx}{Φ Ψ:L->aP->Nx->Prop},t.wp Γ ρ N Φ->(∀x r n,Φ x (ρ++r) (N++n)->Ψ x (ρ++r) (N++n))->t.wp Γ ρ N Ψ
 | .aa x,ρ,N,Φ,Ψ,h,k=>by have:=k x [] [];simp only[append_nil]at this;exact this h
 | .fail _,_,_,_,_,h,_=>h
 | .ite c p q,ρ,N,Φ,Ψ,h,k=>by
   simp only[T.wp]at h⊢
   split
   ·rename_i hc;rw[if_pos hc]at h;exact T.wp_mono h k
   ·rename_i hc;rw[if_neg hc]at h;exact T.wp_mono h k
 | .ag c t,ρ,N,Φ,Ψ,h,k=>⟨h.1,T.wp_mono h.2 k⟩
 | .call f es n t,ρ,N,Φ,Ψ,⟨rs,h1,h2,h3⟩,k=>⟨rs,h1,h2,T.wp_mono h3 (fun x r n h=>by rw[append_assoc]at h⊢;exact k x _ n h)⟩
 | .loop NL t,ρ,N,Φ,Ψ,⟨I,μ,h1,h2⟩,k=>⟨I,μ,h1,fun fY hl hI=>T.wp_mono (h2 fY hl hI) (fun x r n h=>by rw[append_assoc,append_assoc]at h⊢;exact k x _ _ h)⟩
 | .next l vs,_,_,_,_,h,_=>h
theorem T.wp_bind:∀{t:T L}{f:L->T M}{ρ:aP}{N:Nx}{Φ:M->aP->Nx->Prop},(t.bind f).wp Γ ρ N Φ->t.wp Γ ρ N (fun x ρ' N'=>(f x).wp Γ ρ' N' Φ)
 | .aa x,f,ρ,N,Φ,h=>h
 | .fail _,_,_,_,_,h=>h
 | .ite c p q,f,ρ,N,Φ,h=>by
   simp only[T.wp,T.bind]at h⊢
   split
   ·rename_i hc;rw[if_pos hc]at h;exact T.wp_bind h
   ·rename_i hc;rw[if_neg hc]at h;exact T.wp_bind h
 | .ag c t,f,ρ,N,Φ,h=>⟨h.1,T.wp_bind h.2⟩
 | .call g es n t,f,ρ,N,Φ,⟨rs,h1,h2,h3⟩=>⟨rs,h1,h2,T.wp_bind h3⟩
 | .loop NL t,f,ρ,N,Φ,⟨I,μ,h1,h2⟩=>⟨I,μ,h1,fun fY hl hI=>T.wp_bind (h2 fY hl hI)⟩
 | .next l vs,_,_,_,_,h=>h
end
structure Ct.sub (c0 c:Ct):Prop where
 K:c.K=c0.K
 β:∀i n,c0.β i=some n->c.β i=some n
 R:∀i v,c0.R i=some v->c.R i=some v
theorem Ct.sub.refl (c:Ct):c.sub c:=⟨rfl,fun _ _ h=>h,fun _ _ h=>h⟩
theorem Ct.sub.trans {x y z:Ct} (h:x.sub y) (k:y.sub z):x.sub z:=⟨k.K.trans h.K,fun i n e=>k.β i n (h.β i n e),fun i n e=>k.R i n (h.R i n e)⟩
theorem Ct.le.sub {c c':Ct} (h:c.le c'):c.sub c':=⟨h.K,h.β,h.R⟩
structure Is (P:Program) (B:mC) (w0:World) (c0 c:Ct) (σ:St) (ρ:aP) (N:Nx) (a:Act) (w:World):Prop where
 sub:c0.sub c
 env:c.ρ=ρ
 dD:aX P B w0 σ c a w
 fresh:nZ σ c
 nv:σ.nv=ρ.length
 lv:σ.lv=N.length
theorem sS:∀(r:List (Nat×Option Bk)) (l:List (Option Bk)),l.length<=(di l r).length/\∀x∈r,x.1<(di l r).length
 |[],l=>⟨Nat.le_refl _,fun _ h=>by cases h⟩
 |(i,v)::r,l=>by
  have ih:=sS r (dH none l i v)
  have hl:=oY none l i v
  refine⟨by simp only[di];omega,fun x hx=> ?_⟩
  rcases mem_cons.1 hx with rfl|hx
  ·simp only[di];omega
  ·exact ih.2 x hx
theorem dP:∀(r:eJ) (l:List (Option Rw)),l.length<=(aH l r).length/\∀x∈r,x.1<(aH l r).length
 |[],l=>⟨Nat.le_refl _,fun _ h=>by cases h⟩
 |(i,v)::r,l=>by
  have ih:=dP r (dH none l i v)
  have hl:=oY none l i v
  refine⟨by simp only[aH];omega,fun x hx=> ?_⟩
  rcases mem_cons.1 hx with rfl|hx
  ·simp only[aH];omega
  ·exact ih.2 x hx
section
variable {P:Program}{B:mC}{w0:World}{σ:St}{c c0:Ct}{a:Act}{w:World}
def atI (r:il):Prop:=(∀i∈r.nb,∃k,(i,k)∈r.aO)/\(∀i∈r.nr,i∈r.rows.map (·.1))
theorem W4 (hf:nZ σ c){c':Ct}{r:il} (ho:atI r) (hβ:∀i,i∉r.nb->c'.β i=c.β i) (hR:∀i,i∉r.nr->c'.R i=c.R i) (dst:Option Tmp):nZ (σ.after dst r) c':=by
 have l1:=sS r.aO σ.aO
 have l2:=dP r.rows σ.rows
 refine⟨fun p hp=> ?_,fun q hq=> ?_⟩
 ·have hp:(di σ.aO r.aO).length<=p:=hp
  rw[hβ p (fun hm=>by
   obtain⟨k,hk⟩:=ho.1 p hm
   have:=l1.2 _ hk
   simp only at this;omega)]
  exact hf.β p (by omega)
 ·have hq:(aH σ.rows r.rows).length<=q:=hq
  rw[hR q (fun hm=>by
   obtain⟨x,hx,e⟩:=mem_map.1 (ho.2 q hm)
   have:=l2.2 _ hx
   rw[e]at this;omega)]
  exact hf.R q (by omega)
end
end
section
open Go.RowKit
section
variable {Γ:Nat->fF}{L:Type}
theorem D0 {k:T L}{ρ:aP}{N:Nx}{Φ:L->aP->Nx->Prop}:∀{cs:mA},(JF cs k).wp Γ ρ N Φ->(∀e∈cs,(e.ev ρ).bool=true)/\k.wp Γ ρ N Φ
 |[],h=>⟨fun _ h=>(by cases h),h⟩
 |x::cs,h=>by
  unfold JF at h
  split at h
  ·rename_i h1;cases h1
  ·rename_i h1;cases h1
   have:=D0 h
   exact⟨fun e he=>(mem_cons.1 he).elim (fun h=>by rw[h];rfl) (this.1 e),this.2⟩
  ·rename_i h1;cases h1
   exact h.2.elim
  ·rename_i h1;cases h1
   have:=D0 h.2
   exact⟨fun e he=>(mem_cons.1 he).elim (fun h'=>by rw[h'];exact h.1) (this.1 e),this.2⟩
theorem ac4 {b:Bool}{r:il}{k:il->T L}{ρ:aP}{N:Nx}{Φ:L->aP->Nx->Prop} (h:(RN b r k).wp Γ ρ N Φ):
 ∃sv,(k {r with val:=sv}).wp Γ ρ N Φ/\∀c v,c.ρ=ρ->r.val.rel c v->sv.rel c v:=by
 unfold RN at h
 split at h
 ·rename_i x hv
  refine⟨_,h,fun c v _ hr=> ?_⟩
  rw[hv]at hr;exact hr
 ·rename_i e hv _
  simp only[T.wp]at h
  by_cases hb:(e.ev ρ).bool=true
  ·rw[if_pos hb]at h
   refine⟨_,h,fun c v hc hr=> ?_⟩
   subst hc
   have hr:v= .bool (e.ev c.ρ).bool:=by rename_i h1;rw[h1]at hr;exact hr
   show v= .bool true
   rw[hr,hb]
  ·rw[if_neg hb]at h
   refine⟨_,h,fun c v hc hr=> ?_⟩
   subst hc
   have hr:v= .bool (e.ev c.ρ).bool:=by rename_i h1;rw[h1]at hr;exact hr
   show v= .bool false
   rw[hr];simpa using hb
 ·exact⟨r.val,h,fun _ _ _ hr=>hr⟩
end
section
variable {P:Program}{B:mC}{w0:World}{σ:St}{c c0:Ct}{a:Act}{w:World}{Γ:Nat->fF}
theorem OY {ops:iu}{o:Oper}{b:Bool} (h:DZ ops σ o=some b) (g:aX P B w0 σ c a w):Region.wanted o (yielded ops.toArray a.tmps)=b:=by
 unfold DZ at h
 unfold Region.wanted
 split at h
 ·rename_i hg;cases h;rw[hg]
 ·rename_i gi want hg
  rw[hg]
  simp only
  split at h
  ·rename_i t ht
   have hs:=g.aZ t
   have hy:yielded ops.toArray a.tmps gi=match a.tmps[t]? with|some (.bool b)=>some b|_=>none:=by
    unfold yielded
    rw[getElem?_toArray,ht];rfl
   rw[hy]
   split at h
   ·rename_i x hx
    cases h
    rw[hx]at hs
    have hs:a.tmps.getD t undef= .bool x:=hs
    cases ha:a.tmps[t]? with
    |none=>simp[ha,undef]at hs
    |some v=>simp[ha]at hs;subst hs;simp only;cases x<;>cases want<;>rfl
   ·rename_i hx
    cases h
    rw[hx]at hs
    obtain⟨vs,hv,_⟩:=hs
    cases ha:a.tmps[t]? with
    |none=>rfl
    |some v=>simp[ha]at hv;subst hv;rfl
   ·cases h
  ·cases h
structure Bd.ok (P:Program) (b:Bd):Prop where
 cc:∀(n:Nat) (p y:Value) (zs:dm) (ty:TypeId) (w:World),b.has ty (zs.length+2)=true->w.heap[n]? =some (.cells (p::y::zs).toArray ty (0,0))->(p= .pointer none\/p= .pointer (some ⟨n,0,none⟩))->
  Calls P b.cc #[.pointer (some ⟨n,0,none⟩)] w fun e w'=>e= .returned (.tuple #[])/\w'.heap.size=w.heap.size/\w'.heap[n]? =some (.cells (.pointer (some ⟨n,0,none⟩)::y::zs).toArray ty (0,0))/\(∀m,m≠n->w'.heap[m]? =w.heap[m]?)/\∀B w0,Below B w0 w->B<=n->Below B w0 w'
 sf:∀(n g cap:Nat) (p:Value) (zs:dm) (ty:TypeId) (l:List UInt8) (cur:Array Value) (w:World),b.has ty (zs.length+2)=true->l≠[]->w.heap[n]? =some (.cells (p:: .slice (some ⟨g,0,none⟩) l.length cap::zs).toArray ty (0,0))->
  w.heap[g]? =some (.cells cur b.bt (0,0))->l.length<=cap->cap<=maxLen->cur.size=cap->cur.toList.take l.length=Lib.byteCells l->
  Calls P b.sf #[.pointer (some ⟨n,0,none⟩)] w fun e w'=>e= .returned (.string ⟨l.toArray⟩)/\w'.heap.size=w.heap.size/\(∀m,m≠g->w'.heap[m]? =w.heap[m]?)/\∀B w0,Below B w0 w->B<=g->Below B w0 w'
def amv (P:Program) (f:FuncId) (ty:TypeId):Prop:=
 ∀(g:FuncId) (mR:Array Value) (w:World) (R:World->Prop),(∀w1,(callFunc g mR).run P w1= .ok (.enter g mR) w1)->
  Calls P g mR {w with heap:=w.heap.push (.cells #[.int .i64 0] ty (0,0))} (fun e w'=>(∃v,e= .returned v)/\(∃x,w'.heap[w.heap.size]? =some (.cells #[x] ty (0,0)))/\R w')->
  Calls P f #[.func (.func g) #[] mR] w fun e w2=>∃w',R w'/\e= .returned (.int .i64 0)/\w2={w' with heap:=w'.heap.setIfInBounds w.heap.size (.cells #[.int .i64 0] ty (0,0))}
structure Cx.ok (X:Cx) (Γ:Nat->fF) (B:mC) (w0:World):Prop where
 mixed:X.P.follows .mixedOrders=true
 pl:DC X.P X.pl
 cons:∀dr∈X.cons,∀w,rM B.n B.X w0 w->dr.Yw X.P (Γ dr.key) B.lim w
 ins:∀f,oQ X.ins f=true->∀args w,(callFunc f args).run X.P w= .ok (.enter f args) w
 bd:∀b,X.bd=some b->b.ok X.P
 att:∀f ty,X.att=some (f,ty)->amv X.P f ty
theorem pV {l:jl}{n:Nat}:oQ l n=true↔n∈l:=by
 unfold oQ
 rw[any_eq_true]
 constructor
 ·rintro⟨x,hx,e⟩;rw[eq_of_beq_eq_true e];exact hx
 ·intro h;exact⟨n,h,beq_refl n⟩
theorem SD {σ:St}{c':Ct}{o:Oper}{r:il}{sv:SV}{v:Value}{ρ':aP}{N:Nx}{w':World} (Cz:c0.sub c') (EH:c'.ρ=ρ') (hg:aX P B w0 {σ with aO:=di σ.aO r.aO,rows:=aH σ.rows r.rows} c' a w') (hf:nZ (σ.after o.dst r) c')
 (hn:(σ.after o.dst r).nv=ρ'.length) (hl:σ.lv=N.length) (hv:sv.rel c' v):Is P B w0 c0 c' (σ.after o.dst {r with val:=sv}) ρ' N (a.put o.dst v) w':=by
 have:=hg.put hv o.dst
 refine⟨Cz,EH,?_,⟨hf.β,hf.R⟩,hn,hl⟩
 cases hd:o.dst with
 |none=>rw[hd]at this;simp only[St.after];exact⟨this.below,this.hB,this.defers,this.size,this.aZ,this.aO,this.rows,this.apart⟩
 |some d=>rw[hd]at this;simp only[St.after];exact⟨this.below,this.hB,this.defers,this.size,this.aZ,this.aO,this.rows,this.apart⟩
theorem ai2 {X:Cx} (hX:X.ok Γ B w0){ops:iu}{o:Oper}{ρ:aP}{N:Nx} (hi:Is X.P B w0 c0 c σ ρ N a w){r:il} (hr:LV X ops σ o=some r){L:Type}{k:T L}{Φ:L->aP->Nx->Prop} (h:(aqs r k).wp Γ ρ N Φ):
 ∃ρ',(∃r0,ρ'=ρ++r0)/\k.wp Γ ρ' N Φ/\∀(K:Act->World->Prop) (Q:Exit->Act->World->Prop),
  (∀c' v w',c'.ρ=ρ'->r.val.rel c' v->(∀sv,sv.rel c' v->Is X.P B w0 c0 c' (σ.after o.dst {r with val:=sv}) ρ' N (a.put o.dst v) w')->K (a.put o.dst v) w')->o.wp X.P a w K Q:=by
 unfold LV at hr
 split at hr
 rotate_left
 ·cases hr
 rename_i r' af8
 split at hr
 rotate_left
 ·cases hr
 rename_i hc
 cases hr
 simp only[Bool.and_eq_true]at hc
 obtain⟨af0,VS⟩:=hc
 simp only[ZN,Bool.and_eq_true,all_eq_true,any_eq_true]at af0
 obtain⟨hgb,hgr⟩:=af0
 have hnb:∀i∈r.nb,i=σ.aO.length:=fun i hi=>eq_of_beq_eq_true (hgb i hi).1
 have hnr:∀i∈r.nr,σ.rows.length<=i:=fun i hi=>le_of_ble_eq_true (hgr i hi).1
 have an7:atI r:=⟨fun i hi=>by
  obtain⟨x,hx,e⟩:=(hgb i hi).2
  exact⟨x.2,by rw[<-eq_of_beq_eq_true e];exact hx⟩,fun i hi=>by
  obtain⟨x,hx,e⟩:=(hgr i hi).2
  exact mem_map.2 ⟨x,hx,eq_of_beq_eq_true e⟩⟩
 obtain⟨VP,h⟩:=D0 h
 have anU:r.call=none\/∃f es n,r.call=some (f,es,n):=by cases r.call with|none=>exact .inl rfl|some x=>exact .inr ⟨x.1,x.2.1,x.2.2,rfl⟩
 rcases anU with dU|⟨f,es,n,dU⟩
 ·rw[dU]at h
  refine⟨ρ,⟨[],by simp⟩,h,fun K Q hK=> ?_⟩
  have EH:=hi.env
  subst EH
  obtain⟨nx,w',v,c',jX,hnx,hle,hβ,hR,i8,aib⟩:=auz (o:=o) hX.pl hi.dD (Ui hi.dD _ _ _ _ _ _) (fun i bN=>hi.fresh.β i (by rw[hnb i bN];exact Nat.le_refl _)) (fun i bN=>hi.fresh.R i (hnr i bN)) af8 dU VP
  have ur:nZ (σ.after o.dst r) c':=W4 hi.fresh an7 hβ hR o.dst
  have aoa:K (a.put o.dst v) w':=hK c' v w' hle.ρ i8 (fun sv LO=>SD (hi.sub.trans hle.sub) hle.ρ aib ur (by simp only[St.after,dU];exact hi.nv) hi.lv LO)
  unfold Oper.wp
  rw[jX]
  rcases hnx with rfl|⟨rfl,rfl⟩
  ·exact aoa
  ·exact aoa
 ·rw[dU]at h
  simp only at h
  simp only[adu,dU,Bool.and_eq_true]at VS
  obtain⟨VS,aDn⟩:=VS
  obtain⟨rs,hF,hlen,h⟩:=h
  refine⟨ρ++rs,⟨rs,rfl⟩,h,fun K Q hK=> ?_⟩
  have EH:=hi.env
  subst EH
  have X4:∀i,i<σ.nv->(c.ρ++rs).getD i (.i 0)=c.ρ.getD i (.i 0):=fun i h=>bj _ _ _ _ (by rw[<-hi.nv];exact h)
  have g2:aX X.P B w0 σ {c with ρ:=c.ρ++rs} a w:=hi.dD.env VS X4
  have hes:es.map (Ex.ev (c.ρ++rs))=es.map (Ex.ev c.ρ):=OC X4 aDn
  refine ajt (o:=o) g2 (Ui g2 _ _ _ _ _ _) hX.cons af8 dU (rs:=rs) (by rw[hes];exact hF) (fun i bN=>by
   show(c.ρ++rs).getD (σ.nv+i) (.i 0)=_
   rw[hi.nv,getD_eq_getElem?_getD,getElem?_append_right (by omega),Nat.add_sub_cancel_left,<-getD_eq_getElem?_getD]) (fun i bN=>hi.fresh.R i (hnr i bN)) K Q ?_
  intro v w' c' hle hβ hR i8 aib
  have ur:nZ (σ.after o.dst r) c':=W4 (c:={c with ρ:=c.ρ++rs}) ⟨hi.fresh.β,hi.fresh.R⟩ an7 (fun i _=>by rw[hβ]) hR o.dst
  exact hK c' v w' hle.ρ i8 (fun sv LO=>SD (hi.sub.trans ⟨hle.K,hle.β,hle.R⟩) hle.ρ aib ur (by simp only[St.after,dU,length_append,<-hi.nv,hlen]) hi.lv LO)
theorem aX.aw6 {σ σ':St}{c c':Ct}{a:Act}{w w':World} (g':aX P B w0 {σ' with aZ:=[]} c' a w') (g:aX P B w0 σ c a w) (hu:σ.under=true) (Cz:c.sub c'){ρ':aP} (EH:c'.ρ=ρ'){r:aP} (hρ:ρ'=c.ρ++r) (hnv:σ.nv=c.ρ.length):
 aX P B w0 {σ' with aZ:=σ.aZ} c' a w':=by
 refine⟨g'.below,g'.hB,g.defers,g.size,fun t=> ?_,g'.aO,g'.rows,g'.apart⟩
 have g2:=g.env hu (ρ':=ρ') (fun i hi=>by rw[hρ];exact bj _ _ _ _ (by omega))
 exact SV.v7 (c:={c with ρ:=ρ'}) ⟨EH,Cz.K,Cz.β,Cz.R⟩ (g2.aZ t)
theorem aip {X:Cx}{rd:Rd}{o:Oper}{g:Nat}{xs:List SV} (h:aov X rd o=some (g,xs)):
 ∃cl fo,o.op= .call cl/\cl.callee= .value fo/\oQ X.ins g=true/\((∃mR,rd.ev fo= .c (.a (.fn g mR))/\xs=cl.args.toList.map rd.ev++mR.map fun p=>SV.at (.ptr p 0))\/
  ∃m b,rd.ev fo= .c (.a (.fb g m b))/\xs=SV.at (aav m b)::cl.args.toList.map rd.ev):=by
 unfold aov at h
 split at h
 ·rename_i cl ho
  split at h
  ·rename_i fo hc
   split at h
   ·rename_i g' mR Ae
    split at h
    ·cases h
    ·split at h
     ·cases h
     ·rename_i Ru
      simp only[Option.some.injEq,Prod.mk.injEq]at h
      obtain⟨rfl,rfl⟩:=h
      exact⟨cl,fo,ho,hc,by simpa using Ru,.inl ⟨mR,Ae,rfl⟩⟩
   ·rename_i g' m b Ae
    split at h
    ·cases h
    ·split at h
     ·cases h
     ·rename_i Ru
      simp only[Option.some.injEq,Prod.mk.injEq]at h
      obtain⟨rfl,rfl⟩:=h
      exact⟨cl,fo,ho,hc,by simpa using Ru,.inr ⟨m,b,Ae,rfl⟩⟩
   ·cases h
  ·cases h
 ·cases h
theorem alk {P:Program}{B:mC}{w0:World}{σ:St}{c:Ct}{a:Act}{w:World}{o:Oper}{ts ds ls:jl}{nv nb nr:Nat} (g0:aX P B w0 σ c a w){cl:Call}{fo:Operand}{g:Nat}{xs:List SV} (ho:o.op= .call cl) (ab1:cl.callee= .value fo) (Ru:∀args w,(callFunc g args).run P w= .ok (.enter g args) w)
 (h:(∃mR,(Yb σ.slot σ.blk σ.row ts ds ls nv nb nr).ev fo= .c (.a (.fn g mR))/\xs=cl.args.toList.map (Yb σ.slot σ.blk σ.row ts ds ls nv nb nr).ev++mR.map fun p=>SV.at (.ptr p 0))\/
   ∃m b,(Yb σ.slot σ.blk σ.row ts ds ls nv nb nr).ev fo= .c (.a (.fb g m b))/\xs=SV.at (aav m b)::cl.args.toList.map (Yb σ.slot σ.blk σ.row ts ds ls nv nb nr).ev):
 ∃vs:dm,(execOp a.eval o).run P w= .ok (.enter g vs.toArray) w/\xs.length=vs.length/\∀i (h1:i<xs.length) (h2:i<vs.length),(xs[i]).rel c (vs[i]):=by
 have gY:=Ui g0 ts ds ls nv nb nr
 have hf:=gY.ev fo
 rcases h with⟨mR,Ae,TH⟩|⟨m,b,Ae,TH⟩
 ·rw[Ae]at hf
  obtain⟨ns,hns,hfv⟩:=hf
  have hnl:ns.length=mR.length:=by have:=congrArg List.length hns;simpa using this.symm
  refine⟨(cl.args.toList.map a.eval)++ns.map fun n=>Value.pointer (some ⟨n,0,none⟩),?_,by rw[TH];simp[hnl],fun i h1 h2=> ?_⟩
  ·have dU:=Ru ((cl.args.toList.map a.eval)++ns.map fun n=>Value.pointer (some ⟨n,0,none⟩)).toArray w
   have anF:(cl.args.map a.eval)++(ns.map fun n=>Value.pointer (some ⟨n,0,none⟩)).toArray=((cl.args.toList.map a.eval)++ns.map fun n=>Value.pointer (some ⟨n,0,none⟩)).toArray:=by
    apply Array.ext';simp
   rw[<-anF]at dU⊢
   simp[execOp,ho,resolve,ab1,hfv,Deferred.ofValue,invoke,dU]
  ·subst TH
   rw[getElem_append,getElem_append]
   simp only[length_map,Array.length_toList]
   split
   ·rename_i fU
    simp only[getElem_map]
    exact gY.ev _
   ·rename_i fU
    simp only[getElem_map]
    refine⟨ns[i-cl.args.size]'(by simp at h2 fU;omega),?_,rfl⟩
    have h3:i-cl.args.size<mR.length:=by simp at h1 fU;omega
    have:=congrArg (fun l=>l[i-cl.args.size]?) hns
    simp only[getElem?_map,getElem?_eq_getElem h3,getElem?_eq_getElem (by omega:i-cl.args.size<ns.length),Option.map_some,Option.some.injEq]at this
    exact this
 ·rw[Ae]at hf
  obtain⟨nn,hb,hfv⟩:=hf
  refine⟨acU m nn::cl.args.toList.map a.eval,?_,by rw[TH];simp,fun i h1 h2=> ?_⟩
  ·have dU:=Ru (acU m nn::cl.args.toList.map a.eval).toArray w
   have anF: #[acU m nn]++cl.args.map a.eval=(acU m nn::cl.args.toList.map a.eval).toArray:=by apply Array.ext';simp
   rw[<-anF]at dU⊢
   simp[execOp,ho,resolve,ab1,hfv,Deferred.ofValue,invoke,dU]
  ·subst TH
   cases i with
   |zero=>cases m<;>exact⟨nn,hb,rfl⟩
   |succ i=>simpa using gY.ev _
def YP (X:Cx) (Γ:Nat->fF) (B:mC) (w0:World) (inl:Inl):Prop:=
 ∀(g:Nat) (xs:List SV) (σ:St) (ρ:aP) (N:Nx) (Φ:SV×St->aP->Nx->Prop) (c0 c:Ct) (a:Act) (w:World) (vs:dm),(inl g xs σ).wp Γ ρ N Φ->Is X.P B w0 c0 c σ ρ N a w->xs.length=vs.length->
  (∀i (h1:i<xs.length) (h2:i<vs.length),(xs[i]).rel c (vs[i]))->
  Calls X.P g vs.toArray w fun e w'=>∃v sv σ' r n c',e= .returned v/\Φ (sv,σ') (ρ++r) (N++n)/\sv.rel c' v/\(∀a':Act,a'.defers=[]->Is X.P B w0 c c' {σ' with aZ:=[]} (ρ++r) (N++n) a' w')
theorem OU {X:Cx} (hX:X.ok Γ B w0){inl:Inl} (Kv:YP X Γ B w0 inl){ops:iu}:∀(rest suf:iu) (n:Nat) (σ:St) (ρ:aP) (N:Nx) (Φ:St->aP->Nx->Prop) (c0 c:Ct) (a:Act) (w:World) (Q:Exit->Act->World->Prop),
 (E0 X inl ops rest n σ).wp Γ ρ N Φ->Is X.P B w0 c0 c σ ρ N a w->(∀σ' r n c' a' w',Φ σ' (ρ++r) (N++n)->Is X.P B w0 c0 c' σ' (ρ++r) (N++n) a' w'->wpList X.P ops.toArray Q suf a' w')->wpList X.P ops.toArray Q (rest++suf) a w
 |[],suf,n,σ,ρ,N,Φ,c0,c,a,w,Q,h,hi,hQ=>by
  have:=hQ σ [] [] c a w
  simp only[append_nil]at this
  exact this h hi
 |o::rest,suf,n,σ,ρ,N,Φ,c0,c,a,w,Q,h,hi,hQ=>by
  unfold E0 at h
  split at h
  ·exact h.elim
  ·rename_i hw
   have aaa:=OY hw hi.dD
   rw[cons_append]
   unfold wpList
   rw[if_neg (by rw[aaa];simp)]
   refine OU hX Kv rest suf (n+1) _ ρ N Φ c0 c _ w Q h ?_ hQ
   exact SD (r:=QD) hi.sub hi.env (hi.dD.aoB hi.dD.below (Nat.le_refl _) fun _ _=>rfl) ⟨hi.fresh.β,hi.fresh.R⟩ hi.nv hi.lv ⟨[],rfl,trivial⟩
  ·rename_i hw
   have aaa:=OY hw hi.dD
   rw[cons_append]
   unfold wpList
   rw[if_pos aaa]
   left
   simp only at h
   split at h
   ·
    rename_i g xs avP
    split at h
    rotate_left
    ·exact h.elim
    rename_i VS
    have h:=T.wp_bind h
    obtain⟨cl,fo,ho,ab1,Ru,TH⟩:=aip avP
    obtain⟨vs,jX,hl,hx⟩:=alk hi.dD ho ab1 (hX.ins g Ru) TH
    unfold Oper.wp
    rw[jX]
    refine(Kv g xs σ ρ N _ c0 c a w vs h hi hl hx).mono ?_
    ·rintro e w' ⟨v,sv,σ',r,m,c',rfl,hwp,i8,uS⟩
     obtain⟨sv',h3,LO⟩:=ac4 hwp
     have i1:=uS a hi.dD.defers
     have gg:aX X.P B w0 {σ' with aZ:=σ.aZ} c' a w':=i1.dD.aw6 hi.dD VS i1.sub (ρ':=ρ++r) i1.env (by rw[hi.env]) (by rw[hi.env,hi.nv])
     refine OU hX Kv rest suf (n+1) _ (ρ++r) (N++m) Φ c0 c' _ w' Q h3 ?_ (fun σ2 r2 m2 c2 a2 w2 hΦ anS=>by
      rw[append_assoc,append_assoc]at hΦ
      rw[append_assoc,append_assoc]at anS
      exact hQ σ2 (r++r2) (m++m2) c2 a2 w2 hΦ anS)
     exact SD (hi.sub.trans i1.sub) i1.env gg ⟨i1.fresh.β,i1.fresh.R⟩ i1.nv i1.lv (LO c' v i1.env i8)
   ·split at h
    ·exact h.elim
    ·rename_i r hr
     obtain⟨ρ',⟨r0,rfl⟩,h2,ajV⟩:=ai2 hX hi hr h
     obtain⟨sv,h3,LO⟩:=ac4 h2
     refine ajV _ Q (fun c' v w' EH i8 uS=> ?_)
     exact OU hX Kv rest suf (n+1) _ (ρ++r0) N Φ c0 c' _ w' Q h3 (uS sv (LO c' v EH i8)) (fun σ' r m c2 a2 w2 hΦ anS=>by
      rw[append_assoc]at hΦ anS
      exact hQ σ' (r0++r) m c2 a2 w2 hΦ anS)
theorem Wb {X:Cx} (hX:X.ok Γ B w0){inl:Inl} (Kv:YP X Γ B w0 inl){ops:iu} (rest:iu) (n:Nat) (σ:St) (ρ:aP) (N:Nx) (Φ:St->aP->Nx->Prop) (c0 c:Ct) (a:Act) (w:World) (Q:Exit->Act->World->Prop)
 (h:(E0 X inl ops rest n σ).wp Γ ρ N Φ) (hi:Is X.P B w0 c0 c σ ρ N a w) (hQ:∀σ' r n c' a' w',Φ σ' (ρ++r) (N++n)->Is X.P B w0 c0 c' σ' (ρ++r) (N++n) a' w'->Q .normal a' w'):wpList X.P ops.toArray Q rest a w:=by
 have:=OU hX Kv rest [] n σ ρ N Φ c0 c a w Q h hi hQ
 rwa [append_nil]at this
end
open Go.RowKit
def look (σ:St) (l:Nat):SV×Option Bk×Option Rw:=
 if l%3=0 then(σ.slot (l/3),none,none)else if l%3=1 then(.top,σ.blk (l/3),none)else(.top,none,σ.row (l/3))
theorem D7 (σ:St) (t:Nat):look σ (3*t)=(σ.slot t,none,none):=by unfold look;rw[if_pos (by omega),show 3*t/3=t by omega]
theorem TT (σ:St) (t:Nat):look σ (3*t+1)=(.top,σ.blk t,none):=by unfold look;rw[if_neg (by omega),if_pos (by omega),show(3*t+1)/3=t by omega]
theorem TU (σ:St) (t:Nat):look σ (3*t+2)=(.top,none,σ.row t):=by unfold look;rw[if_neg (by omega),if_neg (by omega),show(3*t+2)/3=t by omega]
def Wr (dst:Option Tmp) (r:il) (l:Nat):Prop:=(∃t:Nat,dst=some t/\l=3*t)\/(∃x∈r.aO,l=3*x.1+1)\/(∃x∈r.rows,l=3*x.1+2)
def Rs (σ:St) (ts ds ls:jl) (l:Nat):Prop:=(∃t∈ts,l=3*t)\/(∃t∈ds,∃p∈(σ.slot t).JV,l=3*p+1)\/(∃p∈sj σ.slot σ.blk ds ls,l=3*p+2)
theorem acg (n:Nat):testBit (shiftLeft 1 n) n=true:=by
 have:shiftLeft 1 n=2^n:=by show 1<<<n=_;rw[one_shiftLeft]
 rw[this];exact testBit_two_pow_self
theorem afo (m k:Nat):∀(l:jl) (acc n:Nat),acc.testBit n=true->(l.foldl (fun acc t=>lor acc (shiftLeft 1 (m*t+k))) acc).testBit n=true
 |[],_,_,h=>h
 |t::l,acc,n,h=>afo m k l _ n (by show(acc|||_).testBit n=true;rw[testBit_or,h];rfl)
theorem Er (m k:Nat):∀(l:jl) (acc t:Nat),t∈l->(l.foldl (fun acc t=>lor acc (shiftLeft 1 (m*t+k))) acc).testBit (m*t+k)=true
 |x::l,acc,t,h=>by
  rcases mem_cons.1 h with rfl|h
  ·exact afo m k l _ _ (by show(acc|||shiftLeft 1 (m*t+k)).testBit _=true;rw[testBit_or,acg];simp)
  ·exact Er m k l _ t h
theorem NU {x y n:Nat} (h:x.testBit n=true):(lor x y).testBit n=true:=by show(x|||y).testBit n=true;rw[testBit_or,h];rfl
theorem AH {x y n:Nat} (h:y.testBit n=true):(lor x y).testBit n=true:=by show(x|||y).testBit n=true;rw[testBit_or,h];simp
theorem Wq {dst:Option Tmp}{r:il}{l:Nat} (h:Wr dst r l):(K9 dst r).testBit l=true:=by
 unfold K9 afn
 rcases h with⟨t,rfl,rfl⟩|⟨x,hx,rfl⟩|⟨x,hx,rfl⟩
 ·exact NU (Er 3 0 _ 0 t (by simp))
 ·exact AH (NU (Er 3 1 _ 0 x.1 (mem_map_of_mem hx)))
 ·exact AH (AH (Er 3 2 _ 0 x.1 (mem_map_of_mem hx)))
theorem alE {σ:St}{ts ds ls:jl}{l:Nat} (h:Rs σ ts ds ls l):(KR σ ts ds ls).testBit l=true:=by
 unfold KR afn
 rcases h with⟨t,ht,rfl⟩|⟨t,ht,p,hp,rfl⟩|⟨p,hp,rfl⟩
 ·exact NU (Er 3 0 _ 0 t ht)
 ·exact AH (NU (Er 3 1 _ 0 p (mem_flatMap.2 ⟨t,ht,hp⟩)))
 ·exact AH (AH (Er 3 2 _ 0 p hp))
theorem VX {x y n:Nat} (h:Nat.beq (land x y) 0=true) (hx:x.testBit n=true) (hy:y.testBit n=true):False:=by
 have h:=eq_of_beq_eq_true h
 have:(x&&&y).testBit n=true:=by rw[testBit_and,hx,hy];rfl
 rw[show x&&&y=0 from h]at this
 simp at this
theorem Ue:∀(r:List (Nat×Option Bk)) (l l':List (Option Bk)) (p:Nat),(l.getD p none=l'.getD p none\/∃x∈r,x.1=p)->(di l r).getD p none=(di l' r).getD p none
 |[],_,_,_,h=>h.elim id (fun⟨_,h,_⟩=>by cases h)
 |(i,v)::r,l,l',p,h=>by
  refine Ue r _ _ p ?_
  by_cases hp:p=i
  ·left;rw[je,je,if_pos hp,if_pos hp]
  ·rcases h with h|⟨x,hx,e⟩
   ·left;rw[je,je,if_neg hp,if_neg hp];exact h
   ·right
    rcases mem_cons.1 hx with rfl|hx
    ·exact absurd e.symm hp
    ·exact⟨x,hx,e⟩
theorem Uh:∀(r:eJ) (l l':List (Option Rw)) (p:Nat),(l.getD p none=l'.getD p none\/∃x∈r,x.1=p)->(aH l r).getD p none=(aH l' r).getD p none
 |[],_,_,_,h=>h.elim id (fun⟨_,h,_⟩=>by cases h)
 |(i,v)::r,l,l',p,h=>by
  refine Uh r _ _ p ?_
  by_cases hp:p=i
  ·left;rw[je,je,if_pos hp,if_pos hp]
  ·rcases h with h|⟨x,hx,e⟩
   ·left;rw[je,je,if_neg hp,if_neg hp];exact h
   ·right
    rcases mem_cons.1 hx with rfl|hx
    ·exact absurd e.symm hp
    ·exact⟨x,hx,e⟩
theorem WK (σ:St) (dst:Option Tmp) (r:il):(σ.after dst r).aZ.length=σ.aZ.length:=by
 unfold St.after;cases dst<;>simp
theorem QW (σ:St) (dst:Option Tmp) (r:il) (t:Nat):(σ.after dst r).slot t=if dst=some t/\t<σ.aZ.length then r.val else σ.slot t:=by
 cases dst with
 |none=>simp[St.after,St.slot]
 |some d=>
  show(σ.aZ.set d r.val).getD t .top=_
  rw[aaD]
  simp only[Option.some.injEq]
  rfl
theorem UP {σ:St}{dst:Option Tmp}{r:il}{l:Nat} (h:¬Wr dst r l):look (σ.after dst r) l=look σ l:=by
 unfold look
 split
 ·rw[QW,if_neg]
  rintro⟨e,_⟩
  exact h (.inl ⟨_,e,by omega⟩)
 ·split
  ·show(SV.top,(di σ.aO r.aO).getD (l/3) none,none)=_
   rw[sR _ _ _ (fun x hx e=>h (.inr (.inl ⟨x,hx,by omega⟩)))];rfl
  ·show(SV.top,none,(aH σ.rows r.rows).getD (l/3) none)=_
   rw[Gm _ _ _ (fun x hx e=>h (.inr (.inr ⟨x,hx,by omega⟩)))];rfl
theorem Y3 {σ σ':St} (hl:σ.aZ.length=σ'.aZ.length){dst:Option Tmp}{r:il}{l:Nat} (h:look σ l=look σ' l\/Wr dst r l) (hw:∀t,σ'.aZ.length<=t->σ.slot t=σ'.slot t):look (σ.after dst r) l=look (σ'.after dst r) l:=by
 have hl':look σ l=look σ' l\/Wr dst r l:=h
 unfold look at h⊢
 split
 ·rename_i h0
  rw[QW,QW,hl]
  split
  ·rfl
  ·rename_i hn
   rw[if_pos h0,if_pos h0]at h
   rcases h with h|h
   ·exact h
   ·rcases h with⟨t,rfl,rfl⟩|⟨x,_,e⟩|⟨x,_,e⟩
    ·have:¬t<σ'.aZ.length:=fun hh=>hn ⟨by congr 1;omega,by omega⟩
     rw[show 3*t/3=t by omega,hw t (by omega)]
    ·omega
    ·omega
 ·rename_i h0
  rw[if_neg h0,if_neg h0]at h
  split
  ·rename_i h1
   rw[if_pos h1,if_pos h1]at h
   show(SV.top,(di σ.aO r.aO).getD (l/3) none,none)=(SV.top,(di σ'.aO r.aO).getD (l/3) none,none)
   congr 2
   refine Ue _ _ _ _ ?_
   rcases h with h|h
   ·left;exact(Prod.mk.inj (Prod.mk.inj h).2).1
   ·rcases h with⟨t,_,e⟩|⟨x,hx,e⟩|⟨x,_,e⟩
    ·omega
    ·exact .inr ⟨x,hx,by omega⟩
    ·omega
  ·rename_i h1
   rw[if_neg h1,if_neg h1]at h
   show(SV.top,none,(aH σ.rows r.rows).getD (l/3) none)=(SV.top,none,(aH σ'.rows r.rows).getD (l/3) none)
   congr 2
   refine Uh _ _ _ _ ?_
   rcases h with h|h
   ·left;exact(Prod.mk.inj (Prod.mk.inj h).2).2
   ·rcases h with⟨t,_,e⟩|⟨x,_,e⟩|⟨x,hx,e⟩
    ·omega
    ·omega
    ·exact .inr ⟨x,hx,by omega⟩
theorem Od {σ:St}{t:Nat} (h:σ.aZ.length<=t):σ.slot t= .top:=by
 unfold St.slot;simp[getD_eq_getElem?_getD,getElem?_eq_none h]
def eZ (S:Nat->Bool):List Item->Nat->St->St
 |[],_,σ=>σ
 |x::xs,j,σ=>eZ S xs (j+1) (if S j then σ.after x.dst x.r else σ)
theorem o6 (S:Nat->Bool):∀(l:List Item) (j:Nat) (σ:St),(eZ S l j σ).aZ.length=σ.aZ.length
 |[],_,_=>rfl
 |x::xs,j,σ=>by
  rw[eZ,o6 S xs]
  split
  ·exact WK _ _ _
  ·rfl
theorem F1 (S:Nat->Bool):∀(l m:List Item) (j:Nat) (σ:St),eZ S (l++m) j σ=eZ S m (j+l.length) (eZ S l j σ)
 |[],m,j,σ=>rfl
 |x::l,m,j,σ=>by
  simp only[cons_append,eZ,length_cons]
  rw[F1 S l m]
  congr 1;omega
theorem Au {S S':Nat->Bool} (p:Nat):∀(l:List Item) (j:Nat) (σ σ':St),σ.aZ.length=σ'.aZ.length->look σ p=look σ' p->(∀i x,l[i]? =some x->Wr x.dst x.r p->S (j+i)=S' (j+i))->
 look (eZ S l j σ) p=look (eZ S' l j σ') p
 |[],_,_,_,_,h,_=>h
 |x::l,j,σ,σ',hl,h,hs=>by
  simp only[eZ]
  refine Au p l (j+1) _ _ ?_ ?_ (fun i y hy hw=>by
   have:=hs (i+1) y (by simpa using hy) hw
   rw[show j+(i+1)=j+1+i by omega]at this;exact this)
  ·split<;>split<;>simp[WK,hl]
  ·have h0:=hs 0 x (by simp)
   simp only[Nat.add_zero]at h0
   by_cases hw:Wr x.dst x.r p
   ·rw[<-h0 hw]
    split
    ·exact Y3 hl (.inr hw) (fun t ht=>by rw[Od (by omega),Od ht])
    ·exact h
   ·have e1:look (if S j=true then σ.after x.dst x.r else σ) p=look σ p:=by split<;>first|exact UP hw|rfl
    have e2:look (if S' j=true then σ'.after x.dst x.r else σ') p=look σ' p:=by split<;>first|exact UP hw|rfl
    rw[e1,e2,h]
theorem BH (S:Nat->Bool):∀(l:List Item) (j:Nat) (σ:St),(∀i,i<l.length->S (j+i)=false)->eZ S l j σ=σ
 |[],_,_,_=>rfl
 |x::l,j,σ,h=>by
  have h0:=h 0 (by simp)
  simp only[Nat.add_zero]at h0
  rw[eZ,h0]
  exact BH S l (j+1) σ (fun i hi=>by
   have:=h (i+1) (by simp;omega)
   rw[show j+(i+1)=j+1+i by omega]at this;exact this)
section
variable {P:Program}{B:mC}{w0:World}{σ σ':St}{c:Ct}{a:Act}{w:World}
theorem aX.congr (g:aX P B w0 σ c a w) (hl:σ'.aZ.length<=a.tmps.size) (h:∀l,look σ' l=look σ l):aX P B w0 σ' c a w:=by
 have hs:∀t,σ'.slot t=σ.slot t:=fun t=>by have:=h (3*t);rw[D7,D7]at this;exact(Prod.mk.inj this).1
 have hb:∀t,σ'.blk t=σ.blk t:=fun t=>by have:=h (3*t+1);rw[TT,TT]at this;exact(Prod.mk.inj (Prod.mk.inj this).2).1
 have hr:∀t,σ'.row t=σ.row t:=fun t=>by have:=h (3*t+2);rw[TU,TU]at this;exact(Prod.mk.inj (Prod.mk.inj this).2).2
 have ho:∀x p,σ'.owns c x p↔σ.owns c x p:=fun x p=>by
  obtain⟨t,q⟩:=x
  cases t<;>simp only[St.owns,hb,hr]
 refine⟨g.below,g.hB,g.defers,hl,fun t=>by rw[hs];exact g.aZ t,fun p k hp=>g.aO p k (by rw[<-hb];exact hp),fun r k hk=> ?_,fun x y p hx hy=>g.apart x y p ((ho x p).1 hx) ((ho y p).1 hy)⟩
 obtain⟨v,e,q⟩:=g.rows r k (by rw[<-hr];exact hk)
 exact⟨v,e,q.mono (fun p o u hp hu=>⟨⟨fun x hx=>hp.1 x ((ho x p).1 hx),hp.2⟩,hu⟩) (fun _ _ _ _=>rfl) rfl (fun _ _ _ h=>h)⟩
theorem alu (slot:Nat->SV) (ops:iu) (o:Oper):∀t,t∈Gh slot ops o->t∈Cb ops o:=by
 intro t ht
 unfold Gh at ht
 split at ht
 ·cases ht
 ·cases ht
 ·rename_i hop
  split at ht
  ·simp only[mem_singleton]at ht
   subst ht
   unfold Cb
   rw[hop]
   simp only[mem_append,mem_filterMap]
   exact .inl ⟨.tmp t,by simp[Op.operands],rfl⟩
  ·exact ht
 ·exact ht
theorem alv (slot:Nat->SV) (ops:iu) (o:Oper):∀t,t∈LQ ops o->t∈Gh slot ops o:=by
 intro t ht
 unfold LQ at ht
 split at ht
 ·rename_i cl hop
  unfold Gh
  rw[hop]
  exact ht
 ·cases ht
theorem aiG {ts ds ls:jl} (hd:∀t,t∈ds->t∈ts) (hl:∀t,t∈ls->t∈ds) (h:∀l,Rs σ ts ds ls l->look σ' l=look σ l) (nv nb nr:Nat):Yb σ'.slot σ'.blk σ'.row ts ds ls nv nb nr=Yb σ.slot σ.blk σ.row ts ds ls nv nb nr:=by
 have hs:∀t,t∈ts->σ'.slot t=σ.slot t:=fun t ht=>by have:=h (3*t) (.inl ⟨t,ht,rfl⟩);rw[D7,D7]at this;exact(Prod.mk.inj this).1
 have hb:∀t,t∈ds->∀p,p∈(σ.slot t).JV->σ'.blk p=σ.blk p:=fun t ht p hp=>by have:=h (3*p+1) (.inr (.inl ⟨t,ht,p,hp,rfl⟩));rw[TT,TT]at this;exact(Prod.mk.inj (Prod.mk.inj this).2).1
 have hr:∀p,p∈sj σ.slot σ.blk ds ls->σ'.row p=σ.row p:=fun p hp=>by have:=h (3*p+2) (.inr (.inr ⟨p,hp,rfl⟩));rw[TU,TU]at this;exact(Prod.mk.inj (Prod.mk.inj this).2).2
 have e0:∀l:jl,(∀t∈l,σ'.slot t=σ.slot t)->(l.flatMap fun t=>(σ'.slot t).JV)=l.flatMap fun t=>(σ.slot t).JV:=by
  intro l hl
  induction l with
  |nil=>rfl
  |cons t l ih=>simp only[flatMap_cons];rw[hl t (mem_cons_self ..),ih (fun t ht=>hl t (mem_cons_of_mem _ ht))]
 have e1:=e0 ds (fun t ht=>hs t (hd t ht))
 have e2:sj σ'.slot σ'.blk ds ls=sj σ.slot σ.blk ds ls:=by
  have h1:∀l:jl,(∀t∈l,σ'.slot t=σ.slot t)->(l.flatMap fun t=>(σ'.slot t).aw9)=l.flatMap fun t=>(σ.slot t).aw9:=by
   intro l hl
   induction l with
   |nil=>rfl
   |cons t l ih=>simp only[flatMap_cons];rw[hl t (mem_cons_self ..),ih (fun t ht=>hl t (mem_cons_of_mem _ ht))]
  have h2:∀l:jl,(∀p∈l,σ'.blk p=σ.blk p)->(l.flatMap fun p=>amM (σ'.blk p))=l.flatMap fun p=>amM (σ.blk p):=by
   intro l hl
   induction l with
   |nil=>rfl
   |cons t l ih=>simp only[flatMap_cons];rw[hl t (mem_cons_self ..),ih (fun t ht=>hl t (mem_cons_of_mem _ ht))]
  unfold sj
  rw[h1 ds (fun t ht=>hs t (hd t ht)),e0 ls (fun t ht=>hs t (hd t (hl t ht))),h2 _ (fun p hp=>by
   obtain⟨t,ht,hp⟩:=mem_flatMap.1 hp
   exact hb t (hl t ht) p hp)]
 unfold Yb
 rw[e1,e2]
 have f1:(fun t=>cond (oQ ts t) (σ'.slot t) SV.top)=fun t=>cond (oQ ts t) (σ.slot t) SV.top:=by
  funext t
  cases hh:oQ ts t
  ·rfl
  ·simp only[cond_true];exact hs t (pV.1 hh)
 have f2:(fun p=>cond (oQ (ds.flatMap fun t=>(σ.slot t).JV) p) (σ'.blk p) none)=fun p=>cond (oQ (ds.flatMap fun t=>(σ.slot t).JV) p) (σ.blk p) none:=by
  funext p
  cases hh:oQ (ds.flatMap fun t=>(σ.slot t).JV) p
  ·rfl
  ·simp only[cond_true]
   obtain⟨t,ht,hp⟩:=mem_flatMap.1 (pV.1 hh)
   exact hb t ht p hp
 have f3:(fun p=>cond (oQ (sj σ.slot σ.blk ds ls) p) (σ'.row p) none)=fun p=>cond (oQ (sj σ.slot σ.blk ds ls) p) (σ.row p) none:=by
  funext p
  cases hh:oQ (sj σ.slot σ.blk ds ls) p
  ·rfl
  ·simp only[cond_true]
   exact hr p (pV.1 hh)
 rw[f1,f2,f3]
end
open Go.RowKit
section
variable {Γ:Nat->fF}{L:Type}
theorem aaI {b:Bool}{r:il}{k:il->T L}{ρ:aP}{N:Nx}{Φ:L->aP->Nx->Prop} (h:(RN b r k).wp Γ ρ N Φ):
 ∃sv,(k {r with val:=sv}).wp Γ ρ N Φ/\(sv=r.val\/∃e y,r.val= .c (.a (.bool e))/\sv= .at (.bool (.b y))/\(e.ev ρ).bool=y):=by
 unfold RN at h
 split at h
 ·rename_i x hv
  exact⟨_,h,.inl hv.symm⟩
 ·rename_i e _ hv
  simp only[T.wp]at h
  by_cases hb:(e.ev ρ).bool=true
  ·rw[if_pos hb]at h
   exact⟨_,h,.inr ⟨e,true,hv,rfl,hb⟩⟩
  ·rw[if_neg hb]at h
   exact⟨_,h,.inr ⟨e,false,hv,rfl,by simpa using hb⟩⟩
 ·exact⟨r.val,h,.inl rfl⟩
end
def akF (X:Cx) (Γ:Nat->fF) (ops:iu) (ρ:aP) (σ:St) (o:Oper) (x:Item):Prop:=
 (DZ ops σ o=some false/\x.r=QD)\/
 (DZ ops σ o=some true/\∃r0 sv,LV X ops σ o=some r0/\ake σ o r0=true/\(σ.after o.dst r0).nv<=ρ.length/\(∀e∈r0.lN,(e.ev ρ).bool=true)/\
   (∀f es n,r0.call=some (f,es,n)->∃rs,Γ f (es.map (Ex.ev ρ))=some rs/\rs.length=n/\∀i,i<rs.length->ρ.getD (σ.nv+i) (.i 0)=rs.getD i (.i 0))/\
   x.r={r0 with val:=sv}/\(sv=r0.val\/∃e y,r0.val= .c (.a (.bool e))/\sv= .at (.bool (.b y))/\(e.ev ρ).bool=y))
theorem akF.ext {X:Cx}{Γ:Nat->fF}{ops:iu}{ρ:aP}{σ:St}{o:Oper}{x:Item} (h:akF X Γ ops ρ σ o x) (r:aP):akF X Γ ops (ρ++r) σ o x:=by
 rcases h with h|⟨hw,r0,sv,h1,h2,h3,h4,h5,h6,h7⟩
 ·exact .inl h
 ·refine .inr ⟨hw,r0,sv,h1,h2,by simp;omega,?_,?_,h6,?_⟩
  all_goals
   have hu:=h2
   simp only[ake,Bool.and_eq_true,all_eq_true]at hu
   have hnv:σ.nv<=(σ.after o.dst r0).nv:=by unfold St.after;simp only;split<;>omega
   have X4:∀n,n<=ρ.length->∀i,i<n->(ρ++r).getD i (.i 0)=ρ.getD i (.i 0):=fun n hn i hi=>bj _ _ _ _ (by omega)
  ·intro e he
   rw[Ex.cg (X4 σ.nv (by omega)) (hu.1 e he)];exact h4 e he
  ·intro f es n hc
   obtain⟨rs,q1,q0,q2⟩:=h5 f es n hc
   have hes:es.all (·.under σ.nv)=true:=by
    unfold LV at h1
    split at h1
    ·split at h1
     ·rename_i hg;cases h1
      simp only[Bool.and_eq_true,adu,hc]at hg
      exact hg.2.2
     ·cases h1
    ·cases h1
   have hn:(σ.after o.dst r0).nv=σ.nv+n:=by unfold St.after;simp only[hc]
   refine⟨rs,by rw[OC (X4 σ.nv (by omega)) hes];exact q1,q0,fun i hi=> ?_⟩
   rw[bj _ _ _ _ (by omega)];exact q2 i hi
  ·rcases h7 with h7|⟨e,y,e1,e2,e3⟩
   ·exact .inl h7
   ·refine .inr ⟨e,y,e1,e2,?_⟩
    have:=hu.2
    rw[e1]at this
    rw[Ex.cg (X4 _ h3) this];exact e3
def lV:Nat->Bool:=fun _=>true
def vP (X:Cx) (Γ:Nat->fF) (ops:iu) (ρ:aP) (σ0:St) (items:List Item):Prop:=
 ∀(j:Nat) (x:Item),items[j]? =some x->∃o,ops[j]? =some o/\x.dst=o.dst/\x.rd=KR (eZ lV (items.take j) 0 σ0) (Cb ops o) (Gh (eZ lV (items.take j) 0 σ0).slot ops o) (LQ ops o)/\x.wr=K9 o.dst x.r/\x.pre=Ud (items.take j) o/\
  akF X Γ ops ρ (eZ lV (items.take j) 0 σ0) o x/\W3 (items.take j) x=true/\UY j o=true
theorem vP.ext {X:Cx}{Γ:Nat->fF}{ops:iu}{ρ:aP}{σ0:St}{items:List Item} (h:vP X Γ ops ρ σ0 items) (r:aP):vP X Γ ops (ρ++r) σ0 items:=fun j x hj=>by
 obtain⟨o,q1,q2,q3,q4,q5,q6,q7,q8⟩:=h j x hj
 exact⟨o,q1,q2,q3,q4,q5,q6.ext r,q7,q8⟩
theorem vP.bC {X:Cx}{Γ:Nat->fF}{ops:iu}{ρ:aP}{σ0:St}{items:List Item} (h:vP X Γ ops ρ σ0 items){x:Item}{o:Oper} (ho:ops[items.length]? =some o) (q2:x.dst=o.dst) (q3:x.rd=KR (eZ lV items 0 σ0) (Cb ops o) (Gh (eZ lV items 0 σ0).slot ops o) (LQ ops o)) (q4:x.wr=K9 o.dst x.r) (q5:x.pre=Ud items o)
 (q6:akF X Γ ops ρ (eZ lV items 0 σ0) o x) (q7:W3 items x=true) (q8:UY items.length o=true):vP X Γ ops ρ σ0 (items++[x]):=fun j y hj=>by
 by_cases fU:j<items.length
 ·rw[getElem?_append_left fU]at hj
  rw[take_append_of_le_length (by omega)]
  exact h j y hj
 ·have hj2:j<(items++[x]).length:=(List.getElem?_eq_some_iff.1 hj).1
  have:j=items.length:=by simp at hj2;omega
  subst this
  simp at hj
  subst hj
  rw[take_append_of_le_length (Nat.le_refl _),take_of_length_le (Nat.le_refl _)]
  exact⟨o,ho,q2,q3,q4,q5,q6,q7,q8⟩
theorem RI {X:Cx}{Γ:Nat->fF}{ops:iu}{σ0:St}{N:Nx}{Φ:St×List Item->aP->Nx->Prop}:∀(rest:iu) (n:Nat) (σ:St) (items:List Item) (ρ:aP),(Gl X ops rest n σ items).wp Γ ρ N Φ->
 (∀k,k<rest.length->rest[k]? =ops[n+k]?)->n=items.length->σ=eZ lV items 0 σ0->σ.nv=ρ.length->vP X Γ ops ρ σ0 items->
 ∃r gl,Φ (eZ lV gl 0 σ0,gl) (ρ++r) N/\vP X Γ ops (ρ++r) σ0 gl/\gl.length=n+rest.length/\(eZ lV gl 0 σ0).nv=(ρ++r).length
 |[],n,σ,items,ρ,h,af7,hn,hσ,hnv,hp=>by
  exact⟨[],items,by simp only[append_nil];subst hσ;exact h,by simpa using hp,by simp[hn],by rw[<-hσ];simpa using hnv⟩
 |o::rest,n,σ,items,ρ,h,af7,hn,hσ,hnv,hp=>by
  have ho:ops[items.length]? =some o:=by have:=af7 0 (by simp);simp at this;rw[<-hn];exact this.symm
  have av4:∀k,k<rest.length->rest[k]? =ops[n+1+k]? :=fun k hk=>by have:=af7 (k+1) (by simp;omega);rw[show n+1+k=n+(k+1)by omega];simpa using this
  unfold Gl at h
  split at h
  ·exact h.elim
  rename_i Qo
  have Qo:UY items.length o=true:=by rw[<-hn];simpa using Qo
  simp only at h
  have hgo:∀(r:il) (ρ':aP),T.wp Γ (if W3 items ⟨o.dst,r,KR σ (Cb ops o) (Gh σ.slot ops o) (LQ ops o),K9 o.dst r,Ud items o⟩=true then Gl X ops rest (n+1) (σ.after o.dst r) (items++[⟨o.dst,r,KR σ (Cb ops o) (Gh σ.slot ops o) (LQ ops o),K9 o.dst r,Ud items o⟩])else .fail "order") ρ' N Φ->
   (∃r0,ρ'=ρ++r0)->(σ.after o.dst r).nv=ρ'.length->akF X Γ ops ρ' σ o ⟨o.dst,r,KR σ (Cb ops o) (Gh σ.slot ops o) (LQ ops o),K9 o.dst r,Ud items o⟩->
   ∃r gl,Φ (eZ lV gl 0 σ0,gl) (ρ++r) N/\vP X Γ ops (ρ++r) σ0 gl/\gl.length=n+(rest.length+1)/\(eZ lV gl 0 σ0).nv=(ρ++r).length:=by
   intro r ρ' hw hρ an3 ZW
   obtain⟨r0,rfl⟩:=hρ
   split at hw
   ·rename_i vX
    have LN:=(hp.ext r0).bC (x:=⟨o.dst,r,KR σ (Cb ops o) (Gh σ.slot ops o) (LQ ops o),K9 o.dst r,Ud items o⟩) ho rfl (by rw[hσ]) rfl rfl (by rw[<-hσ];exact ZW) vX Qo
    obtain⟨r1,gl,f1,f2,f3,f4⟩:=RI rest (n+1) (σ.after o.dst r) _ (ρ++r0) hw av4 (by simp[hn]) (by rw[F1,<-hσ];rfl) an3 LN
    exact⟨r0++r1,gl,by rw[<-append_assoc];exact f1,by rw[<-append_assoc];exact f2,by omega,by rw[<-append_assoc];exact f4⟩
   ·exact hw.elim
  split at h
  ·exact h.elim
  ·rename_i hw
   exact hgo QD ρ h ⟨[],by simp⟩ (by simpa[St.after,QD,il.pure]using hnv) (.inl ⟨hw,rfl⟩)
  ·rename_i hw
   split at h
   ·exact h.elim
   ·rename_i r0 Af
    split at h
    rotate_left
    ·exact h.elim
    rename_i hpu
    obtain⟨VP,h⟩:=D0 h
    have anU:r0.call=none\/∃f es n,r0.call=some (f,es,n):=by cases r0.call with|none=>exact .inl rfl|some x=>exact .inr ⟨x.1,x.2.1,x.2.2,rfl⟩
    have arM:∀e∈r0.lN,e.under σ.nv=true:=by simp only[ake,Bool.and_eq_true,all_eq_true]at hpu;exact hpu.1
    rcases anU with dU|⟨f,es,m,dU⟩
    ·rw[dU]at h
     obtain⟨sv,h2,LO⟩:=aaI h
     have an3:(σ.after o.dst r0).nv=ρ.length:=by simp only[St.after,dU];exact hnv
     exact hgo _ ρ h2 ⟨[],by simp⟩ an3 (.inr ⟨hw,r0,sv,Af,hpu,by omega,VP,(fun f es n hc=>by rw[dU]at hc;cases hc),rfl,LO⟩)
    ·rw[dU]at h
     simp only at h
     obtain⟨rs,hF,hlen,h⟩:=h
     obtain⟨sv,h2,LO⟩:=aaI h
     have an3:(σ.after o.dst r0).nv=(ρ++rs).length:=by simp only[St.after,dU,length_append];omega
     have X4:∀i,i<σ.nv->(ρ++rs).getD i (.i 0)=ρ.getD i (.i 0):=fun i hi=>bj _ _ _ _ (by omega)
     have hes:es.all (·.under σ.nv)=true:=by
      unfold LV at Af
      split at Af
      ·split at Af
       ·rename_i hg;cases Af
        simp only[Bool.and_eq_true,adu,dU]at hg
        exact hg.2.2
       ·cases Af
      ·cases Af
     refine hgo _ (ρ++rs) h2 ⟨rs,rfl⟩ an3 (.inr ⟨hw,r0,sv,Af,hpu,by omega,fun e he=>by rw[Ex.cg X4 (arM e he)];exact VP e he,fun f' WY n' hc=> ?_,rfl,LO⟩)
     rw[dU]at hc;cases hc
     refine⟨rs,by rw[OC X4 hes];exact hF,hlen,fun i hi=> ?_⟩
     rw[hnv,getD_eq_getElem?_getD,getElem?_append_right (by omega),Nat.add_sub_cancel_left,<-getD_eq_getElem?_getD]
open Go.RowKit
section
variable {X:Cx}{Γ:Nat->fF}{ops:iu}{ρ:aP}{σ0:St}{items:List Item}{B:mC}{w0:World}{c c0:Ct}{a:Act}{w:World}
def Kw (listed:Array Bool):Nat->Bool:=fun j=>listed.getD j false
def UH (items:List Item) (S:Nat->Bool):Prop:=∀(j:Nat) (x:Item),items[j]? =some x->S j=true->∀k,x.pre.testBit k=true->S k=true
theorem Q8 {l:List Item}{x:Item} (h:W3 l x=true){j:Nat}{y:Item} (hy:l[j]? =some y) (hp:x.pre.testBit j=false):
 (∀p∈y.r.nb,p∉x.r.nb)/\(∀p∈y.r.nr,p∉x.r.nr)/\(∀n,y.wr.testBit n=true->x.rd.testBit n=false/\x.wr.testBit n=false)/\(∀n,y.rd.testBit n=true->x.wr.testBit n=false):=by
 unfold W3 at h
 have:=all_eq_true.1 h (y,j) (by
  rw[mem_iff_getElem?]
  exact⟨j,by rw[getElem?_zipIdx,hy];simp⟩)
 simp only[Bool.and_eq_true,hp,Bool.false_or,all_eq_true]at this
 obtain⟨⟨h1,h2⟩,h3,h4⟩:=this
 refine⟨fun p LN hm=> ?_,fun p LN hm=> ?_,fun n hn=>⟨?_,?_⟩,fun n hn=> ?_⟩
 ·have:=h1 p LN;simp[pV.2 hm]at this
 ·have:=h2 p LN;simp[pV.2 hm]at this
 ·cases hb:x.rd.testBit n
  ·rfl
  ·exact(VX h3 hn (NU hb)).elim
 ·cases hb:x.wr.testBit n
  ·rfl
  ·exact(VX h3 hn (AH hb)).elim
 ·cases hb:x.wr.testBit n
  ·rfl
  ·exact(VX h4 hn hb).elim
theorem acA {l:List Item}{x:Item} (h:W3 l x=true){j:Nat}{y:Item} (hy:l[j]? =some y):(∀p∈y.r.nb,p∉x.r.nb)/\(∀p∈y.r.nr,p∉x.r.nr):=by
 unfold W3 at h
 have:=all_eq_true.1 h (y,j) (by
  rw[mem_iff_getElem?]
  exact⟨j,by rw[getElem?_zipIdx,hy];simp⟩)
 simp only[Bool.and_eq_true,all_eq_true]at this
 obtain⟨⟨h1,h2⟩,_⟩:=this
 exact⟨fun p LN hm=>by have:=h1 p LN;simp[pV.2 hm]at this,fun p LN hm=>by have:=h2 p LN;simp[pV.2 hm]at this⟩
theorem agE (items:List Item) (k:Nat):∀(l:List Edge) (acc:Nat),(l.foldl (fun acc e=>if Region.binds .any e then lor acc (lor (shiftLeft 1 e.on) (match items[e.on]? with|some x=>x.pre|none=>0))else acc) acc).testBit k=true->
 acc.testBit k=true\/∃e∈l,Region.binds .any e=true/\(e.on=k\/∃y,items[e.on]? =some y/\y.pre.testBit k=true)
 |[],acc,h=> .inl h
 |e::l,acc,h=>by
  rcases agE items k l _ h with h|⟨e',he',h⟩
  ·dsimp only at h
   by_cases hb:Region.binds .any e=true
   ·rw[if_pos hb]at h
    have h:(acc|||(shiftLeft 1 e.on|||(match items[e.on]? with|some x=>x.pre|none=>0))).testBit k=true:=h
    rw[testBit_or,testBit_or]at h
    simp only[Bool.or_eq_true]at h
    rcases h with h|h|h
    ·exact .inl h
    ·refine .inr ⟨e,mem_cons_self ..,hb,.inl ?_⟩
     have:shiftLeft 1 e.on=2^e.on:=by show 1<<<e.on=_;rw[one_shiftLeft]
     rw[this,testBit_two_pow]at h
     simpa using h
    ·refine .inr ⟨e,mem_cons_self ..,hb,.inr ?_⟩
     split at h
     ·rename_i x hx;exact⟨x,hx,h⟩
     ·simp at h
   ·rw[if_neg hb]at h;exact .inl h
  ·exact .inr ⟨e',mem_cons_of_mem _ he',h⟩
theorem aat {items:List Item}{o:Oper}{k:Nat} (h:(Ud items o).testBit k=true):∃e∈o.after.toList,Region.binds .any e=true/\(e.on=k\/∃y,items[e.on]? =some y/\y.pre.testBit k=true):=by
 unfold Ud at h
 rcases agE items k _ _ h with h|h
 ·simp at h
 ·exact h
theorem amA (hp:vP X Γ ops ρ σ0 items){S:Nat->Bool} (hS:UH items S){i:Nat}{x:Item} (hx:items[i]? =some x) (ab3:∀k,x.pre.testBit k=true->S k=true) (hi:S i=false){l:Nat} (hl:x.rd.testBit l=true):
 look (eZ S items 0 σ0) l=look (eZ lV (items.take i) 0 σ0) l:=by
 have hi2:i<items.length:=(List.getElem?_eq_some_iff.1 hx).1
 have e0:eZ lV (items.take i) 0 σ0=eZ (fun j=>decide (j<i)) items 0 σ0:=by
  conv=>rhs;rw[<-take_append_drop i items]
  rw[F1,BH _ (items.drop i) _ _ (fun j _=>by simp;omega)]
  have:∀(m:List Item) (j:Nat) (σ:St),j+m.length<=i->eZ lV m j σ=eZ (fun j=>decide (j<i)) m j σ:=by
   intro m
   induction m with
   |nil=>intro _ _ _;rfl
   |cons y m ih=>intro j σ hj;simp only[length_cons]at hj;simp only[eZ,lV,if_true];rw[if_pos (by simp;omega)];exact ih (j+1) _ (by omega)
  exact this _ 0 _ (by simp;omega)
 rw[e0]
 refine Au l items 0 σ0 σ0 rfl rfl (fun j y hj hw=> ?_)
 simp only[Nat.zero_add]
 have hwb:y.wr.testBit l=true:=by
  obtain⟨o,_,q2,_,q4,_⟩:=hp j y hj
  rw[q4,<-q2];exact Wq hw
 rcases Nat.lt_trichotomy j i with h|h|h
 ·rw[show decide (j<i)=true by simpa using h]
  obtain⟨o,_,_,_,_,_,_,q7,_⟩:=hp i x hx
  cases hb:x.pre.testBit j
  ·have hy:(items.take i)[j]? =some y:=by rw[getElem?_take,if_pos h];exact hj
   have:=(Q8 q7 hy hb).2.2.1 l hwb
   rw[hl]at this;cases this.1
  ·exact ab3 j hb
 ·subst h;rw[hi];simp
 ·rw[show decide (j<i)=false by simp;omega]
  cases hs:S j
  ·rfl
  ·obtain⟨o,_,_,_,_,_,_,q7,_⟩:=hp j y hj
   cases hb:y.pre.testBit i
   ·have hxx:(items.take j)[i]? =some x:=by rw[getElem?_take,if_pos h];exact hx
    have:=(Q8 q7 hxx hb).2.2.2 l hl
    rw[hwb]at this;cases this
   ·have:=hS j y hj hs i hb
    rw[hi]at this;cases this
theorem amB (hp:vP X Γ ops ρ σ0 items){S:Nat->Bool} (hS:UH items S){i:Nat}{x:Item} (hx:items[i]? =some x) (hi:S i=false){S':Nat->Bool} (hS':∀j,S' j=(S j||decide (j=i))) (l:Nat):
 look (eZ S' items 0 σ0) l=look ((eZ S items 0 σ0).after x.dst x.r) l:=by
 have hi2:i<items.length:=(List.getElem?_eq_some_iff.1 hx).1
 by_cases hw:Wr x.dst x.r l
 ·
  have ail:items=items.take i++x::items.drop (i+1):=by
   conv=>lhs;rw[<-take_append_drop i items]
   congr 1
   rw[drop_eq_getElem_cons hi2]
   congr 1
   exact(List.getElem?_eq_some_iff.1 hx).2
  have hlen:(items.take i).length=i:=by simp;omega
  have Yv:∀j y,items[j]? =some y->i<j->Wr y.dst y.r l->S j=false:=fun j y hj fU hwy=>by
   cases hs:S j
   ·rfl
   ·obtain⟨o,_,q2,_,q4,_,_,q7,_⟩:=hp j y hj
    obtain⟨o',_,p2,_,p4,_⟩:=hp i x hx
    have hxw:x.wr.testBit l=true:=by rw[p4,<-p2];exact Wq hw
    have hyw:y.wr.testBit l=true:=by rw[q4,<-q2];exact Wq hwy
    cases hb:y.pre.testBit i
    ·have hxx:(items.take j)[i]? =some x:=by rw[getElem?_take,if_pos fU];exact hx
     have:=(Q8 q7 hxx hb).2.2.1 l hxw
     rw[hyw]at this;cases this.2
    ·have:=hS j y hj hs i hb
     rw[hi]at this;cases this
  have e1:look (eZ S' items 0 σ0) l=look ((eZ S' (items.take i) 0 σ0).after x.dst x.r) l:=by
   conv=>lhs;rw[ail]
   rw[F1,eZ,hlen,Nat.zero_add,show S' i=true by rw[hS'];simp,if_pos rfl]
   have:=Au (S:=S') (S':=fun _=>false) l (items.drop (i+1)) (i+1) ((eZ S' (items.take i) 0 σ0).after x.dst x.r) ((eZ S' (items.take i) 0 σ0).after x.dst x.r) rfl rfl (fun j y hj hwy=>by
    rw[getElem?_drop]at hj
    have:=Yv (i+1+j) y hj (by omega) hwy
    rw[hS',this];simp;omega)
   rw[this,BH _ _ _ _ (fun _ _=>rfl)]
  rw[e1]
  exact Y3 (by rw[o6,o6]) (.inr hw) (fun t ht=>by rw[Od (by rw[o6];rw[o6]at ht;exact ht),Od ht])
 ·rw[UP hw]
  refine Au l items 0 σ0 σ0 rfl rfl (fun j y hj hwy=> ?_)
  simp only[Nat.zero_add]
  rw[hS']
  have:j≠i:=fun e=>by subst e;rw[hx]at hj;cases hj;exact hw hwy
  simp[this]
structure SB (P:Program) (B:mC) (w0:World) (c:Ct) (σ0:St) (items:List Item) (ρ:aP) (S:Nat->Bool) (c':Ct) (a:Act) (w:World):Prop where
 sub:c.sub c'
 env:c'.ρ=ρ
 dD:aX P B w0 (eZ S items 0 σ0) c' a w
 β:∀p,(∀j x,items[j]? =some x->S j=true->p∉x.r.nb)->c'.β p=c.β p
 R:∀p,(∀j x,items[j]? =some x->S j=true->p∉x.r.nr)->c'.R p=c.R p
end
open Go.RowKit
section
variable {X:Cx}{Γ:Nat->fF}{ops:iu}{ρ:aP}{σ0:St}{items:List Item}{B:mC}{w0:World}{c c0:Ct}{a:Act}{w:World}
theorem Av (S:Nat->Bool):∀(l:List Item) (j:Nat) (σ:St),σ.aO.length<=(eZ S l j σ).aO.length/\σ.rows.length<=(eZ S l j σ).rows.length
 |[],_,_=>⟨Nat.le_refl _,Nat.le_refl _⟩
 |x::l,j,σ=>by
  have ih:=Av S l (j+1) (if S j then σ.after x.dst x.r else σ)
  have h1:=sS x.r.aO σ.aO
  have h2:=dP x.r.rows σ.rows
  simp only[eZ]
  split at ih
  ·rename_i hs
   rw[if_pos hs]
   exact⟨Nat.le_trans h1.1 ih.1,Nat.le_trans h2.1 ih.2⟩
  ·rename_i hs
   rw[if_neg hs];exact ih
theorem H7 (S:Nat->Bool):∀(l:List Item) (j:Nat) (σ:St) (i:Nat) (x:Item),l[i]? =some x->S (j+i)=true->(∀y∈x.r.aO,y.1<(eZ S l j σ).aO.length)/\(∀y∈x.r.rows,y.1<(eZ S l j σ).rows.length)
 |y::l,j,σ,0,x,h,hs=>by
  simp at h;subst h
  simp only[Nat.add_zero]at hs
  simp only[eZ,hs,if_true]
  have h1:=sS y.r.aO σ.aO
  have h2:=dP y.r.rows σ.rows
  have h3:=Av S l (j+1) (σ.after y.dst y.r)
  exact⟨fun z hz=>Nat.lt_of_lt_of_le (h1.2 z hz) h3.1,fun z hz=>Nat.lt_of_lt_of_le (h2.2 z hz) h3.2⟩
 |y::l,j,σ,i+1,x,h,hs=>by
  simp only[eZ]
  exact H7 S l (j+1) _ i x (by simpa using h) (by rw[show j+1+i=j+(i+1)by omega];exact hs)
 |[],_,_,_,_,h,_=>by simp at h
theorem agW (hX:X.ok Γ B w0) (hp:vP X Γ ops ρ σ0 items) (hf0:nZ σ0 c){S:Nat->Bool} (hS:UH items S){c':Ct} (pW:SB X.P B w0 c σ0 items ρ S c' a w){i:Nat}{x:Item} (hx:items[i]? =some x) (ab3:∀k,x.pre.testBit k=true->S k=true) (hi:S i=false)
 {S':Nat->Bool} (hS':∀j,S' j=(S j||decide (j=i))) (Q:Exit->Act->World->Prop) (K:Act->World->Prop) (hK:∀c2 a2 w2,SB X.P B w0 c σ0 items ρ S' c2 a2 w2->K a2 w2):wpOp X.P ops.toArray Q i K a w:=by
 obtain⟨o,ho,aDi,gY,hwr,aHL,ZW,vX,Qo⟩:=hp i x hx
 have at7:∀l,Rs (eZ lV (items.take i) 0 σ0) (Cb ops o) (Gh (eZ lV (items.take i) 0 σ0).slot ops o) (LQ ops o) l->look (eZ S items 0 σ0) l=look (eZ lV (items.take i) 0 σ0) l:=fun l hl=>
  amA hp hS hx ab3 hi (by rw[gY];exact alE hl)
 have anP:DZ ops (eZ S items 0 σ0) o=DZ ops (eZ lV (items.take i) 0 σ0) o:=by
  unfold DZ
  cases hg:o.guard with
  |none=>rfl
  |some gw=>
   obtain⟨gi,want⟩:=gw
   simp only
   cases ht:(ops[gi]?).bind (·.dst)with
   |none=>rfl
   |some t=>
    have Pv:t∈Cb ops o:=by unfold Cb;rw[hg];simp only;rw[ht];simp
    have:=at7 (3*t) (.inl ⟨t,Pv,rfl⟩)
    rw[D7,D7]at this
    simp only[(Prod.mk.inj this).1]
 have afZ:∀(c2:Ct) (v:Value) (w2:World),c'.sub c2->c2.ρ=ρ->x.r.val.rel c2 v->aX X.P B w0 {(eZ S items 0 σ0)with aO:=di (eZ S items 0 σ0).aO x.r.aO,rows:=aH (eZ S items 0 σ0).rows x.r.rows} c2 a w2->
  (∀p,p∉x.r.nb->c2.β p=c'.β p)->(∀p,p∉x.r.nr->c2.R p=c'.R p)->K (a.put o.dst v) w2:=by
  intro c2 v w2 Cz EH i8 hg hβ hR
  refine hK c2 _ w2 ⟨pW.sub.trans Cz,EH,?_,fun p h=> ?_,fun p h=> ?_⟩
  ·have g1:=hg.put i8 o.dst
   refine g1.congr ?_ (fun l=> ?_)
   ·have:=g1.size
    rw[o6]
    have h2:=pW.dD.size
    rw[o6]at h2
    cases hd:o.dst<;>simp[Act.put]<;>exact h2
   ·rw[amB hp hS hx hi hS' l,aDi]
    unfold St.after
    cases o.dst<;>rfl
  ·rw[hβ p (h i x hx (by rw[hS'];simp))]
   exact pW.β p (fun j y hj hs=>h j y hj (by rw[hS',hs];rfl))
  ·rw[hR p (h i x hx (by rw[hS'];simp))]
   exact pW.R p (fun j y hj hs=>h j y hj (by rw[hS',hs];rfl))
 unfold wpOp
 simp only[getElem?_toArray,ho]
 rcases ZW with⟨hw,hr⟩|⟨hw,r0,sv,Af,hpu,hnv,VP,ah7,hr,LO⟩
 ·have aaa:=OY (anP.trans hw) pW.dD
  rw[if_neg (by rw[aaa];simp)]
  exact afZ c' undef w (.refl _) pW.env (by rw[hr];exact⟨[],rfl,trivial⟩) (by rw[hr];exact pW.dD) (fun _ _=>rfl) (fun _ _=>rfl)
 ·have aaa:=OY (anP.trans hw) pW.dD
  rw[if_pos aaa]
  left
  unfold LV at Af
  split at Af
  rotate_left
  ·cases Af
  rename_i r0' af8
  split at Af
  rotate_left
  ·cases Af
  rename_i hgc
  cases Af
  simp only[Bool.and_eq_true]at hgc
  obtain⟨af0,aBJ⟩:=hgc
  simp only[ZN,Bool.and_eq_true,all_eq_true,any_eq_true]at af0
  obtain⟨hgb,hgr⟩:=af0
  have hnb:∀p∈r0.nb,(eZ lV (items.take i) 0 σ0).aO.length<=p:=fun p LN=>by rw[eq_of_beq_eq_true (hgb p LN).1];exact Nat.le_refl _
  have hnr:∀p∈r0.nr,(eZ lV (items.take i) 0 σ0).rows.length<=p:=fun p LN=>le_of_ble_eq_true (hgr p LN).1
  have aDV:(eZ lV (items.take i) 0 σ0).rd ops o=Yb (eZ S items 0 σ0).slot (eZ S items 0 σ0).blk (eZ S items 0 σ0).row (Cb ops o) (Gh (eZ lV (items.take i) 0 σ0).slot ops o) (LQ ops o) (eZ lV (items.take i) 0 σ0).nv (eZ lV (items.take i) 0 σ0).aO.length (eZ lV (items.take i) 0 σ0).rows.length:=by
   unfold St.rd
   exact(aiG (alu _ ops o) (alv _ ops o) at7 _ _ _).symm
  rw[aDV]at af8
  have hval:x.r.val=sv/\x.r.aO=r0.aO/\x.r.rows=r0.rows/\x.r.nb=r0.nb/\x.r.nr=r0.nr:=by rw[hr];exact⟨rfl,rfl,rfl,rfl,rfl⟩
  obtain⟨v1,v2,v3,v4,v5⟩:=hval
  have at6:=Av lV (items.take i) 0 σ0
  have Z2:∀(p j:Nat) (y:Item),items[j]? =some y->S j=true->(p∈r0.nb->p∉y.r.nb)/\(p∈r0.nr->p∉y.r.nr):=by
   intro p j y hj hs
   rcases Nat.lt_trichotomy j i with h|h|h
   ·have hy:(items.take i)[j]? =some y:=by rw[getElem?_take,if_pos h];exact hj
    have:=acA vX hy
    rw[v4,v5]at this
    exact⟨fun h1 h2=>this.1 p h2 h1,fun h1 h2=>this.2 p h2 h1⟩
   ·subst h;rw[hi]at hs;cases hs
   ·obtain⟨o',_,_,_,_,_,_,azC,_⟩:=hp j y hj
    have hy:(items.take j)[i]? =some x:=by rw[getElem?_take,if_pos h];exact hx
    have:=acA azC hy
    rw[v4,v5]at this
    exact⟨fun h1=>this.1 p h1,fun h1=>this.2 p h1⟩
  have hfb:∀p∈r0.nb,c'.β p=none:=fun p LN=>by
   rw[pW.β p (fun j y hj hs=>(Z2 p j y hj hs).1 LN)]
   exact hf0.β p (Nat.le_trans at6.1 (hnb p LN))
  have ur:∀p∈r0.nr,c'.R p=none:=fun p LN=>by
   rw[pW.R p (fun j y hj hs=>(Z2 p j y hj hs).2 LN)]
   exact hf0.R p (Nat.le_trans at6.2 (hnr p LN))
  have auj:∀(c2:Ct) (v:Value),c2.ρ=ρ->r0.val.rel c2 v->x.r.val.rel c2 v:=fun c2 v hc2 hv=>by
   rw[v1]
   rcases LO with rfl|⟨e,y,e1,rfl,e3⟩
   ·exact hv
   ·rw[e1]at hv
    have hv:v= .bool (e.ev c2.ρ).bool:=hv
    show v= .bool y
    rw[hv,hc2,e3]
  have arL:∀e∈r0.lN,(e.ev c'.ρ).bool=true:=fun e he=>by rw[pW.env];exact VP e he
  have anU:r0.call=none\/∃f es n,r0.call=some (f,es,n):=by cases r0.call with|none=>exact .inl rfl|some z=>exact .inr ⟨z.1,z.2.1,z.2.2,rfl⟩
  rcases anU with dU|⟨f,es,n,dU⟩
  ·obtain⟨nx,w',v,c2,jX,hnx,hle,hβ,hR,i8,hg⟩:=auz (o:=o) hX.pl pW.dD (Ui pW.dD _ _ _ _ _ _) hfb ur af8 dU arL
   have afY:c2.ρ=ρ:=hle.ρ.trans pW.env
   have aoa:K (a.put o.dst v) w':=afZ c2 v w' hle.sub afY (auj c2 v afY i8) (by rw[v2,v3];exact hg) (by rw[v4];exact hβ) (by rw[v5];exact hR)
   unfold Oper.wp
   rw[jX]
   rcases hnx with rfl|⟨rfl,rfl⟩
   ·exact aoa
   ·exact aoa
  ·obtain⟨rs,hF,hlen,Yx⟩:=ah7 f es n dU
   refine ajt (o:=o) pW.dD (Ui pW.dD _ _ _ _ _ _) hX.cons af8 dU (rs:=rs) (by rw[pW.env];exact hF) (fun k hk=>by rw[pW.env];exact Yx k hk) ur K _ ?_
   intro v w' c2 hle hβ hR i8 hg
   have afY:c2.ρ=ρ:=hle.ρ.trans pW.env
   exact afZ c2 v w' hle.sub afY (auj c2 v afY i8) (by rw[v2,v3];exact hg) (fun p _=>by rw[hβ]) (by rw[v5];exact hR)
theorem akI (hX:X.ok Γ B w0) (hp:vP X Γ ops ρ σ0 items) (hlen:items.length=ops.length) (hf0:nZ σ0 c) (Q:Exit->Act->World->Prop) (hQ:∀c2 a2 w2,SB X.P B w0 c σ0 items ρ lV c2 a2 w2->Q .normal a2 w2):
 ∀(fuel:Nat) (listed:Array Bool) (a:Act) (w:World) (c':Ct),listed.size=ops.length->UH items (Kw listed)->SB X.P B w0 c σ0 items ρ (Kw listed) c' a w->(∃l:jl,l.length<=fuel/\∀i,i<ops.length->Kw listed i=false->i∈l)->
  wpAny X.P .any ops.toArray Q fuel listed a w:=by
 have aij:∀(listed:Array Bool),listed.size=ops.length->UH items (Kw listed)->Region.ready .any ops.toArray listed=[]->∀i,i<ops.length->Kw listed i=true:=by
  intro listed kZ Mn hr i
  induction i using Nat.strongRecOn with
  |_ i ih=>
   intro hi
   cases hs:Kw listed i
   ·exfalso
    have:i∈Region.ready .any ops.toArray listed:=by
     rw[mem_ready]
     refine⟨?_,ops[i],by simp[hi],fun e he hb=> ?_⟩
     ·unfold Kw at hs
      have:i<listed.size:=by omega
      simp[Array.getElem?_eq_getElem this]at hs⊢;exact hs
     ·obtain⟨x,hx⟩:∃x,items[i]? =some x:=⟨items[i],getElem?_eq_getElem (by omega)⟩
      obtain⟨o,ho,_,_,_,_,_,_,Qo⟩:=hp i x hx
      have ho2:ops[i]=o:=by rw[getElem?_eq_getElem hi]at ho;exact Option.some.inj ho
      unfold UY at Qo
      rw[ho2]at he
      have:=all_eq_true.1 Qo e (by simpa using he)
      simp only[hb,Bool.not_true,Bool.false_or]at this
      have fU:e.on<i:=le_of_ble_eq_true (by simpa[blt]using this)
      exact ih e.on fU (by omega)
    rw[hr]at this;cases this
   ·rfl
 have X3:∀(listed:Array Bool) (a:Act) (w:World) (c':Ct),SB X.P B w0 c σ0 items ρ (Kw listed) c' a w->(∀i,i<ops.length->Kw listed i=true)->Q .normal a w:=by
  intro listed a w c' pW Rp
  refine hQ c' a w ⟨pW.sub,pW.env,?_,fun p h=>pW.β p (fun j x hj _=>h j x hj rfl),fun p h=>pW.R p (fun j x hj _=>h j x hj rfl)⟩
  refine pW.dD.congr (by have:=pW.dD.size;rw[o6]at this⊢;exact this) (fun l=>Au l items 0 σ0 σ0 rfl rfl (fun i x hx _=> ?_))
  have:i<items.length:=(List.getElem?_eq_some_iff.1 hx).1
  simp only[Nat.zero_add,lV]
  exact(Rp i (by omega)).symm
 intro fuel
 induction fuel with
 |zero=>
  intro listed a w c' kZ Mn pW ⟨l,hl,X2⟩
  have Rp:∀i,i<ops.length->Kw listed i=true:=fun i hi=>by
   cases hs:Kw listed i
   ·have hm:=X2 i hi hs
    have:l=[]:=eq_nil_of_length_eq_zero (by omega)
    subst this
    cases hm
   ·rfl
  refine⟨?_,X3 listed a w c' pW Rp⟩
  cases hr:Region.ready .any ops.toArray listed with
  |nil=>rfl
  |cons i is=>
   have:i∈Region.ready .any ops.toArray listed:=by rw[hr];exact mem_cons_self ..
   obtain⟨h0,o,ho,_⟩:=mem_ready.1 this
   have hi:i<ops.length:=by have:=(Array.getElem?_eq_some_iff.1 ho).1;simpa using this
   have:=Rp i hi
   unfold Kw at this
   have fU:i<listed.size:=by omega
   simp[Array.getElem?_eq_getElem fU]at h0 this
   rw[h0]at this;cases this
 |succ fuel ih=>
  intro listed a w c' kZ Mn pW ⟨l,hl,X2⟩
  refine⟨fun hr=>X3 listed a w c' pW (aij listed kZ Mn hr),fun i hi=> ?_⟩
  obtain⟨h0,o,ho,ah9⟩:=mem_ready.1 hi
  have azK:i<ops.length:=by have:=(Array.getElem?_eq_some_iff.1 ho).1;simpa using this
  obtain⟨x,hx⟩:∃x,items[i]? =some x:=⟨items[i],getElem?_eq_getElem (by omega)⟩
  have fU:i<listed.size:=by omega
  have hun:Kw listed i=false:=by unfold Kw;simp[Array.getElem?_eq_getElem fU]at h0⊢;exact h0
  obtain⟨o',ho',_,_,_,ab3,_⟩:=hp i x hx
  have hoo:o'=o:=by simp at ho;rw[ho]at ho';exact(Option.some.inj ho').symm
  subst hoo
  have Z3:∀k,x.pre.testBit k=true->Kw listed k=true:=fun k hk=>by
   rw[ab3]at hk
   obtain⟨e,he,hb,hor⟩:=aat hk
   have LM:=ah9 e (by simpa using he) hb
   rcases hor with rfl|⟨y,hy,hyk⟩
   ·exact LM
   ·rw[getElem?_take]at hy
    split at hy
    ·exact Mn e.on y hy LM k hyk
    ·cases hy
  have Pw:∀j,Kw (listed.setIfInBounds i true) j=(Kw listed j||decide (j=i)):=fun j=>by
   unfold Kw
   by_cases hj:j=i
   ·subst hj;simp[fU]
   ·simp[Array.getElem?_setIfInBounds_ne (Ne.symm hj),hj]
  refine agW hX hp hf0 Mn pW hx Z3 hun Pw Q _ (fun c2 a2 w2 aoi=>ih _ a2 w2 c2 (by simpa using kZ) (fun j y hj hs k hk=> ?_) aoi ⟨l.erase i,?_,fun j hj hs=> ?_⟩)
  ·rw[Pw]at hs⊢
   by_cases hji:j=i
   ·subst hji
    rw[hx]at hj;cases hj
    rw[Z3 k hk];rfl
   ·simp[hji]at hs
    rw[Mn j y hj hs k hk];rfl
  ·have hm:=X2 i azK hun
   rw[length_erase_of_mem hm];omega
  ·rw[Pw]at hs
   simp only[Bool.or_eq_false_iff,decide_eq_false_iff_not]at hs
   exact(mem_erase_of_ne hs.2).2 (X2 j hj hs.1)
theorem ash {ops:iu}{σ:St}{N:Nx}{gl:List Item}{r:aP} (hp:vP X Γ ops (c.ρ++r) σ gl) (hnv:(eZ lV gl 0 σ).nv=(c.ρ++r).length) (hi:Is X.P B w0 c0 c σ c.ρ N a w){c2:Ct}{a2:Act}{w2:World}
 (pW:SB X.P B w0 {c with ρ:=c.ρ++r} σ gl (c.ρ++r) lV c2 a2 w2):Is X.P B w0 c0 c2 (eZ lV gl 0 σ) (c.ρ++r) N a2 w2:=by
 refine⟨hi.sub.trans ⟨pW.sub.K,pW.sub.β,pW.sub.R⟩,pW.env,pW.dD,⟨fun p LN=> ?_,fun p LN=> ?_⟩,hnv,?_⟩
 ·rw[pW.β p (fun j x hj _ hm=> ?_)]
  ·exact hi.fresh.β p (Nat.le_trans (Av lV gl 0 σ).1 LN)
  ·obtain⟨o,ho,_,_,_,_,ZW,_,_⟩:=hp j x hj
   rcases ZW with⟨_,hr⟩|⟨_,r0,sv,Af,_,_,_,_,hr,_⟩
   ·rw[hr]at hm;simp[QD,il.pure]at hm
   ·rw[hr]at hm
    unfold LV at Af
    split at Af
    ·split at Af
     ·rename_i hg;cases Af
      simp only[Bool.and_eq_true,ZN,all_eq_true,any_eq_true]at hg
      obtain⟨y,hy,e⟩:=(hg.1.1 p hm).2
      have:=(H7 lV gl 0 σ j x hj rfl).1 y (by rw[hr];exact hy)
      rw[eq_of_beq_eq_true e]at this;omega
     ·cases Af
    ·cases Af
 ·rw[pW.R p (fun j x hj _ hm=> ?_)]
  ·exact hi.fresh.R p (Nat.le_trans (Av lV gl 0 σ).2 LN)
  ·obtain⟨o,ho,_,_,_,_,ZW,_,_⟩:=hp j x hj
   rcases ZW with⟨_,hr⟩|⟨_,r0,sv,Af,_,_,_,_,hr,_⟩
   ·rw[hr]at hm;simp[QD,il.pure]at hm
   ·rw[hr]at hm
    unfold LV at Af
    split at Af
    ·split at Af
     ·rename_i hg;cases Af
      simp only[Bool.and_eq_true,ZN,all_eq_true,any_eq_true]at hg
      obtain⟨y,hy,e⟩:=(hg.1.2 p hm).2
      have:=(H7 lV gl 0 σ j x hj rfl).2 y (by rw[hr];exact hy)
      rw[eq_of_beq_eq_true e]at this;omega
     ·cases Af
    ·cases Af
 ·have:∀(l:List Item) (j:Nat) (s:St),(eZ lV l j s).lv=s.lv:=by
   intro l
   induction l with
   |nil=>intro _ _;rfl
   |cons x l ih=>intro j s;simp only[eZ,lV,if_true];rw[ih];rfl
  rw[this];exact hi.lv
theorem amD (hX:X.ok Γ B w0){m:Nat} (hp:vP X Γ ops ρ σ0 items) (hlen:items.length=m) (hm:m<ops.length) (hs:Region.sinkB .any ops.toArray m=true) (hc:Region.chainB .any ops.toArray m=true)
 (hq:Region.seqB .any ops.toArray (ops.length-m) m (Jd m ops.length)=true) (hf0:nZ σ0 c) (Q:Exit->Act->World->Prop) (hQ:∀c2 a2 w2,SB X.P B w0 c σ0 items ρ lV c2 a2 w2->wpList X.P ops.toArray Q (ops.drop m) a2 w2):
 ∀(h:Nat) (listed:Array Bool) (a:Act) (w:World) (c':Ct),HeadInv .any ops.toArray m listed->UH items (Kw listed)->SB X.P B w0 c σ0 items ρ (Kw listed) c' a w->(∃l:jl,l.length=h/\l.Nodup/\∀i,i∈l↔i<m/\Kw listed i=false)->
  wpAny X.P .any ops.toArray Q (h+(ops.length-m)) listed a w:=by
 have hm':m<ops.toArray.size:=by simpa using hm
 have aij:∀(listed:Array Bool),HeadInv .any ops.toArray m listed->Region.ready .any ops.toArray listed=[]->∀i,i<m->Kw listed i=true:=by
  intro listed inv hr i
  have kZ:listed.size=ops.length:=by simpa using inv.size
  induction i using Nat.strongRecOn with
  |_ i ih=>
   intro hi
   cases hs:Kw listed i
   ·exfalso
    have:i∈Region.ready .any ops.toArray listed:=by
     rw[mem_ready]
     refine⟨?_,ops[i],by simp,fun e he hb=> ?_⟩
     ·unfold Kw at hs
      have:i<listed.size:=by omega
      simp[Array.getElem?_eq_getElem this]at hs⊢;exact hs
     ·obtain⟨x,hx⟩:∃x,items[i]? =some x:=⟨items[i],getElem?_eq_getElem (by omega)⟩
      obtain⟨o,ho,_,_,_,_,_,_,Qo⟩:=hp i x hx
      have ho2:ops[i]=o:=by rw[getElem?_eq_getElem (by omega)]at ho;exact Option.some.inj ho
      unfold UY at Qo
      rw[ho2]at he
      have:=all_eq_true.1 Qo e (by simpa using he)
      simp only[hb,Bool.not_true,Bool.false_or]at this
      have fU:e.on<i:=le_of_ble_eq_true (by simpa[blt]using this)
      exact ih e.on fU (by omega)
    rw[hr]at this;cases this
   ·rfl
 intro h
 induction h with
 |zero=>
  intro listed a w c' inv Mn pW ⟨l,hl,_,X2⟩
  have kZ:listed.size=ops.length:=by simpa using inv.size
  have Rp:∀i,i<m->Kw listed i=true:=fun i hi=>by
   cases hs:Kw listed i
   ·have Pv:=(X2 i).2 ⟨hi,hs⟩
    have:l=[]:=eq_nil_of_length_eq_zero hl
    subst this
    cases Pv
   ·rfl
  have he:listed=Jd m ops.length:=by
   refine Array.ext (by simp[Jd,kZ];omega) (fun i h1 h2=> ?_)
   by_cases hi:i<m
   ·have:=Rp i hi
    unfold Kw at this
    simp[h1]at this
    rw[this]
    simp[Jd,hi]
   ·have:=inv.tail i (by omega) (by simpa using(by omega:i<ops.length))
    simp[h1]at this
    rw[this]
    simp[Jd,getElem_append,hi]
  have aoi:SB X.P B w0 c σ0 items ρ lV c' a w:=by
   refine⟨pW.sub,pW.env,?_,fun p h=>pW.β p (fun j x hj _=>h j x hj rfl),fun p h=>pW.R p (fun j x hj _=>h j x hj rfl)⟩
   refine pW.dD.congr (by have:=pW.dD.size;rw[o6]at this⊢;exact this) (fun l=>Au l items 0 σ0 σ0 rfl rfl (fun i x hx _=> ?_))
   have:i<items.length:=(List.getElem?_eq_some_iff.1 hx).1
   simp only[Nat.zero_add,lV]
   exact(Rp i (by omega)).symm
  have:=wpAny_of_seq (P:=X.P) (md:= .any) (ops:=ops.toArray) (Q':=Q) (ops.drop m) m listed a w (fun j=>by simp[getElem?_drop]) (by rw[length_drop,he];exact hq) (hQ c' a w aoi)
  rw[length_drop]at this
  rw[Nat.zero_add];exact this
 |succ h ih=>
  intro listed a w c' inv Mn pW ⟨l,hl,hnd,X2⟩
  have kZ:listed.size=ops.length:=by simpa using inv.size
  obtain⟨i0,hi0⟩:∃i0,i0∈l:=by
   cases l with
   |nil=>simp at hl
   |cons x r=>exact⟨x,mem_cons_self ..⟩
  obtain⟨azH,azI⟩:=(X2 i0).1 hi0
  rw[show h+1+(ops.length-m)=(h+(ops.length-m))+1 by omega]
  refine⟨fun hr=>(by have:=aij listed inv hr i0 azH;rw[azI]at this;cases this),fun i hi=> ?_⟩
  obtain⟨h0,o,ho,ah9⟩:=mem_ready.1 hi
  have azK:i<ops.length:=by have:=(Array.getElem?_eq_some_iff.1 ho).1;simpa using this
  have him:i<m:=by
   rcases Nat.lt_or_ge i m with h|h
   ·exact h
   ·exact absurd hi (tail_waits hs hc hm' inv _ i0 rfl azH (getD_in (by omega) azI) i h)
  obtain⟨x,hx⟩:∃x,items[i]? =some x:=⟨items[i],getElem?_eq_getElem (by omega)⟩
  have fU:i<listed.size:=by omega
  have hun:Kw listed i=false:=by unfold Kw;simp[Array.getElem?_eq_getElem fU]at h0⊢;exact h0
  obtain⟨o',ho',_,_,_,ab3,_⟩:=hp i x hx
  have hoo:o'=o:=by simp at ho;rw[ho]at ho';exact(Option.some.inj ho').symm
  subst hoo
  have Z3:∀k,x.pre.testBit k=true->Kw listed k=true:=fun k hk=>by
   rw[ab3]at hk
   obtain⟨e,he,hb,hor⟩:=aat hk
   have LM:=ah9 e (by simpa using he) hb
   rcases hor with rfl|⟨y,hy,hyk⟩
   ·exact LM
   ·rw[getElem?_take]at hy
    split at hy
    ·exact Mn e.on y hy LM k hyk
    ·cases hy
  have Pw:∀j,Kw (listed.setIfInBounds i true) j=(Kw listed j||decide (j=i)):=fun j=>by
   unfold Kw
   by_cases hj:j=i
   ·subst hj;simp[fU]
   ·simp[Array.getElem?_setIfInBounds_ne (Ne.symm hj),hj]
  refine agW hX hp hf0 Mn pW hx Z3 hun Pw Q _ (fun c2 a2 w2 aoi=>ih _ a2 w2 c2 (inv.set hi him) (fun j y hj hs k hk=> ?_) aoi ⟨l.erase i,?_,hnd.erase i,fun j=> ?_⟩)
  ·rw[Pw]at hs⊢
   by_cases hji:j=i
   ·subst hji
    rw[hx]at hj;cases hj
    rw[Z3 k hk];rfl
   ·simp[hji]at hs
    rw[Mn j y hj hs k hk];rfl
  ·have Pv:=(X2 i).2 ⟨him,hun⟩
   rw[length_erase_of_mem Pv];omega
  ·rw[Pw,hnd.mem_erase_iff,X2 j]
   simp only[Bool.or_eq_false_iff,decide_eq_false_iff_not]
   constructor
   ·rintro⟨h1,h2,h3⟩;exact⟨h2,h3,h1⟩
   ·rintro⟨h1,h2,h3⟩;exact⟨h3,h1,h2⟩
theorem ahR (hX:X.ok Γ B w0){id:Nat}{CD:Array Oper}{σ:St}{N:Nx}{Φ:St->aP->Nx->Prop} (h:T.wp Γ (if σ.under then(Gl X CD.toList CD.toList 0 σ []).bind fun x=> .aa x.1 else .fail "under") ρ N Φ)
 (hi:Is X.P B w0 c0 c σ ρ N a w) (Q:Exit->Act->World->Prop) (hQ:∀σ' r c' a' w',Φ σ' (ρ++r) N->Is X.P B w0 c0 c' σ' (ρ++r) N a' w'->Q .normal a' w'):(Code.region id CD true).wp X.P Q a w:=by
 split at h
 rotate_left
 ·exact h.elim
 rename_i hu
 have h:=T.wp_bind h
 obtain⟨r,gl,hΦ,hp,hlen,hnv⟩:=RI CD.toList 0 σ [] ρ h (fun k _=>by simp) rfl rfl hi.nv (fun j x hj=>by simp at hj)
 have EH:=hi.env
 subst EH
 have g2:aX X.P B w0 σ {c with ρ:=c.ρ++r} a {w with drawn:=w.drawn+1}:=(hi.dD.drew).env hu (fun i h=>bj _ _ _ _ (by rw[<-hi.nv];exact h))
 refine wp_region_any hX.mixed ?_
 have:=akI (B:=B) (w0:=w0) (c:={c with ρ:=c.ρ++r}) hX hp (by simpa using hlen) ⟨hi.fresh.β,hi.fresh.R⟩ Q (fun c2 a2 w2 pW=> ?_) CD.size (Array.replicate CD.size false) a {w with drawn:=w.drawn+1} {c with ρ:=c.ρ++r} (by simp) (fun j x hj hs=>by
  unfold Kw at hs
  by_cases fU:j<CD.size
  ·simp[fU]at hs
  ·simp[fU]at hs) ⟨.refl _,rfl,?_,fun _ _=>rfl,fun _ _=>rfl⟩ ⟨range CD.size,by simp,fun i bN _=>by simpa using bN⟩
 ·simpa using this
 ·refine hQ _ r c2 a2 w2 hΦ ⟨hi.sub.trans ⟨pW.sub.K,pW.sub.β,pW.sub.R⟩,pW.env,pW.dD,⟨fun p LN=> ?_,fun p LN=> ?_⟩,hnv,?_⟩
  ·rw[pW.β p (fun j x hj _ hm=> ?_)]
   ·exact hi.fresh.β p (Nat.le_trans (Av lV gl 0 σ).1 LN)
   ·obtain⟨o,ho,_,_,_,_,ZW,_,_⟩:=hp j x hj
    rcases ZW with⟨_,hr⟩|⟨_,r0,sv,Af,_,_,_,_,hr,_⟩
    ·rw[hr]at hm;simp[QD,il.pure]at hm
    ·rw[hr]at hm
     unfold LV at Af
     split at Af
     ·split at Af
      ·rename_i hg;cases Af
       simp only[Bool.and_eq_true,ZN,all_eq_true,any_eq_true]at hg
       obtain⟨y,hy,e⟩:=(hg.1.1 p hm).2
       have:=(H7 lV gl 0 σ j x hj rfl).1 y (by rw[hr];exact hy)
       rw[eq_of_beq_eq_true e]at this;simp only at LN;omega
      ·cases Af
     ·cases Af
  ·rw[pW.R p (fun j x hj _ hm=> ?_)]
   ·exact hi.fresh.R p (Nat.le_trans (Av lV gl 0 σ).2 LN)
   ·obtain⟨o,ho,_,_,_,_,ZW,_,_⟩:=hp j x hj
    rcases ZW with⟨_,hr⟩|⟨_,r0,sv,Af,_,_,_,_,hr,_⟩
    ·rw[hr]at hm;simp[QD,il.pure]at hm
    ·rw[hr]at hm
     unfold LV at Af
     split at Af
     ·split at Af
      ·rename_i hg;cases Af
       simp only[Bool.and_eq_true,ZN,all_eq_true,any_eq_true]at hg
       obtain⟨y,hy,e⟩:=(hg.1.2 p hm).2
       have:=(H7 lV gl 0 σ j x hj rfl).2 y (by rw[hr];exact hy)
       rw[eq_of_beq_eq_true e]at this;simp only at LN;omega
      ·cases Af
     ·cases Af
  ·have:∀(l:List Item) (j:Nat) (s:St),(eZ lV l j s).lv=s.lv:=by
    intro l
    induction l with
    |nil=>intro _ _;rfl
    |cons x l ih=>intro j s;simp only[eZ,lV,if_true];rw[ih];rfl
   rw[this];exact hi.lv
 ·have e:eZ (Kw (Array.replicate CD.size false)) gl 0 σ=σ:=BH _ _ _ _ (fun i bN=>by
   unfold Kw
   by_cases fU:i<CD.size<;>simp[fU])
  rw[e];exact g2
theorem ai8 (hX:X.ok Γ B w0){inl:Inl} (Kv:YP X Γ B w0 inl){id:Nat}{CD:Array Oper}{m:Nat} (hB:akw CD.toList m=true){σ:St}{N:Nx}{Φ:St->aP->Nx->Prop} (hu:σ.under=true)
 (h:T.wp Γ ((Gl X CD.toList (CD.toList.take m) 0 σ []).bind fun x=>E0 X inl CD.toList (CD.toList.drop m) m x.1) ρ N Φ)
 (hi:Is X.P B w0 c0 c σ ρ N a w) (Q:Exit->Act->World->Prop) (hQ:∀σ' r n c' a' w',Φ σ' (ρ++r) (N++n)->Is X.P B w0 c0 c' σ' (ρ++r) (N++n) a' w'->Q .normal a' w'):(Code.region id CD true).wp X.P Q a w:=by
 simp only[akw,Bool.and_eq_true]at hB
 obtain⟨⟨⟨hm,hs⟩,hc⟩,hq⟩:=hB
 have hm:m<CD.toList.length:=le_of_ble_eq_true (by simpa[blt]using hm)
 have h:=T.wp_bind h
 obtain⟨r,gl,hΦ,hp,hlen,hnv⟩:=RI (CD.toList.take m) 0 σ [] ρ h (fun k hk=>by
  rw[length_take]at hk
  rw[getElem?_take,if_pos (by omega),Nat.zero_add]) rfl rfl hi.nv (fun j x hj=>by simp at hj)
 have EH:=hi.env
 subst EH
 have g2:aX X.P B w0 σ {c with ρ:=c.ρ++r} a {w with drawn:=w.drawn+1}:=(hi.dD.drew).env hu (fun i h=>bj _ _ _ _ (by rw[<-hi.nv];exact h))
 refine wp_region_any hX.mixed ?_
 have anX:gl.length=m:=by rw[hlen,length_take];omega
 have Yv:∀i,Kw (Array.replicate CD.toList.length false) i=false:=fun i=>getD_replicate_false _ _
 have:=amD (B:=B) (w0:=w0) (c:={c with ρ:=c.ρ++r}) hX hp anX hm hs hc hq ⟨hi.fresh.β,hi.fresh.R⟩ Q (fun c2 a2 w2 pW=>by
  refine Wb hX Kv (CD.toList.drop m) m _ (c.ρ++r) N Φ c0 c2 a2 w2 Q hΦ (ash hp hnv hi pW) (fun σ' r2 n c' a' w' h1 h2=> ?_)
  refine hQ σ' (r++r2) n c' a' w' ?_ ?_
  ·rw[<-append_assoc];exact h1
  ·rw[<-append_assoc];exact h2) m (Array.replicate CD.toList.length false) a {w with drawn:=w.drawn+1} {c with ρ:=c.ρ++r}
  ⟨by simp,fun j oj _ hl=>(by have:=Yv j;unfold Kw at this;rw[this]at hl;cases hl),fun t _ ht=>getD_in (by simpa using ht) (Yv t)⟩
  (fun j x hj hs'=>by rw[Yv]at hs';cases hs')
  ⟨.refl _,rfl,?_,fun _ _=>rfl,fun _ _=>rfl⟩ ⟨range m,by simp,nodup_range,fun i=>by rw[mem_range];exact⟨fun h=>⟨h,Yv i⟩,fun h=>h.1⟩⟩
 ·rw[show m+(CD.toList.length-m)=CD.toList.length by omega]at this
  simpa using this
 ·have e:eZ (Kw (Array.replicate CD.toList.length false)) gl 0 σ=σ:=BH _ _ _ _ (fun i bN=>Yv _)
  rw[e];exact g2
end
end
end Go.Proofs.YtlklkgdaegncaaaGreatDoor
