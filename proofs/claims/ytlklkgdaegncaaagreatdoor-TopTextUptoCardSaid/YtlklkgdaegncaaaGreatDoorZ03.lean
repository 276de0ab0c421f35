/-
  A part of the proof of TopText: SymI, SymM.
-/
import Derived.Test.YtlklkgdaegncaaaGreatDoorZ02
import Derived.Lib.AppendZeros
import Derived.Laws.Slices
import Derived.Great.BuildSlice
import Derived.Laws.Tables
import Derived.Lib.AppendStr
import Derived.MapKept
import Derived.WideKeyRuns
namespace Go.Proofs.YtlklkgdaegncaaaGreatDoor
set_option linter.unusedVariables false
set_option linter.unusedSimpArgs false
open List
open Nat
open Int
section
open Go.RowKit
theorem SF (ρ:aP):∀(y x:Ex),((xf x y).ev ρ).list=(x.ev ρ).list++(y.ev ρ).list:=by
 intro y
 induction y with
 |nil=>intro x;simp[xf,Ex.ev]
 |o f p q _ ihq=>
  intro x
  by_cases hf:f= .cons
  ·subst hf
   rw[xf,ihq,bP]
   simp[U2.ev,Ex.ev]
  ·have:xf x (.o f p q)=match x with| .nil=> .o f p q|x=>iV .app x (.o f p q):=by
    cases f<;>first|rfl|exact absurd rfl hf
   rw[this]
   cases x<;>simp only[]<;>(try rw[bP])<;>simp[U2.ev,Ex.ev]
 |_=>intro x;unfold xf;cases x<;>simp only[]<;>(try rw[bP])<;>simp[U2.ev,Ex.ev]
def isL (z:Sc):Prop:=z.er= .l (mS z.list)
theorem W9 (l:aP):isL (.l l):=sk l
theorem aoy {z:Sc}{D:aP} (h:z.er= .l (mS D)):isL z:=by unfold isL;rw[h,iI h]
theorem aum {z:Sc}{D:aP} (h:isL z) (e:mS D=mS z.list):z.er= .l (mS D):=by rw[e];exact h
theorem asC (x p:Ex):iV .bC x p≠.nil:=by
 unfold iV
 cases x<;>cases p<;>simp
theorem auY (x:Ex) (f:U2) (p q:Ex) (hf:f≠.cons):xf x (.o f p q)=match x with| .nil=> .o f p q|x=>iV .app x (.o f p q):=by
 cases f<;>first|rfl|exact absurd rfl hf
theorem amE (ρ:aP):∀(y x:Ex),isL (x.ev ρ)->(x= .nil->isL (y.ev ρ))->isL ((xf x y).ev ρ):=by
 intro y
 induction y with
 |nil=>intro x hx _;simpa[xf]using hx
 |o f p q _ ihq=>
  intro x hx hy
  by_cases hf:f= .cons
  ·subst hf
   rw[xf]
   exact ihq _ (by rw[bP];exact W9 _) (fun h=>absurd h (asC x p))
  ·rw[auY x f p q hf]
   cases x<;>simp only[]<;>first|exact hy rfl|(rw[bP];exact W9 _)
 |_=>intro x hx hy;unfold xf;cases x<;>simp only[]<;>first|exact hy rfl|(rw[bP];exact W9 _)
theorem UR (ρ:aP){x y:Ex}{D1 D2:aP} (h1:(x.ev ρ).er= .l (mS D1)) (h2:(y.ev ρ).er= .l (mS D2)):((xf x y).ev ρ).er= .l (mS (D1++D2)):=
 aum (amE ρ y x (aoy h1) (fun _=>aoy h2)) (by rw[SF,Q1,Q1,iI h1,iI h2])
section
variable {P:Program}{B:mC}{w0:World}{σ:St}{c:Ct}{a:Act}{w:World}{o:Oper}{rd:Rd}
theorem Yc (t ty e:TypeId) (i:TypeInfo) (ht:P.underlying t=some (.slice e)) (hi:P.info? e=some i) (ad:Option Addr) (n cap cc:Nat) (h:n<=cap) (w:World):
 (Builtin.append_ #[t,t] ty #[.slice ad n cap,.slice none 0 cc]).run P w= .ok (.slice ad n cap) w:=by
 cases ad<;>simp[Builtin.append_,run_underlying ht,sizeOf,typeInfo,hi,Builtin.lenOf,Builtin.firstCells,h,storeCells]
theorem Yd (t ty e:TypeId) (i:TypeInfo) (ht:P.underlying t=some (.slice e)) (hi:P.info? e=some i) (ad ad':Option Addr) (n cap cc:Nat) (h:n<=cap) (w:World):
 (Builtin.append_ #[t,t] ty #[.slice ad n cap,.slice ad' 0 cc]).run P w= .ok (.slice ad n cap) w:=by
 cases ad' with
 |none=>exact Yc t ty e i ht hi ad n cap cc h w
 |some x=>
  have hf:=run_firstCells_some (P:=P) w i.size 0 x 0 cc [] (by simp) (fun j u hj=>by simp at hj)
  cases ad<;>simp[Builtin.append_,run_underlying ht,sizeOf,typeInfo,hi,Builtin.lenOf,hf,h,storeCells]
theorem N9 (w:World) (base:Nat) (t ty e:TypeId) (i:TypeInfo) (z:Value) (size bytes:Nat) (ht:P.underlying t=some (.slice e)) (hi:P.info? e=some i) (hz:i.zero=some z)
 (Je:i.size=size) (hby:i.bytes=bytes) (hzs:z.cells.size=size) (kZ:0<size)
 (v:Value) (n:Nat) (xs:dm) (cv:w.ownsRow base e size v n xs)
 (ad:Addr) (m cc:Nat) (news:dm) (hl:news.length=m*size) (BZ:∀j u,news[j]? =some u->w.cell? (ad.add j)=some u) (h1:∀u∈news,u.oneCell'=true)
 (h63:n+m<=maxLen) (jQ:(n+m)*bytes<=140737488355328) (anG:base<=w.heap.size):
 ∃v' w',(Builtin.append_ #[t,t] ty #[v,.slice (some ad) m cc]).run P w= .ok v' w'/\w'.ownsRow base e size v' (n+m) (xs++news)/\w.grownBy w' v.ownBlock/\
  (v'.ownBlock=v.ownBlock\/∀p,v'.ownBlock=some p->w.heap.size<=p):=by
 obtain⟨v',w',hr,q1,q2,q3⟩:=run_append_own (P:=P) w base t ty e i z size bytes ht hi hz Je hby hzs kZ v n xs cv ad m cc news hl BZ h1 h63 jQ anG
 refine⟨v',w',hr,q1,q2,?_⟩
 subst Je hby
 rcases cv.2 with⟨rfl,rfl⟩|⟨p,cap,cur,rfl,hbg,hg,hnc,OG,MD,TG⟩
 ·by_cases hm:m=0
  ·rw[q3.2 ⟨rfl,hm⟩];exact .inl rfl
  ·have h:=run_append_nil (P:=P) w t ty e i z ht hi hz ad m cc news hl BZ (by omega) (by simp only[maxLen]at h63;omega) (by have hb:=jQ;simp only[Nat.zero_add]at hb;omega)
   rw[h]at hr
   cases hr
   exact .inr fun q hq=>by simp[Value.ownBlock]at hq;omega
 ·by_cases xY:n+m<=cap
  ·have vX:n*i.size+news.length<=cur.size:=by rw[hl,MD,<-Nat.add_mul];exact mul_le_mul_right _ xY
   have h:=run_append_room (P:=P) w t ty e i ht hi p n cap cur hg ad m cc news hl BZ h1 xY vX
   rw[h]at hr
   cases hr
   exact .inl rfl
  ·have holds:∀j u,xs[j]? =some u->w.cell? ((⟨p,0,none⟩:Addr).add j)=some u:=cv.cells (g:=p) rfl
   have h:=run_append_grow (P:=P) w t ty e i z ht hi hz ⟨p,0,none⟩ n cap xs cv.1 holds ad m cc news hl BZ (by omega) (by simp only[maxLen]at h63;omega) (growslice_fits (by omega) jQ)
   rw[h]at hr
   cases hr
   exact .inr fun q hq=>by simp[Value.ownBlock]at hq;omega
theorem sO {x:Addr}{n cap:Nat} (h:0<cap):dG (.slice (some x) n cap)=some x.block:=by
 cases cap with
 |zero=>omega
 |succ m=>rfl
theorem aay (w:World) (t ty e:TypeId) (i:TypeInfo) (z:Value) (size bytes:Nat) (ht:P.underlying t=some (.slice e)) (hi:P.info? e=some i) (hz:i.zero=some z)
 (Je:i.size=size) (hby:i.bytes=bytes) (hzs:z.cells.size=size) (kZ:0<size)
 (A6:Option Addr) (n og:Nat) (hle:n<=og) (OG:og<=maxLen) (xs:dm) (TH:xs.length=n*size) (cv:og=0\/w.ownsRow 0 e size (.slice A6 n og) n xs)
 (ad:Option Addr) (m cc:Nat) (news:dm) (hl:news.length=m*size) (BZ:m=0\/∃x,ad=some x/\∀j u,news[j]? =some u->w.cell? (x.add j)=some u) (h1:∀u∈news,u.oneCell'=true)
 (h63:n+m<=maxLen) (jQ:(n+m)*bytes<=140737488355328):
 ∃Da eW w',(Builtin.append_ #[t,t] ty #[.slice A6 n og,.slice ad m cc]).run P w= .ok (.slice Da (n+m) eW) w'/\n+m<=eW/\eW<=maxLen/\(eW=0\/w'.ownsRow 0 e size (.slice Da (n+m) eW) (n+m) (xs++news))/\
  w.grownBy w' (dG (.slice A6 n og))/\(dG (.slice Da (n+m) eW)=dG (.slice A6 n og)\/∀p,dG (.slice Da (n+m) eW)=some p->w.heap.size<=p):=by
 by_cases hm:m=0
 ·subst hm
  have hn0:news=[]:=eq_nil_of_length_eq_zero (by simpa using hl)
  subst hn0
  refine⟨A6,og,w,Yd t ty e i ht hi A6 ad n og cc hle w,hle,OG,by simpa using cv,⟨rfl,rfl,rfl,Nat.le_refl _,fun _ _ _=>rfl⟩,.inl rfl⟩
 rcases BZ with h|⟨x,rfl,BZ⟩
 ·exact absurd h hm
 have fin:∀(v':Value) (w':World),w'.ownsRow 0 e size v' (n+m) (xs++news)->∃Da eW,v'= .slice Da (n+m) eW/\n+m<=eW/\eW<=maxLen/\0<eW:=fun v' w' h=>by
  rcases h.2 with⟨rfl,h0⟩|⟨p,eW,cur,rfl,_,_,f1,f2,_⟩
  ·omega
  ·exact⟨_,eW,rfl,f1,f2,by omega⟩
 by_cases hc0:og=0
 ·subst hc0
  obtain rfl:n=0:=by omega
  have hx0:xs=[]:=eq_nil_of_length_eq_zero (by simpa using TH)
  subst hx0
  obtain⟨v',w',hr,q1,q2,q3⟩:=N9 (P:=P) w 0 t ty e i z size bytes ht hi hz Je hby hzs kZ (.slice none 0 0) 0 [] (World.ownsRow_nil w 0 e size) x m cc news hl BZ h1 h63 jQ (zero_le _)
  obtain⟨Da,eW,rfl,f1,f2,f3⟩:=fin v' w' q1
  refine⟨Da,eW,w',?_,f1,f2,.inr q1,?_,.inr fun p hp=> ?_⟩
  ·rw[<-hr]
   cases A6 with
   |none=>rfl
   |some b=>
    subst Je hby
    have g1:=run_append_grow (P:=P) w t ty e i z ht hi hz b 0 0 [] (by simp) (fun j v hj=>by simp at hj) x m cc news hl BZ (by omega) (by simp only[maxLen]at h63;omega) (growslice_fits (by omega) jQ)
    have g2:=run_append_nil (P:=P) w t ty e i z ht hi hz x m cc news hl BZ (by omega) (by simp only[maxLen]at h63;omega) (by have hb:=jQ;simp only[Nat.zero_add]at hb;omega)
    rw[g1,g2]
    simp only[Nat.zero_add]
    congr 3
    simp
  ·have:dG (.slice A6 0 0)=none:=by cases A6<;>rfl
   rw[this]
   exact q2
  ·rcases q3 with h|h
   ·rw[sP hp]at h;simp[Value.ownBlock]at h
   ·exact h p (sP hp)
 ·rcases cv with h|cv
  ·exact absurd h hc0
  obtain⟨v',w',hr,q1,q2,q3⟩:=N9 (P:=P) w 0 t ty e i z size bytes ht hi hz Je hby hzs kZ (.slice A6 n og) n xs cv x m cc news hl BZ h1 h63 jQ (zero_le _)
  obtain⟨Da,eW,rfl,f1,f2,f3⟩:=fin v' w' q1
  have hob:dG (.slice A6 n og)=Value.ownBlock (.slice A6 n og):=by
   cases A6 with
   |none=>rfl
   |some b=>rw[sO (by omega)];rfl
  have avY:dG (.slice Da (n+m) eW)=Value.ownBlock (.slice Da (n+m) eW):=by
   cases Da with
   |none=>rfl
   |some b=>rw[sO f3];rfl
  exact⟨Da,eW,w',hr,f1,f2,.inr q1,by rw[hob];exact q2,by rw[hob,avY];exact q3⟩
end
open Go.RowKit
section
variable {P:Program}{B:mC}{w0:World}{σ:St}{c:Ct}{a:Act}{w:World}{o:Oper}{rd:Rd}
theorem Nt {ty:TypeId}{f:Nat}{fd:Field} (h:ad6 P ty f=some fd):∃fs,P.underlying ty=some (.struct fs)/\fs[f]? =some fd:=by
 unfold ad6 at h
 split at h
 ·rename_i fs hu;exact⟨fs,hu,h⟩
 ·cases h
theorem acv:∀{vs:dm}{ts:List (Option TypeId)}{ks:tE},afw vs ts=some ks->vs.length=ks.length
 |[],_,ks,h=>by simp[afw]at h;subst h;rfl
 |v::vs,ts,ks,h=>by
  unfold afw at h
  split at h
  ·rename_i x xs h1 h2;cases h;simp[acv h2]
  ·cases h
theorem ahL {v:Value}{t:Option TypeId}{k:CK} (h:arc v t=some k):v.cells.size=1:=by unfold arc at h;split at h<;>first|rfl|cases h
theorem RL {el:TypeId}{agg:Bool}{ks:tE} (h:qg P el=some (agg,ks)){i:TypeInfo} (hi:P.info? el=some i):∃z,i.zero=some z/\z.cells.size=ks.length:=by
 unfold qg wi at h
 simp only[hi,Option.bind_some]at h
 split at h
 ·rename_i cs hz
  simp only[Option.map_eq_some_iff,Prod.mk.injEq]at h
  obtain⟨x,h1,h2,rfl⟩:=h
  exact⟨_,hz,by simpa[Value.cells]using acv h1⟩
 ·rename_i v _ hz
  simp only[Option.map_eq_some_iff,Prod.mk.injEq]at h
  obtain⟨x,h1,h2,rfl⟩:=h
  exact⟨v,hz,ahL h1⟩
 ·cases h
theorem OT {e:Ex}{bytes:Nat} (h:((room e bytes).ev c.ρ).bool=true) (hb:0<bytes):(e.ev c.ρ).list.length*bytes<=140737488355328/\(e.ev c.ρ).list.length<=maxLen:=by
 unfold room at h
 rw[bP,kR]at h
 have h:((e.ev c.ρ).list.length:Int)<=((140737488355328/bytes:Nat):Int):=of_decide_eq_true h
 have h:(e.ev c.ρ).list.length<=140737488355328/bytes:=by exact_mod_cast h
 have h2:(e.ev c.ρ).list.length*bytes<=140737488355328:=Nat.le_trans (mul_le_mul_right _ h) (div_mul_le_self _ _)
 refine⟨h2,?_⟩
 have:(e.ev c.ρ).list.length*1<=(e.ev c.ρ).list.length*bytes:=mul_le_mul_left _ hb
 simp only[maxLen];omega
theorem Oa (w:World) (base:Nat) (t u ty e:TypeId) (i:TypeInfo) (ht:P.underlying t=some (.slice e)) (hu:P.underlying u=some .string) (hi:P.info? e=some i) (hz:i.zero=some (.int .u8 0))
 (Je:i.size=1) (hby:i.bytes=1) (v:Value) (n:Nat) (xs:dm) (cv:w.ownsRow base e 1 v n xs) (s:ByteArray)
 (h63:n+s.size<=maxLen) (jQ:n+s.size<=140737488355328) (anG:base<=w.heap.size):
 ∃v' w',(Builtin.append_ #[t,u] ty #[v,.string s]).run P w= .ok v' w'/\w'.ownsRow base e 1 v' (n+s.size) (xs++Lib.strCells s)/\w.grownBy w' v.ownBlock/\
  (v'.ownBlock=v.ownBlock\/∀p,v'.ownBlock=some p->w.heap.size<=p):=by
 obtain⟨v',w',hr,q1,q2,q3⟩:=Lib.run_append_own_string (P:=P) w base t u ty e i ht hu hi hz Je hby v n xs cv s h63 jQ anG
 refine⟨v',w',hr,q1,q2,?_⟩
 rcases cv.2 with⟨rfl,rfl⟩|⟨p,cap,cur,rfl,hbg,hg,hnc,OG,MD,TG⟩
 ·by_cases hm:s.size=0
  ·rw[q3.2 ⟨rfl,hm⟩];exact .inl rfl
  ·have h:=run_append_nil_string (P:=P) w t u ty e i (.int .u8 0) ht hu hi hz s (by omega) (by unfold maxLen at h63;omega) (by rw[hby];omega)
   rw[h]at hr
   cases hr
   exact .inr fun q hq=>by simp[Value.ownBlock]at hq;omega
 ·by_cases xY:n+s.size<=cap
  ·have h:=Lib.run_append_room_string (P:=P) w t u ty e i ht hu hi Je p n cap cur hg s xY (by simp at MD;omega)
   rw[h]at hr
   cases hr
   exact .inl rfl
  ·have holds:∀j u,xs[j]? =some u->w.cell? ((⟨p,0,none⟩:Addr).add j)=some u:=cv.cells (g:=p) rfl
   have h:=Lib.run_append_grow_string (P:=P) w t u ty e i (.int .u8 0) ht hu hi hz ⟨p,0,none⟩ n cap xs (by rw[Je];exact cv.1) holds s (by omega) (by unfold maxLen at h63;omega) (by rw[hby];exact growslice_fits (by omega) (by omega))
   rw[h]at hr
   cases hr
   exact .inr fun q hq=>by simp[Value.ownBlock]at hq;omega
theorem V9 (t u ty e:TypeId) (i:TypeInfo) (ht:P.underlying t=some (.slice e)) (hu:P.underlying u=some .string) (hi:P.info? e=some i) (ad:Option Addr) (n cap:Nat) (h:n<=cap) (s:ByteArray) (hs:s.size=0) (w:World):
 (Builtin.append_ #[t,u] ty #[.slice ad n cap,.string s]).run P w= .ok (.slice ad n cap) w:=by
 have hf:=Lib.run_firstCells_string (P:=P) w i.size s
 have hc:Lib.strCells s=[]:=eq_nil_of_length_eq_zero (by rw[Lib.strCells_length,hs])
 rw[hs,hc]at hf
 cases ad<;>simp[Builtin.append_,run_underlying ht,run_underlying hu,sizeOf,typeInfo,hi,Builtin.lenOf,hs,hf,h,storeCells]
theorem LS (w:World) (t u ty e:TypeId) (i:TypeInfo) (ht:P.underlying t=some (.slice e)) (hu:P.underlying u=some .string) (hi:P.info? e=some i) (hz:i.zero=some (.int .u8 0))
 (Je:i.size=1) (hby:i.bytes=1) (A6:Option Addr) (n og:Nat) (hle:n<=og) (OG:og<=maxLen) (xs:dm) (TH:xs.length=n) (cv:og=0\/w.ownsRow 0 e 1 (.slice A6 n og) n xs) (s:ByteArray)
 (h63:n+s.size<=maxLen) (jQ:n+s.size<=140737488355328):
 ∃Da eW w',(Builtin.append_ #[t,u] ty #[.slice A6 n og,.string s]).run P w= .ok (.slice Da (n+s.size) eW) w'/\n+s.size<=eW/\eW<=maxLen/\(eW=0\/w'.ownsRow 0 e 1 (.slice Da (n+s.size) eW) (n+s.size) (xs++Lib.strCells s))/\
  w.grownBy w' (dG (.slice A6 n og))/\(dG (.slice Da (n+s.size) eW)=dG (.slice A6 n og)\/∀p,dG (.slice Da (n+s.size) eW)=some p->w.heap.size<=p):=by
 by_cases hm:s.size=0
 ·have hc:Lib.strCells s=[]:=eq_nil_of_length_eq_zero (by rw[Lib.strCells_length,hm])
  rw[hm,hc,Nat.add_zero,append_nil]
  exact⟨A6,og,w,V9 t u ty e i ht hu hi A6 n og hle s hm w,hle,OG,cv,⟨rfl,rfl,rfl,Nat.le_refl _,fun _ _ _=>rfl⟩,.inl rfl⟩
 have fin:∀(v':Value) (w':World),w'.ownsRow 0 e 1 v' (n+s.size) (xs++Lib.strCells s)->∃Da eW,v'= .slice Da (n+s.size) eW/\n+s.size<=eW/\eW<=maxLen/\0<eW:=fun v' w' h=>by
  rcases h.2 with⟨rfl,h0⟩|⟨p,eW,cur,rfl,_,_,f1,f2,_⟩
  ·omega
  ·exact⟨_,eW,rfl,f1,f2,by omega⟩
 by_cases hc0:og=0
 ·subst hc0
  obtain rfl:n=0:=by omega
  have hx0:xs=[]:=eq_nil_of_length_eq_zero TH
  subst hx0
  obtain⟨v',w',hr,q1,q2,q3⟩:=Oa (P:=P) w 0 t u ty e i ht hu hi hz Je hby (.slice none 0 0) 0 [] (World.ownsRow_nil w 0 e 1) s h63 jQ (zero_le _)
  obtain⟨Da,eW,rfl,f1,f2,f3⟩:=fin v' w' q1
  refine⟨Da,eW,w',?_,f1,f2,.inr q1,?_,.inr fun p hp=> ?_⟩
  ·rw[<-hr]
   cases A6 with
   |none=>rfl
   |some b=>
    have g1:=Lib.run_append_grow_string (P:=P) w t u ty e i (.int .u8 0) ht hu hi hz b 0 0 [] (by simp) (fun j v hj=>by simp at hj) s (by omega) (by simp only[maxLen]at h63;omega) (by rw[hby];exact growslice_fits (by omega) (by omega))
    have g2:=run_append_nil_string (P:=P) w t u ty e i (.int .u8 0) ht hu hi hz s (by omega) (by unfold maxLen at h63;omega) (by rw[hby];omega)
    rw[g1,g2]
    simp only[Nat.zero_add]
    have hd:(Lib.strCells s).toArray=s.data.map (fun b=>Value.int .u8 b.toNat):=by
     apply Array.ext';simp[Lib.strCells]
    rw[hd]
    congr 3
    simp
  ·have:dG (.slice A6 0 0)=none:=by cases A6<;>rfl
   rw[this]
   exact q2
  ·rcases q3 with h|h
   ·rw[sP hp]at h;simp[Value.ownBlock]at h
   ·exact h p (sP hp)
 ·rcases cv with h|cv
  ·exact absurd h hc0
  obtain⟨v',w',hr,q1,q2,q3⟩:=Oa (P:=P) w 0 t u ty e i ht hu hi hz Je hby (.slice A6 n og) n xs cv s h63 jQ (zero_le _)
  obtain⟨Da,eW,rfl,f1,f2,f3⟩:=fin v' w' q1
  have hob:dG (.slice A6 n og)=Value.ownBlock (.slice A6 n og):=by
   cases A6 with
   |none=>rfl
   |some b=>rw[sO (by omega)];rfl
  have avY:dG (.slice Da (n+s.size) eW)=Value.ownBlock (.slice Da (n+s.size) eW):=by
   cases Da with
   |none=>rfl
   |some b=>rw[sO f3];rfl
  exact⟨Da,eW,w',hr,f1,f2,.inr q1,by rw[hob];exact q2,by rw[hob,avY];exact q3⟩
theorem acB {w:World}{ok:lU}{k:CK} (hk:∀el,k≠.sl el) (x:Sc):Fits P w ok k x:=by
 cases k with
 |int k=>exact .int k x
 |bool=>exact .bool x
 |str=>exact .str x
 |sl el=>exact absurd rfl (hk el)
theorem afT {w:World}{ok:lU}{k:CK} (agg:Bool) (hk:∀el,k≠.sl el) (x:Sc):lW P w ok agg [k] x:=fun i k' h=>by
 match i,h with
 |0,h=>simp at h;subst h;exact acB hk _
theorem ajJ {w:World}{ok:lU} (agg:Bool) (x:Sc):lW P w ok agg [.int .u8] x:=afT agg (fun _ h=>by cases h) x
theorem ZJ (s:ByteArray):aE false [.int .u8] (Cr s)=Lib.strCells s:=by
 unfold Cr Lib.strCells aE
 generalize s.data.toList=l
 induction l with
 |nil=>rfl
 |cons x r ih=>simp only[map_cons,flatMap_cons,ih];rfl
theorem A8 (s:ByteArray):(Cr s).length=s.size:=by
 unfold Cr;rw[length_map,Array.length_toList];rfl
theorem akJ (g:aX P B w0 σ c a w) (gY:MV σ c a rd){cl:Call} (hc:cl.callee= .builtin .append) (ho:o.op= .call cl){s x:Operand}{t t':TypeId} (kY:cl.args= #[s,x]) (aim:cl.argTypes= #[t,t']){r:il} (ur:∀i∈r.nr,c.R i=none) (h:Y6 P rd s x t t'=some r)
 (hn:∀e∈r.lN,(e.ev c.ρ).bool=true):eQ P B w0 σ c a w o r:=by
 unfold Y6 at h
 split at h
 rotate_left
 ·cases h
 rename_i el hu hus
 split at h
 rotate_left
 ·cases h
 rename_i i e hi Ae
 split at h
 rotate_left
 ·cases h
 rename_i jV
 simp only[Bool.and_eq_true]at jV
 obtain⟨⟨hby,kZ⟩,hz⟩:=jV
 have hz:i.zero=some (.int .u8 0):=by
  unfold auR at hz
  split at hz
  ·rename_i e
   simp only[Bool.and_eq_true,decide_eq_true_eq]at hz
   rw[e,hz.1,hz.2]
  ·cases hz
 have hby:i.bytes=1:=eq_of_beq_eq_true hby
 have kZ:i.size=1:=eq_of_beq_eq_true kZ
 have hx:=gY.ev x
 rw[Ae]at hx
 have hx:a.eval x= .string (e.ev c.ρ).str:=hx
 have sC:∀v' w',(Builtin.append_ #[t,t'] o.type #[a.eval s,.string (e.ev c.ρ).str]).run P w= .ok v' w'->(execOp a.eval o).run P w= .ok (.value v') w':=fun v' w' he=>by
  simp[execOp,ho,resolve,hc,kY,aim,invoke,builtin,hx,he]
 have hyl:((CB .bytes e).ev c.ρ).list=Cr (e.ev c.ρ).str:=by rw[kR];rfl
 generalize(e.ev c.ρ).str=str at*
 split at h
 ·rename_i r' hs
  split at h
  rotate_left
  ·cases h
  rename_i k hk
  split at h
  rotate_left
  ·cases h
  rename_i jV
  simp only[Bool.and_eq_true,rK,beq_iff_eq,decide_eq_true_eq]at jV
  obtain⟨cv,⟨⟨NK,hks⟩,hag⟩,pK⟩:=jV
  have pK:=gr pK
  cases h
  have ur:=ur rd.nr (by simp)
  have LO:=gY.ev s
  rw[hs]at LO
  obtain⟨hR,A6,n0,og,hv0⟩:=LO
  have mi:=gY.row _ _ hk
  obtain⟨v0,e',D,ad1,n1,ayh,hv1,q0,q1,q2,q3,q4,q5,q6⟩:=g.rows _ _ mi
  rw[hR]at e'
  cases e'
  rw[hv0]at hv1;cases hv1
  have q1':(k.cont.ev c.ρ).list.length=n0:=by rw[<-o9 (iI q0)];exact q1
  have xY:=OT (hn _ (mem_singleton.2 rfl)) (Nat.le_refl 1)
  rw[SF,hyl,length_append,q1',A8]at xY
  have q4:=(q4 cv).imp id (·.1.plain pK)
  rw[hks,hag,NK,hv0]at q4
  rw[hv0]at sC hR
  obtain⟨Da,eW,w',hr,f1,f2,r1,r2,r3⟩:=LS (P:=P) w t t' o.type el i hu hus hi hz kZ hby A6 n0 og q2 q3 _ (by rw[bS (.inr rfl),q1];exact Nat.mul_one _) q4 str xY.2 (by omega)
  have r1':eW=0\/w'.ownsRow 0 k.el k.ks.length (.slice Da (n0+str.size) eW) (n0+str.size) (aE k.agg k.ks (D++Cr str)):=by
   rw[oS,hks,hag,NK,ZJ];exact r1
  have hb:((CB .bytes e).ev c.ρ).er= .l (mS (Cr str)):=by
   rw[<-hyl];rw[kR];exact W9 _
  have gg:=g.K8 mi cv hR (w':=w') r2 (r':=rd.nr) (k':={k with cont:=xf k.cont (CB .bytes e)}) cv pK (D:=D++Cr str) (ad:=Da) (n:=n0+str.size) (cap:=eW) (UR c.ρ q0 hb) (by rw[length_append,q1,A8]) f1 f2 r1' r3 (.inl ur)
   (fun x hx=>by
     rcases mem_append.1 hx with hx|hx
     ·exact q6 x hx
     ·rw[hks];exact ajJ _ x)
  refine⟨_,w',_,{c with R:=fun i=>if i=rd.nr then some (.slice Da (n0+str.size) eW)else c.R i},sC _ _ hr,.inl rfl,?_,fun _ _=>rfl,fun i hi=>by simp at hi;simp[hi],⟨by simp,Da,n0+str.size,eW,rfl⟩,gg⟩
  exact⟨rfl,rfl,fun _ _ e=>e,fun i u e=>by
   by_cases h:i=rd.nr
   ·subst h;rw[ur]at e;cases e
   ·simp[h,e]⟩
 ·rename_i hs
  cases h
  have ur:=ur rd.nr (by simp)
  have LO:=gY.ev s
  rw[hs]at LO
  obtain⟨A6,LO⟩:=LO
  have xY:=OT (hn _ (mem_singleton.2 rfl)) (Nat.le_refl 1)
  rw[SF,hyl,length_append,A8]at xY
  simp only[Ex.ev,Sc.VY,length_nil,Nat.zero_add]at xY
  rw[LO]at sC
  obtain⟨Da,eW,w',hr,f1,f2,r1,r2,r3⟩:=LS (P:=P) w t t' o.type el i hu hus hi hz kZ hby A6 0 0 (Nat.le_refl _) (zero_le _) [] (by simp) (.inl rfl) str (by omega) (by omega)
  simp only[Nat.zero_add,nil_append]at hr f1 r1 r3
  have hob:dG (.slice A6 0 0)=none:=by cases A6<;>rfl
  rw[hob]at r2 r3
  have hb:((xf .nil (CB .bytes e)).ev c.ρ).er= .l (mS (Cr str)):=by
   have:=UR c.ρ (x:= .nil) (y:=CB .bytes e) (D1:=[]) (D2:=Cr str) (by simp[Ex.ev,Sc.er]) (by rw[<-hyl];rw[kR];exact W9 _)
   simpa using this
  have gg:=g.newRow (w':=w') (g.below.grown r2 g.hB (fun k hk=>by cases hk)) r2.size (fun n hn=>r2.block n hn (by simp)) ur
   (k:=⟨el,[.int .u8],false,xf .nil (CB .bytes e),true,none⟩) rfl (D:=Cr str) (ad:=Da) (n:=str.size) (cap:=eW) hb (A8 str) f1 f2
   (fun _=>r1.imp id fun r1=>⟨by simp only;rw[ZJ];exact r1,fun p hp=>by
     rcases r3 with h|h
     ·rw[hp]at h;cases h
     ·exact h p hp⟩) (fun h=>by cases h) (fun x _=>ajJ _ x)
  refine⟨_,w',_,{c with R:=fun i=>if i=rd.nr then some (.slice Da str.size eW)else c.R i},sC _ _ hr,.inl rfl,?_,fun _ _=>rfl,fun i hi=>by simp at hi;simp[hi],⟨by simp,Da,str.size,eW,rfl⟩,gg⟩
  exact⟨rfl,rfl,fun _ _ e=>e,fun i u e=>by
   by_cases h:i=rd.nr
   ·subst h;rw[ur]at e;cases e
   ·simp[h,e]⟩
 ·cases h
theorem Nv {agg:Bool}{ks:tE} (h:AJ agg ks):∀(l:aP) (i:Nat) (x:Sc),i<l.length->
 aE agg ks (l.set i x)=(aE agg ks l).take (i*ks.length)++cY agg ks x++(aE agg ks l).drop (i*ks.length+ks.length)
 |[],i,_,hi=>by simp at hi
 |y::l,0,x,_=>by
  simp only[set_cons_zero,aE,flatMap_cons,Nat.zero_mul,take_zero,nil_append,Nat.zero_add]
  rw[drop_append_of_le_length (by rw[eC h];exact Nat.le_refl _),drop_of_length_le (by rw[eC h];exact Nat.le_refl _)]
  simp
 |y::l,i+1,x,hi=>by
  have ih:=Nv h l i x (by simpa using hi)
  have hy:=eC h y
  have e1:(i+1)*ks.length=(cY agg ks y).length+i*ks.length:=by rw[hy,Nat.add_mul];omega
  have e2:(i+1)*ks.length+ks.length=(cY agg ks y).length+(i*ks.length+ks.length):=by rw[hy,Nat.add_mul];omega
  simp only[set_cons_succ,aE,flatMap_cons]at ih⊢
  rw[ih,e2,e1,take_length_add_append,drop_length_add_append]
  simp
theorem Oh {α:Type} (cur E:List α) (A s:Nat){M:Nat} (hE:E.length=s) (h1:A+s<=M) (h2:M<=cur.length):
 (cur.take A++E++cur.drop (A+s)).take M=(cur.take M).take A++E++(cur.take M).drop (A+s):=by
 have e1:(cur.take M).take A=cur.take A:=by rw[take_take,Nat.min_eq_left (by omega)]
 have hl:(cur.take A++E).length=A+s:=by simp[hE,Nat.min_eq_left (by omega:A<=cur.length)]
 rw[e1,take_append,hl,take_of_length_le (by omega),drop_take]
theorem ac3 {α:Type} (A E S vs:List α) (off:Nat) (h:off+vs.length<=E.length):
 (A++E++S).take (A.length+off)++vs++(A++E++S).drop (A.length+(off+vs.length))=A++(E.take off++vs++E.drop (off+vs.length))++S:=by
 rw[append_assoc A E S,take_length_add_append,drop_length_add_append,take_append_of_le_length (by omega),drop_append_of_le_length h]
 simp[append_assoc]
theorem D8 {α:Type} (d:α):∀(l:List α) (n:Nat) (y z:α),dH d (dH d l n y) n z=dH d l n z
 |[],0,_,_=>rfl
 |_::_,0,_,_=>rfl
 |[],n+1,y,z=>by simp[dH,D8 d [] n]
 |x::l,n+1,y,z=>by simp[dH,D8 d l n]
theorem afq {s:ByteArray} (h:s.size=0):s=⟨([]:List UInt8).toArray⟩:=by
 cases s with
 |mk d=>
  have:d.size=0:=h
  rw[Array.eq_empty_of_size_eq_zero this]
theorem Xq {k:CK}{v:Value}{e:Ex} (h:ae4 P k v=some e) (ρ:aP):∃d,d.er=(e.ev ρ).er/\k.val d=v/\∀w ok,Fits P w ok k d:=by
 unfold ae4 at h
 split at h
 ·split at h
  ·rename_i hc;cases h
   obtain⟨rfl,rfl⟩:=hc
   exact⟨.i 0,rfl,rfl,fun _ _=> .int _ _⟩
  ·cases h
 ·split at h
  ·cases h
  ·rename_i hb;cases h
   refine⟨.b false,rfl,?_,fun _ _=> .bool _⟩
   simp only[CK.val,Sc.amO]
   simp at hb;rw[hb]
 ·split at h
  ·rename_i hs;cases h
   refine⟨.s ⟨([]:List UInt8).toArray⟩,rfl,?_,fun _ _=> .str _⟩
   simp only[CK.val,Sc.ac6]
   rw[afq hs]
  ·cases h
 ·split at h
  ·rename_i hr;cases h
   obtain⟨⟨agg,ks⟩,hT⟩:=Option.isSome_iff_exists.1 hr
   exact⟨.r none 0 0 [],by simp[Sc.er,Ex.ev],rfl,fun _ _=> .sl hT rfl (Nat.le_refl _) (zero_le _) (fun j u hj=>by simp[aE]at hj) (fun x hx=>by cases hx)⟩
  ·cases h
 ·cases h
theorem UD (ρ:aP):∀{ks:tE}{vs:dm}{e:Ex} (pre:aP),Le P ks vs=some e->∃ds,mS ds=mS (e.ev ρ).list/\isL (e.ev ρ)/\ds.length=ks.length/\qH (.l (pre++ds)) ks pre.length=vs/\
 ∀w ok i k,ks[i]? =some k->Fits P w ok k (ds.getD i (.i 0))
 |[],[],e,pre,h=>by
  simp[Le]at h;subst h
  exact⟨[],rfl,W9 [],rfl,rfl,fun _ _ i k hk=>by simp at hk⟩
 |k::ks,v::vs,e,pre,h=>by
  simp only[Le]at h
  split at h
  ·rename_i e1 r h1 h2
   cases h
   obtain⟨d,d1,d2,d3⟩:=Xq h1 ρ
   obtain⟨ds,f1,f2,f3,f4,f5⟩:=UD ρ (pre++[d]) h2
   have hL:((Ex.o .cons e1 r).ev ρ)= .l (e1.ev ρ::(r.ev ρ).list):=rfl
   refine⟨d::ds,by rw[hL];simp only[Sc.VY,DF,map_cons]at f1⊢;rw[f1,d1],by rw[hL];exact W9 _,by simp[f3],?_,fun w ok i k' hk=> ?_⟩
   ·simp only[qH]
    congr 1
    ·simp[d2]
    ·simpa[append_assoc]using f4
   ·cases i with
    |zero=>simp at hk;subst hk;exact d3 w ok
    |succ i=>simpa using f5 w ok i k' (by simpa using hk)
  ·cases h
 |[],_::_,_,_,h=>by simp[Le]at h
 |_::_,[],_,_,h=>by simp[Le]at h
theorem QP {agg:Bool}{ks:tE}{zs:dm}{e:Ex} (h:Oz P agg ks zs=some e) (ρ:aP):∃d,d.er=(e.ev ρ).er/\cY agg ks d=zs/\∀w ok,lW P w ok agg ks d:=by
 unfold Oz at h
 split at h
 ·obtain⟨ds,f1,f2,f3,f4,f5⟩:=UD ρ [] h
  refine⟨.l ds,by rw[sk,f1];exact(aum f2 rfl).symm,by simpa[cY]using f4,fun w ok i k hk=>by simpa[WU]using f5 w ok i k hk⟩
 ·obtain⟨d,d1,d2,d3⟩:=Xq h ρ
  refine⟨d,d1,by simp[cY,d2],fun w ok i k hk=> ?_⟩
  cases i with
  |zero=>simp at hk;subst hk;exact d3 w ok
  |succ i=>simp at hk
 ·cases h
theorem Ka {agg:Bool}{ks:tE} (h:AJ agg ks) (hp:0<ks.length){d:Sc}{z:Array Value} (hz:cY agg ks d=z.toList) (n:Nat):aE agg ks (replicate n d)=(Builtin.zeroCells z n).toList:=by
 have hzl:z.toList.length=ks.length:=by rw[<-hz,eC h]
 have hs:z.size=ks.length:=by rw[<-hzl,Array.length_toList]
 apply ext_getElem?
 intro j
 by_cases hj:j<n*ks.length
 ·have hq:j/ks.length<n:=(div_lt_iff_lt_mul hp).2 hj
  have hr:j%ks.length<z.toList.length:=by rw[hzl];exact mod_lt _ hp
  have e0:(replicate n d).getD (j/ks.length) (.i 0)=d:=by rw[getD_eq_getElem?_getD,getElem?_replicate,if_pos hq];rfl
  have e1:=flat_get h (replicate n d) (j/ks.length) (j%ks.length) (z.toList[j%ks.length]) (by simpa using hq) (by rw[e0,hz,getElem?_eq_getElem hr])
  rw[show j/ks.length*ks.length+j%ks.length=j by rw[Nat.mul_comm];exact div_add_mod j ks.length]at e1
  rw[e1]
  have fU:j<n*z.size:=by rw[hs];exact hj
  have VQ:j%ks.length<z.size:=by rw[hs];exact mod_lt _ hp
  rw[Array.getElem?_toList]
  simp only[Builtin.zeroCells]
  rw[Array.getElem?_map,Array.getElem?_range,if_pos fU]
  simp only[Option.map_some,hs,Array.getElem_toList]
  rw[getElem!_pos z _ VQ]
 ·have l1:(aE agg ks (replicate n d)).length<=j:=by rw[bS h,length_replicate];omega
  have l2:(Builtin.zeroCells z n).toList.length<=j:=by rw[Array.length_toList (xs:=Builtin.zeroCells z n),size_zeroCells,hs];omega
  rw[getElem?_eq_none l1,getElem?_eq_none l2]
theorem Wa (w:World) (t tn ty e:TypeId) (i:TypeInfo) (z:Value) (kn:IntKind) (ht:P.underlying t=some (.slice e)) (htn:P.underlying tn=some (.int kn)) (hi:P.info? e=some i) (hz:i.zero=some z)
 (ad:Option Addr) (n:Nat) (h0:0<n) (hs:0<i.size) (h63:(n:Int)<=9223372036854775807) (h48:n*i.bytes<=281474976710656):
 (Builtin.append_ #[t,tn] ty #[.slice ad 0 0,.int .i64 n]).run P w=
   .ok (.slice (some ⟨w.heap.size,0,none⟩) n (grownCap w n 0 e)) (w.drew.alloc (.cells (Builtin.zeroCells z.cells n++Builtin.zeroCells z.cells (grownCap w n 0 e-n)) e)):=by
 cases ad with
 |none=>exact Lib.run_append_nil_zeros w t tn ty e i z .i64 kn ht htn hi hz n h0 hs h63 h48
 |some b=>
  have hn:n≠0:=by omega
  have hw:IntKind.i64.wrap (n:Int)=n:=by rw[IntKind.wrap_i64];omega
  have aCO:¬(9223372036854775807<(n:Int)):=by omega
  have aCL:¬(281474976710656<Builtin.nextslicecap n 0*i.bytes):=by rw[nextslicecap_zero h0];omega
  have aCM:¬(281474976710656<(n:Int)*(i.bytes:Int)):=by
   rw[<-natCast_mul]
   omega
  have aem:¬((n:Int)<0):=by omega
  have hns:¬(n*i.size=0):=Nat.mul_ne_zero hn (by omega)
  have hf:∀w,(Builtin.firstCells i.size 0 (.slice (some b) 0 0)).run P w= .ok #[] w:=fun w=>run_firstCells_some (P:=P) w i.size 0 b 0 0 [] (by simp) (fun j u hj=>by simp at hj)
  simp[Builtin.append_,run_underlying ht,run_underlying htn,sizeOf,typeInfo,zeroValue,hi,hz,asInt,asIntOf,hw,hn,aem,hns,aCO,aCL,aCM,Question.forced,hf,newRow,grownCap]
theorem afh (g:aX P B w0 σ c a w) (gY:MV σ c a rd){cl:Call} (hc:cl.callee= .builtin .append) (ho:o.op= .call cl){s x:Operand}{t t':TypeId} (kY:cl.args= #[s,x]) (aim:cl.argTypes= #[t,t']){r:il} (ur:∀i∈r.nr,c.R i=none) (h:MY P rd s x t t'=some r)
 (hn:∀e∈r.lN,(e.ev c.ρ).bool=true):eQ P B w0 σ c a w o r:=by
 unfold MY at h
 split at h
 rotate_left
 ·cases h
 rename_i el kn hu hus
 split at h
 rotate_left
 ·cases h
 rename_i agg ks i n hrt hi hs hx
 split at h
 rotate_left
 ·cases h
 rename_i z hz
 split at h
 rotate_left
 ·cases h
 rename_i jV
 simp only[Bool.and_eq_true]at jV
 obtain⟨⟨EJ,jQ⟩,kZ⟩:=jV
 have kZ:i.size=ks.length:=eq_of_beq_eq_true kZ
 have jQ:0<i.bytes:=le_of_ble_eq_true (by simpa[blt]using jQ)
 obtain⟨dI,jW⟩:=jp EJ
 split at h
 rotate_left
 ·cases h
 rename_i e he
 cases h
 have ur:=ur rd.nr (by simp)
 have LO:=gY.ev s
 rw[hs]at LO
 obtain⟨A6,LO⟩:=LO
 have TI:=gY.ev x
 rw[hx]at TI
 have TI:a.eval x= .int .i64 (n.ev c.ρ).int:=TI
 have n1:=hn (iV .le (.i 0) n) (by simp)
 have n2:=hn (iV .le n (.i ((140737488355328/i.bytes:Nat):Int))) (by simp)
 rw[bP]at n1 n2
 have n1:(0:Int)<=(n.ev c.ρ).int:=of_decide_eq_true n1
 have n2:(n.ev c.ρ).int<=((140737488355328/i.bytes:Nat):Int):=of_decide_eq_true n2
 obtain⟨d,d1,d2,d3⟩:=QP he c.ρ
 obtain⟨m,hm⟩:∃m:Nat,(n.ev c.ρ).int=m:=⟨(n.ev c.ρ).int.toNat,by omega⟩
 rw[hm]at TI n2
 have hmb:m*i.bytes<=140737488355328:=by
  have:m<=140737488355328/i.bytes:=by exact_mod_cast n2
  exact Nat.le_trans (mul_le_mul_right _ this) (div_mul_le_self _ _)
 have hmm:m<=140737488355328:=Nat.le_trans (Nat.le_mul_of_pos_right _ jQ) hmb
 have sC:∀v' w',(Builtin.append_ #[t,t'] o.type #[.slice A6 0 0,.int .i64 m]).run P w= .ok v' w'->(execOp a.eval o).run P w= .ok (.value v') w':=fun v' w' he=>by
  simp[execOp,ho,resolve,hc,kY,aim,invoke,builtin,LO,TI,he]
 have TF:=Ka dI jW d2 m
 have hD:((Ex.o .rep e n).ev c.ρ).er= .l (mS (replicate m d)):=by
  show(Sc.l (replicate (n.ev c.ρ).int.toNat (e.ev c.ρ))).er=_
  rw[sk,hm,toNat_natCast]
  simp only[DF,map_replicate,d1]
 have hle:∀u:Value,c.le {c with R:=fun i=>if i=rd.nr then some u else c.R i}:=fun u=>⟨rfl,rfl,fun _ _ e=>e,fun i u e=>by
  by_cases h:i=rd.nr
  ·subst h;rw[ur]at e;cases e
  ·simp[h,e]⟩
 by_cases h0:m=0
 ·subst h0
  have jX:(Builtin.append_ #[t,t'] o.type #[.slice A6 0 0,.int .i64 ((0:Nat):Int)]).run P w= .ok (.slice A6 0 0) w:=by
   have hw:IntKind.i64.wrap 0=0:=by rw[IntKind.wrap_i64];omega
   cases A6<;>simp[Builtin.append_,run_underlying hu,run_underlying hus,sizeOf,typeInfo,hi,asInt,asIntOf,hw,storeCells]
  have gg:=g.newRow (w':=w) g.below (Nat.le_refl _) (fun _ _=>rfl) ur (k:=⟨el,ks,agg,.o .rep e n,true,none⟩) rfl (D:=[]) (ad:=A6) (n:=0) (cap:=0) (by simpa using hD) rfl (Nat.le_refl _) (zero_le _)
   (fun _=> .inl rfl) (fun h=>by cases h) (fun x hx=>by cases hx)
  exact⟨_,w,_,_,sC _ _ jX,.inl rfl,hle _,fun _ _=>rfl,fun i hi=>by simp at hi;simp[hi],⟨by simp,A6,0,0,rfl⟩,gg⟩
 ·have jX:=Wa (P:=P) w t t' o.type el i z kn hu hus hi hz A6 m (by omega) (by omega) (by omega) (by omega)
  have hg1:=grownCap_ge w m 0 el
  have hg2:=grownCap_le_maxLen w m 0 el (by simp only[maxLen];omega)
  have gg:=g.newRow (w':=w.drew.alloc (.cells (Builtin.zeroCells z.cells m++Builtin.zeroCells z.cells (grownCap w m 0 el-m)) el)) ((g.below.drew).alloc g.hB _) (by show w.heap.size<=(w.drew.alloc _).heap.size;simp only[World.alloc,Array.size_push];exact le_succ _) (fun n hn=>Below.heap_alloc w.drew _ n hn) ur (k:=⟨el,ks,agg,.o .rep e n,true,none⟩) rfl (D:=replicate m d) (ad:=some ⟨w.heap.size,0,none⟩) (n:=m) (cap:=grownCap w m 0 el) hD (by simp) hg1 hg2
   (fun _=> .inr ⟨⟨by simp only;rw[bS dI];simp,.inr ⟨_,_,_,rfl,zero_le _,heap_alloc_new w.drew _,hg1,hg2,?_,?_⟩⟩,fun p hp=>by have:=sP hp;simp[Value.ownBlock]at this;omega⟩) (fun h=>by cases h) (fun x hx i k hk=>by rw[eq_of_mem_replicate hx];exact d3 _ _ i k hk)
  ·exact⟨_,_,_,_,sC _ _ jX,.inl rfl,hle _,fun _ _=>rfl,fun i hi=>by simp at hi;simp[hi],⟨by simp,_,_,_,rfl⟩,gg⟩
  ·have hzs:z.cells.size=ks.length:=by rw[<-eC dI d,d2,Array.length_toList]
   rw[Array.size_append,size_zeroCells,size_zeroCells,hzs,<-Nat.add_mul]
   congr 1;omega
  ·simp only
   rw[TF,Array.toList_append,take_append_of_le_length (by rw[<-TF,bS dI];simp),take_of_length_le (by rw[<-TF,bS dI];simp)]
theorem akK (g:aX P B w0 σ c a w) (gY:MV σ c a rd){cons:nw}{cl:Call} (hc:cl.callee= .builtin .append) (ho:o.op= .call cl){r:il} (ur:∀i∈r.nr,c.R i=none) (h:KX P cons rd cl=some r)
 (hn:∀e∈r.lN,(e.ev c.ρ).bool=true):eQ P B w0 σ c a w o r:=by
 unfold KX at h
 rw[hc]at h
 simp only at h
 split at h
 rotate_left
 ·cases h
 rename_i s x t t' h1 h2
 split at h
 rotate_left
 ·split at h
  ·rename_i r' hz
   cases h
   exact afh g gY hc ho (by rw[<-h1]) (by rw[<-h2]) ur hz hn
  ·exact akJ g gY hc ho (by rw[<-h1]) (by rw[<-h2]) ur h hn
 rename_i ht
 subst ht
 split at h
 rotate_left
 ·cases h
 rename_i el hu
 split at h
 rotate_left
 ·cases h
 rename_i agg ks i src lo len hrt hi hsl
 split at h
 rotate_left
 ·cases h
 rename_i jV
 simp only[Bool.and_eq_true]at jV
 obtain⟨⟨⟨aoh,EJ⟩,jQ⟩,kZ⟩:=jV
 have kZ:i.size=ks.length:=eq_of_beq_eq_true kZ
 have jQ:0<i.bytes:=le_of_ble_eq_true (by simpa[blt]using jQ)
 obtain⟨dI,jW⟩:=jp EJ
 obtain⟨z,hz,hzs⟩:=RL hrt hi
 obtain⟨ad,m,cc,hv,hlen,hlo,hmc,OG,Mn,Pu⟩:=pn g gY.row hsl (gY.ev x)
 have kY:cl.args= #[s,x]:=by rw[<-h1]
 have aim:cl.argTypes= #[t,t]:=by rw[<-h2]
 have sC:∀v' w',(Builtin.append_ #[t,t] o.type #[a.eval s,a.eval x]).run P w= .ok v' w'->(execOp a.eval o).run P w= .ok (.value v') w':=fun v' w' he=>by
  simp[execOp,ho,resolve,hc,kY,aim,invoke,builtin,he]
 have aug:∃E:aP,((vU (rd.ev x) src lo len).ev c.ρ).er= .l (mS E)/\(∀x∈E,lW P w (fg B σ c) agg ks x)/\(m=0\/∃ad',ad=some ad'/\∀j u,(aE agg ks E)[j]? =some u->w.cell? (ad'.add j)=some u):=by
  cases src with
  |none=>
   refine⟨[],?_,(fun x hx=>by cases hx),.inl Pu.1⟩
   obtain⟨_,_,hn⟩:=Pu
   rw[hn]
   simp[vU,Ex.ev,Sc.er]
  |some rk=>
   obtain⟨q,k⟩:=rk
   simp only at Pu
   obtain⟨_,hk,_,_,hpk,_,_,_,_,pK,E,hE,vX,hcell⟩:=Pu
   simp only[rK,Bool.and_eq_true,beq_iff_eq,decide_eq_true_eq]at aoh
   obtain⟨⟨⟨_,hks⟩,hag⟩,_⟩:=aoh
   subst hks hag
   refine⟨E,hE,vX,?_⟩
   by_cases hm:m=0
   ·exact .inl hm
   obtain⟨p,q',m',uI,e1,e2,e3⟩:=pK (by omega)
   refine .inr ⟨_,e3,fun j u hj=> ?_⟩
   obtain⟨p',o',f1,f2,_⟩:=hcell j u hj
   rw[e3]at f1;cases f1
   have h0:(⟨p,q'+(lo.ev c.ρ).int.toNat*k.ks.length,none⟩:Addr).add j=⟨p,q'+(lo.ev c.ρ).int.toNat*k.ks.length+j,none⟩:=by unfold Addr.add;split<;>simp_all
   rw[h0];exact f2
 generalize hy:vU (rd.ev x) src lo len=y at h Mn Pu aug
 obtain⟨E,hE,at4,BZ⟩:=aug
 have hEl:E.length=m:=by rw[o9 (iI hE)];exact Mn
 have ay7:∀(n0:Nat) (l0:aP) (A6:Option Addr) (og:Nat),n0<=og->og<=maxLen->l0.length=n0->(og=0\/w.ownsRow 0 el ks.length (.slice A6 n0 og) n0 (aE agg ks l0))->
  (n0+m)*i.bytes<=140737488355328->n0+m<=maxLen->
  ∃Da eW w',(Builtin.append_ #[t,t] o.type #[.slice A6 n0 og,a.eval x]).run P w= .ok (.slice Da (n0+m) eW) w'/\n0+m<=eW/\eW<=maxLen/\(eW=0\/w'.ownsRow 0 el ks.length (.slice Da (n0+m) eW) (n0+m) (aE agg ks (l0++E)))/\
   w.grownBy w' (dG (.slice A6 n0 og))/\(dG (.slice Da (n0+m) eW)=dG (.slice A6 n0 og)\/∀p,dG (.slice Da (n0+m) eW)=some p->w.heap.size<=p):=by
  intro n0 l0 A6 og avS aDa X5 cv hb1 Rr
  rw[hv,oS]
  exact aay (P:=P) w t o.type el i z ks.length i.bytes hu hi hz kZ rfl hzs jW A6 n0 og avS aDa _ (by rw[bS dI,X5]) cv ad m cc (aE agg ks E) (by rw[bS dI,hEl]) BZ (afU agg ks _) Rr hb1
 split at h
 ·
  rename_i r' hs
  split at h
  rotate_left
  ·cases h
  rename_i k hk
  split at h
  rotate_left
  ·cases h
  rename_i jV
  simp only[Bool.and_eq_true,rK,beq_iff_eq,decide_eq_true_eq]at jV
  obtain⟨⟨cv,⟨⟨NK,hks⟩,hag⟩,pK⟩,hnr⟩:=jV
  have pK:=gr pK
  cases h
  have ur:=ur rd.nr (by simp)
  subst NK hks hag
  have LO:=gY.ev s
  rw[hs]at LO
  obtain⟨hR,A6,n0,og,hv0⟩:=LO
  have mi:=gY.row _ _ hk
  obtain⟨v0,e,D,ad1,n1,ayh,hv1,q0,q1,q2,q3,q4,q5,q6⟩:=g.rows _ _ mi
  rw[hR]at e
  cases e
  rw[hv0]at hv1;cases hv1
  have q1':(k.cont.ev c.ρ).list.length=n0:=by rw[<-o9 (iI q0)];exact q1
  have xY:=OT (hn _ (mem_singleton.2 rfl)) jQ
  rw[SF,length_append,q1',Mn]at xY
  have q4:=(q4 cv).imp id (·.1.plain pK)
  rw[hv0]at sC hR q4
  obtain⟨Da,eW,w',hr,f1,f2,r1,r2,r3⟩:=ay7 n0 D A6 og q2 q3 q1 q4 xY.1 xY.2
  have gg:=g.K8 mi cv hR (w':=w') r2 (r':=rd.nr) (k':={k with cont:=xf k.cont y}) cv pK (D:=D++E) (ad:=Da) (n:=n0+m) (cap:=eW) (UR c.ρ q0 hE) (by rw[length_append,q1,hEl]) f1 f2 r1 r3 (.inl ur)
   (fun x hx=>(mem_append.1 hx).elim (q6 x) (at4 x))
  refine⟨_,w',_,{c with R:=fun i=>if i=rd.nr then some (.slice Da (n0+m) eW)else c.R i},sC _ _ hr,.inl rfl,?_,fun _ _=>rfl,fun i hi=>by simp at hi;simp[hi],⟨by simp,Da,n0+m,eW,rfl⟩,gg⟩
  exact⟨rfl,rfl,fun _ _ e=>e,fun i u e=>by
   by_cases h:i=rd.nr
   ·subst h;rw[ur]at e;cases e
   ·simp[h,e]⟩
 ·
  rename_i hs
  cases h
  have ur:=ur rd.nr (by simp)
  have LO:=gY.ev s
  rw[hs]at LO
  obtain⟨A6,LO⟩:=LO
  have xY:=OT (hn _ (mem_singleton.2 rfl)) jQ
  rw[SF,length_append,Mn]at xY
  simp only[Ex.ev,Sc.VY,length_nil,Nat.zero_add]at xY
  obtain⟨Da,eW,w',hr,f1,f2,r1,r2,r3⟩:=ay7 0 [] A6 0 (Nat.le_refl _) (zero_le _) rfl (.inl rfl) (by simpa using xY.1) (by simpa using xY.2)
  rw[LO]at sC
  have hob:dG (.slice A6 0 0)=none:=by cases A6<;>rfl
  rw[hob]at r2 r3
  simp only[Nat.zero_add,nil_append]at hr f1 r1 r3
  have hb:((xf .nil y).ev c.ρ).er= .l (mS E):=by
   have:=UR c.ρ (x:= .nil) (y:=y) (D1:=[]) (D2:=E) (by simp[Ex.ev,Sc.er]) hE
   simpa using this
  have gg:=g.newRow (w':=w') (g.below.grown r2 g.hB (fun k hk=>by cases hk)) r2.size (fun n hn=>r2.block n hn (by simp)) ur
   (k:=⟨el,ks,agg,xf .nil y,true,none⟩) rfl (D:=E) (ad:=Da) (n:=m) (cap:=eW) hb hEl f1 f2
   (fun _=>r1.imp id fun r1=>⟨r1,fun p hp=>by
     rcases r3 with h|h
     ·rw[hp]at h;cases h
     ·exact h p hp⟩) (fun h=>by cases h) at4
  refine⟨_,w',_,{c with R:=fun i=>if i=rd.nr then some (.slice Da m eW)else c.R i},sC _ _ hr,.inl rfl,?_,fun _ _=>rfl,fun i hi=>by simp at hi;simp[hi],⟨by simp,Da,m,eW,rfl⟩,gg⟩
  exact⟨rfl,rfl,fun _ _ e=>e,fun i u e=>by
   by_cases h:i=rd.nr
   ·subst h;rw[ur]at e;cases e
   ·simp[h,e]⟩
 ·cases h
end
open Go.RowKit
section
variable {P:Program}{B:mC}{w0:World}{σ:St}{c:Ct}{a:Act}{w:World}{o:Oper}{rd:Rd}
theorem aoU:∀(l:List Operand) (k:IntKind) (e e':Ex),mmL .max e (l.map rd.ev)=some e'->(∀x,(rd.ev x).rel c (a.eval x))->
 ((l.map a.eval).foldlM Builtin.max2 (.int k (e.ev c.ρ).int)).run P w= .ok (.int k (e'.ev c.ρ).int) w
 |[],k,e,e',h,_=>by simp[mmL]at h;subst h;rfl
 |x::l,k,e,e',h,hr=>by
  have hx:=hr x
  simp only[map_cons]at h
  unfold mmL at h
  split at h
  ·rename_i h1;cases h1
  ·rename_i k' q r h2
   simp only[List.cons.injEq]at h2
   obtain⟨h2,rfl⟩:=h2
   rw[h2]at hx
   have hx:a.eval x= .int k' (q.ev c.ρ).int:=hx
   have ih:=aoU l k _ e' h hr
   rw[bP]at ih
   simp only[map_cons,foldlM_cons,hx,Builtin.max2,Sem.run_bind,Sem.run_pure,Result.andThen_ok]
   exact ih
  ·cases h
theorem aoV:∀(l:List Operand) (k:IntKind) (e e':Ex),mmL .min e (l.map rd.ev)=some e'->(∀x,(rd.ev x).rel c (a.eval x))->
 ((l.map a.eval).foldlM Builtin.min2 (.int k (e.ev c.ρ).int)).run P w= .ok (.int k (e'.ev c.ρ).int) w
 |[],k,e,e',h,_=>by simp[mmL]at h;subst h;rfl
 |x::l,k,e,e',h,hr=>by
  have hx:=hr x
  simp only[map_cons]at h
  unfold mmL at h
  split at h
  ·rename_i h1;cases h1
  ·rename_i k' q r h2
   simp only[List.cons.injEq]at h2
   obtain⟨h2,rfl⟩:=h2
   rw[h2]at hx
   have hx:a.eval x= .int k' (q.ev c.ρ).int:=hx
   have ih:=aoV l k _ e' h hr
   rw[bP]at ih
   simp only[map_cons,foldlM_cons,hx,Builtin.min2,Sem.run_bind,Sem.run_pure,Result.andThen_ok]
   exact ih
  ·cases h
theorem SX {cons:nw}{gg:Nat}{xs:List SV}{r:il} (h:J0 P cons rd gg xs=some r) (hc:r.call=none):False:=by
 unfold J0 at h
 split at h
 ·split at h
  ·cases h;cases hc
  ·cases h
 ·cases h
theorem ak7 {agg:Bool}{ks:tE} (h:AJ agg ks) (l:aP) (n:Nat):(aE agg ks l).take (n*ks.length)=aE agg ks (l.take n):=by
 by_cases hn:n<=l.length
 ·have e:aE agg ks l=aE agg ks (l.take n)++aE agg ks (l.drop n):=by rw[<-oS,take_append_drop]
  have hl:(aE agg ks (l.take n)).length=n*ks.length:=by rw[bS h,length_take,Nat.min_eq_left hn]
  rw[e,take_append_of_le_length (by omega),take_of_length_le (by omega)]
 ·rw[take_of_length_le (l:=l) (by omega),take_of_length_le (by rw[bS h];exact mul_le_mul_right _ (by omega))]
theorem ak5 {agg:Bool}{ks:tE} (h:AJ agg ks) (l:aP) (n:Nat):(aE agg ks l).drop (n*ks.length)=aE agg ks (l.drop n):=by
 by_cases hn:n<=l.length
 ·have e:aE agg ks l=aE agg ks (l.take n)++aE agg ks (l.drop n):=by rw[<-oS,take_append_drop]
  have hl:(aE agg ks (l.take n)).length=n*ks.length:=by rw[bS h,length_take,Nat.min_eq_left hn]
  rw[e,<-hl,drop_left']
  rfl
 ·rw[drop_of_length_le (l:=l) (by omega),drop_of_length_le (by rw[bS h];exact mul_le_mul_right _ (by omega))];rfl
theorem amY (g:aX P B w0 σ c a w) (gY:MV σ c a rd){cl:Call} (hc:cl.callee= .builtin .clear) (ho:o.op= .call cl){x:Operand}{t:TypeId} (kY:cl.args= #[x]) (aim:cl.argTypes= #[t]){el:TypeId} (hu:P.underlying t=some (.slice el))
 {rr es:Nat}{lo len:Ex} (Ae:rd.ev x= .c (.a (.sl rr es lo len))){k:Rw} (hk:rd.row rr=some k){agg:Bool}{ks:tE}{z:Value} (hz:(P.info? el).bind (·.zero)=some z)
 (jV:(k.own&&rK el ks agg (some (rr,k))&&dC agg ks&&Nat.beq es ks.length)=true){e:Ex} (he:Oz P agg ks z.cells.toList=some e):
 eQ P B w0 σ c a w o ⟨[],none,.t [],[],[(rr,some {k with cont:=xf (TV .KI k.cont (.i 0) lo) (xf (.o .rep e len) (TV .KI k.cont (iV (.add .i64) lo len) (CB .len k.cont)))})],[],[]⟩:=by
 simp only[Bool.and_eq_true,rK,beq_iff_eq,decide_eq_true_eq]at jV
 obtain⟨⟨⟨cv,⟨⟨NK,hks⟩,hag⟩,pK⟩,EJ⟩,hes⟩:=jV
 have pK:=gr pK
 have hes:=eq_of_beq_eq_true hes
 subst NK hks hag hes
 obtain⟨dI,jW⟩:=jp EJ
 obtain⟨i,hi,hiz⟩:=Option.bind_eq_some_iff.1 hz
 have hk1:=gY.row _ _ hk
 have TI:=gY.ev x
 rw[Ae]at TI
 obtain⟨ad,n,cap,a',uI,hR,TI,q2,q3,q4,q5,q6,q7⟩:=TI
 obtain⟨v,Pl,D,Da,n',eW,rfl,d0,h1,h2,h3,h4,_,h6⟩:=g.rows rr k hk1
 rw[hR]at Pl;cases Pl
 obtain⟨d,d1,d2,d3⟩:=QP he c.ρ
 have hL:(k.cont.ev c.ρ).list.length=n:=by rw[<-o9 (iI d0)];exact h1
 obtain⟨L,hl⟩:∃L:Nat,(lo.ev c.ρ).int=L:=⟨_,(toNat_of_nonneg q2).symm⟩
 obtain⟨M,hm⟩:∃M:Nat,(len.ev c.ρ).int=M:=⟨_,(toNat_of_nonneg q3).symm⟩
 rw[hl,hm]at q4
 have q4':L+M<=n:=by omega
 have arz:((iV (.add .i64) lo len).ev c.ρ).int=((L+M:Nat):Int):=by
  rw[bP]
  show IntKind.i64.wrap ((lo.ev c.ρ).int+(len.ev c.ρ).int)=_
  rw[hl,hm,Ux (by omega) (by simp only[maxLen]at h3;omega)];simp
 have hA:((TV .KI k.cont (.i 0) lo).ev c.ρ).er= .l (mS (D.take L)):=by
  rw[Hs]
  show(Sc.l (((k.cont.ev c.ρ).list.take (lo.ev c.ρ).int.toNat).drop 0)).er=_
  rw[sk,hl,toNat_natCast,drop_zero,S5,<-iI d0,S5]
 have hB:((Ex.o .rep e len).ev c.ρ).er= .l (mS (replicate M d)):=by
  show(Sc.l (replicate (len.ev c.ρ).int.toNat (e.ev c.ρ))).er=_
  rw[sk,hm,toNat_natCast]
  simp only[DF,map_replicate,d1]
 have hC:((TV .KI k.cont (iV (.add .i64) lo len) (CB .len k.cont)).ev c.ρ).er= .l (mS (D.drop (L+M))):=by
  rw[Hs]
  show(Sc.l (((k.cont.ev c.ρ).list.take ((CB .len k.cont).ev c.ρ).int.toNat).drop ((iV (.add .i64) lo len).ev c.ρ).int.toNat)).er=_
  rw[sk,arz,toNat_natCast,kR]
  simp only[U1.ev,Sc.acL,toNat_natCast]
  rw[take_of_length_le (Nat.le_refl _),S4,<-iI d0,S4]
 have hD:=UR c.ρ hA (UR c.ρ hB hC)
 have hlen:(D.take L++(replicate M d++D.drop (L+M))).length=n:=by simp;omega
 have hft:∀x∈D.take L++(replicate M d++D.drop (L+M)),lW P w (fg B σ c) k.agg k.ks x:=fun x hx=>by
  rcases mem_append.1 hx with hx|hx
  ·exact h6 x (mem_of_mem_take hx)
  ·rcases mem_append.1 hx with hx|hx
   ·rw[eq_of_mem_replicate hx];exact d3 _ _
   ·exact h6 x (mem_of_mem_drop hx)
 have sC:∀w',(Builtin.clear_ #[t] o.type #[a.eval x]).run P w= .ok (.tuple #[]) w'->(execOp a.eval o).run P w= .ok (.value (.tuple #[])) w':=fun w' he=>by
  simp[execOp,ho,resolve,hc,kY,aim,invoke,builtin,he]
 have aC9:(fun i=>if i=rr then some (Value.slice ad n cap)else c.R i)=c.R:=by
  funext i
  by_cases h:i=rr
  ·subst h;simp[hR]
  ·simp[h]
 have fin:∀w',(Builtin.clear_ #[t] o.type #[a.eval x]).run P w= .ok (.tuple #[]) w'->w.grownBy w' (dG (.slice ad n cap))->
  (cap=0\/w'.ownsRow 0 k.el k.ks.length (.slice ad n cap) n (aE k.agg k.ks (D.take L++(replicate M d++D.drop (L+M)))))->
  eQ P B w0 σ c a w o ⟨[],none,.t [],[],[(rr,some {k with cont:=xf (TV .KI k.cont (.i 0) lo) (xf (.o .rep e len) (TV .KI k.cont (iV (.add .i64) lo len) (CB .len k.cont)))})],[],[]⟩:=fun w' jX hgr pc=>by
  have gg:=g.K8 hk1 cv hR (w':=w') hgr (r':=rr) (k':={k with cont:=xf (TV .KI k.cont (.i 0) lo) (xf (.o .rep e len) (TV .KI k.cont (iV (.add .i64) lo len) (CB .len k.cont)))}) cv pK hD hlen h2 h3 pc (.inl rfl) (.inr ⟨rfl,rfl⟩) hft
  rw[aC9]at gg
  simp only[D8]at gg
  exact⟨_,w',_,c,sC _ jX,.inl rfl,.refl c,fun _ _=>rfl,fun _ _=>rfl,⟨[],rfl,trivial⟩,gg⟩
 have h4:=(h4 cv).imp id (·.1.plain pK)
 rw[hm]at TI q7
 by_cases hM:M=0
 ·subst hM
  refine fin w ?_ (World.grownBy.refl _ _) ?_
  ·rw[TI]
   cases a'<;>simp[Builtin.clear_,run_underlying hu]
  ·simpa using h4
 ·obtain⟨b,o',e1,e2⟩:=q7 (by omega)
  rcases h4 with h|h4
  ·omega
  rcases h4.2 with⟨hv,_⟩|⟨p',eW,cur,hv,hb,ve,hnc,OG,MD,TG⟩
  ·cases hv;omega
  cases hv
  cases e1
  have aii:∀u∈(Builtin.zeroCells z.cells M).toList,u.oneCell'=true:=by
   rw[<-Ka dI jW d2 M];exact afU _ _ _
  have hzl:(Builtin.zeroCells z.cells M).toList.length=M*k.ks.length:=by rw[<-Ka dI jW d2 M,bS dI,length_replicate]
  have W7:cur.toList.length=cap*k.ks.length:=by simpa using MD
  have hlm:L*k.ks.length+M*k.ks.length<=n*k.ks.length:=by rw[<-Nat.add_mul];exact mul_le_mul_right _ q4'
  have hnm:n*k.ks.length<=cap*k.ks.length:=mul_le_mul_right _ h2
  have pW:=run_storeCells_at P b (L*k.ks.length) k.el (Builtin.zeroCells z.cells M).toList 0 cur w ve (by
   have:cur.size=cur.toList.length:=by simp
   rw[this,W7,hzl];omega) aii
  simp only[Nat.add_zero]at pW
  refine fin _ ?_ ?_ (.inr ⟨by rw[bS dI,hlen],.inr ⟨b,cap,(cur.toList.take (L*k.ks.length)++(Builtin.zeroCells z.cells M).toList++cur.toList.drop (L*k.ks.length+(Builtin.zeroCells z.cells M).toList.length)).toArray,rfl,zero_le _,setRow_heap w b cur _ k.el _ ve,hnc,OG,?_,?_⟩⟩)
  ·rw[TI,e2]
   have hMn:(M:Int).toNat=M+0:=by simp
   cases M with
   |zero=>exact absurd rfl hM
   |succ M=>
    simp only[hl,toNat_natCast,Nat.zero_add]
    simp[Builtin.clear_,run_underlying hu,zeroValue,typeInfo,hi,hiz,pW]
  ·exact⟨rfl,rfl,rfl,by simp[World.setRow],fun j _ hj=>setRow_other w b j _ (fun e'=>hj (by rw[sO (by omega),e']))⟩
  ·simp only[size_toArray,length_append,length_take,length_drop,W7,hzl];omega
  ·simp only
   rw[Oh cur.toList _ (L*k.ks.length) _ (M:=n*k.ks.length) rfl (by rw[hzl];exact hlm) (by omega),TG,hzl,oS,oS,ak7 dI,<-Nat.add_mul,ak5 dI,Ka dI jW d2 M,append_assoc]
theorem ahG (g:aX P B w0 σ c a w) (gY:MV σ c a rd){cons:nw}{cl:Call} (ho:o.op= .call cl){r:il} (ur:∀i∈r.nr,c.R i=none) (h:KX P cons rd cl=some r) (dU:r.call=none)
 (hn:∀e∈r.lN,(e.ev c.ρ).bool=true):eQ P B w0 σ c a w o r:=by
 have h':=h
 unfold KX at h
 split at h
 ·
  rename_i hc
  split at h
  ·rename_i x t ts h1 h2
   have kY:cl.args= #[x]:=by rw[<-h1]
   have ht:cl.argTypes[0]? =some t:=by rw[<-Array.getElem?_toList,h2];rfl
   have hx:=gY.ev x
   have sC:∀v',(Builtin.len_ cl.argTypes o.type #[a.eval x]).run P w= .ok v' w->(execOp a.eval o).run P w= .ok (.value v') w:=fun v' he=>by
    simp[execOp,ho,resolve,hc,kY,invoke,builtin,he]
   split at h
   ·rename_i e hu Ae
    cases h
    rw[Ae]at hx
    have hx:a.eval x= .string (e.ev c.ρ).str:=hx
    exact eQ.quiet g (sC _ (by simp[Builtin.len_,ht,run_underlying hu,hx];rfl)) (by show _=_;rw[kR];rfl)
   ·rename_i el b lo n hu Ae
    cases h
    rw[Ae]at hx
    obtain⟨m,cap,_,hv⟩:=hx
    exact eQ.quiet g (sC (.int .i64 n) (by simp[Builtin.len_,ht,run_underlying hu,hv,goInt])) rfl
   ·rename_i el y hu _
    simp only[Option.map_eq_some_iff]at h
    obtain⟨⟨src,lo,len⟩,hs,rfl⟩:=h
    obtain⟨ad,n,cap,hv,hl,_⟩:=pn g gY.row hs hx
    exact eQ.quiet g (sC (.int .i64 n) (by simp[Builtin.len_,ht,run_underlying hu,hv,goInt])) (by show _=_;rw[hl])
   ·rename_i n el hu
    cases h
    exact eQ.quiet g (sC (.int .i64 n) (by
     have:∀v:Value,(Builtin.len_ cl.argTypes o.type #[v]).run P w= .ok (.int .i64 n) w:=fun v=>by cases v<;>simp[Builtin.len_,ht,run_underlying hu,goInt]
     exact this _)) rfl
   ·cases h
  ·cases h
 ·
  rename_i hc
  split at h
  ·rename_i x t ts h1 h2
   have kY:cl.args= #[x]:=by rw[<-h1]
   have ht:cl.argTypes[0]? =some t:=by rw[<-Array.getElem?_toList,h2];rfl
   have hx:=gY.ev x
   split at h
   ·rename_i el hu Ae
    cases h
    rw[Ae]at hx
    obtain⟨ad,hv⟩:=hx
    exact eQ.quiet g (v:= .int .i64 0) (by simp[execOp,ho,resolve,hc,kY,invoke,builtin,Builtin.cap_,ht,hv,run_underlying hu,goInt]) rfl
   ·cases h
  ·cases h
 ·
  rename_i hc
  split at h
  rotate_left
  ·cases h
  rename_i x t h1 h2
  split at h
  rotate_left
  ·cases h
  rename_i el rr es lo len hu Ae
  split at h
  rotate_left
  ·cases h
  rename_i k agg ks z hk hrt hz
  split at h
  rotate_left
  ·cases h
  rename_i jV
  split at h
  rotate_left
  ·cases h
  rename_i e he
  cases h
  exact amY g gY hc ho (by rw[<-h1]) (by rw[<-h2]) hu Ae hk hz jV he
 ·
  rename_i hc
  split at h
  ·rename_i x l h1
   have hx:=gY.ev x
   split at h
   ·rename_i k e Ae
    simp only[Option.map_eq_some_iff]at h
    obtain⟨e',h2,rfl⟩:=h
    rw[Ae]at hx
    have hx:a.eval x= .int k (e.ev c.ρ).int:=hx
    have:=aoU (P:=P) (w:=w) l k e e' h2 gY.ev
    exact eQ.quiet g (v:= .int k (e'.ev c.ρ).int) (by simp[execOp,ho,resolve,hc,invoke,builtin,Builtin.max_,h1,hx,this]) rfl
   ·cases h
  ·cases h
 ·
  rename_i hc
  split at h
  ·rename_i x l h1
   have hx:=gY.ev x
   split at h
   ·rename_i k e Ae
    simp only[Option.map_eq_some_iff]at h
    obtain⟨e',h2,rfl⟩:=h
    rw[Ae]at hx
    have hx:a.eval x= .int k (e.ev c.ρ).int:=hx
    have:=aoV (P:=P) (w:=w) l k e e' h2 gY.ev
    exact eQ.quiet g (v:= .int k (e'.ev c.ρ).int) (by simp[execOp,ho,resolve,hc,invoke,builtin,Builtin.min_,h1,hx,this]) rfl
   ·cases h
  ·cases h
 ·rename_i hc
  exact akK g gY hc ho ur h' hn
 ·
  split at h
  ·exact(SX h dU).elim
  ·exact(SX h dU).elim
  ·cases h
 ·cases h
end
open Go.RowKit
theorem apN (off:Nat):∀(us:dm) (k:Nat) (vs:dm),off+k+us.length<=vs.length->
 (us.zipIdx k).foldl (fun(cs:Array Value) (x:Value×Nat)=>cs.setIfInBounds (off+x.2) x.1) vs.toArray=(vs.take (off+k)++us++vs.drop (off+k+us.length)).toArray
 |[],k,vs,_=>by simp
 |u::us,k,vs,h=>by
  simp only[length_cons]at h
  simp only[zipIdx_cons,foldl_cons,setIfInBounds_toArray]
  rw[apN off us (k+1) (vs.set (off+k) u) (by simp;omega)]
  congr 1
  have h1:(vs.set (off+k) u).take (off+(k+1))=vs.take (off+k)++[u]:=by
   rw[show off+(k+1)=(off+k)+1 by omega,take_succ_eq_append_getElem (by simp;omega)]
   simp[take_set_of_le]
  have h2:(vs.set (off+k) u).drop (off+(k+1)+us.length)=vs.drop (off+k+(us.length+1)):=by
   rw[show off+(k+1)+us.length=off+k+(us.length+1)by omega,drop_set_of_lt (by omega)]
  rw[h1,h2]
  simp
theorem akq (off:Nat) (us vs:dm) (h:off+us.length<=vs.length) (f:Array Value->Value×Nat->Array Value) (hf:f=fun cs x=>cs.setIfInBounds (off+x.2) x.1):
 us.toArray.zipIdx.foldl f vs.toArray=(vs.take off++us++vs.drop (off+us.length)).toArray:=by
 subst hf
 have:=apN off us 0 vs (by simpa using h)
 rw[<-Array.foldl_toList,Array.toList_zipIdx]
 simpa using this
section
variable {P:Program}{B:mC}{w0:World}{σ:St}{c:Ct}{a:Act}{w:World}{o:Oper}{rd:Rd}
theorem U9 {place:Nat->Option (Nat×Nat)}:∀{parts:List (Nat×SV)}{tA:List (Nat×Value)}{cs R0:qE}{vs:dm},W0 place cs parts=some R0->fp c cs vs->cs.length=vs.length->
 parts.length=tA.length->(∀i (h1:i<parts.length) (h2:i<tA.length),(parts[i]).1=(tA[i]).1/\(parts[i]).2.rel c (tA[i]).2)->
 ∃vs',Instr.fill place vs.toArray tA=some vs'.toArray/\fp c R0 vs'
 |[],[],cs,R0,vs,h,hr,_,_,_=>by simp[W0]at h;subst h;exact⟨vs,rfl,hr⟩
 |[],_::_,_,_,_,_,_,_,hl,_=>by simp at hl
 |_::_,[],_,_,_,_,_,_,hl,_=>by simp at hl
 |(i,x)::parts,(i',v)::tA,cs,R0,vs,h,hr,MD,hl,hp=>by
  have h0:=hp 0 (by simp) (by simp)
  simp only[getElem_cons_zero]at h0
  obtain⟨rfl,hx⟩:=h0
  unfold W0 at h
  split at h
  ·rename_i off size xs h1 h2
   split at h
   ·rename_i hlen
    obtain⟨hlen,hkn⟩:=hlen
    split at h
    ·rename_i cs2 h3
     obtain⟨us,hu,hur⟩:=yP h2 hkn hx
     obtain⟨h4,h5⟩:=Gs h3 hr hur
     have hul:us.length=size:=by rw[vo hur,hlen]
     have h6:=akq off us vs h5 _ rfl
     have:=U9 (parts:=parts) (tA:=tA) h h4 (by
      have:=vo h4;exact this.symm) (by simpa using hl) (fun j h1 h2=>by
       have:=hp (j+1) (by simp;omega) (by simp;omega)
       simpa using this)
     obtain⟨vs',e1,e2⟩:=this
     refine⟨vs',?_,e2⟩
     unfold Instr.fill
     simp only[h1,hu,size_toArray,hul]
     rw[if_neg (by simp;omega)]
     rw[h6]
     exact e1
    ·cases h
   ·cases h
  ·cases h
theorem amH {k:CK}{x:At}{e:Ex} (h:aq0 k x=some e){v:Value} (hr:x.rel c v):v=k.val (e.ev c.ρ)/\∀el,k≠.sl el:=by
 unfold aq0 at h
 split at h
 ·split at h
  ·rename_i hk;cases h;subst hk;exact⟨hr,fun _ h=>by cases h⟩
  ·cases h
 ·cases h;exact⟨hr,fun _ h=>by cases h⟩
 ·cases h;exact⟨hr,fun _ h=>by cases h⟩
 ·cases h
theorem aX.Yt:∀{fr:eJ}{σ:St},aX P B w0 σ c a w->(∀q z,(q,z)∈fr->∃k,σ.row q=some k/\k.hole=none/\z=some {k with own:=false})->
 aX P B w0 {σ with rows:=aH σ.rows fr} c a w/\(∀q k,σ.row q=some k->St.row {σ with rows:=aH σ.rows fr} q=(if q∈fr.map (·.1)then some {k with own:=false}else some k))
 |[],σ,g,_=>⟨g,fun q k h=>by simp only[map_nil,not_mem_nil,if_false];exact h⟩
 |(r,z)::fr,σ,g,h=>by
  obtain⟨k,hk,hp,rfl⟩:=h r z (by simp)
  have g1:=g.freeze hk hp
  have pc:∀q,St.row {σ with rows:=dH none σ.rows r (some {k with own:=false})} q=if q=r then some {k with own:=false}else σ.row q:=fun q=>tU σ.rows r _ q
  obtain⟨g2,h2⟩:=aX.Yt (fr:=fr) g1 (fun q z hz=>by
   obtain⟨k',mi,hz'⟩:=h q z (mem_cons_of_mem _ hz)
   by_cases hq:q=r
   ·subst hq
    rw[hk]at mi;cases mi
    exact⟨{k with own:=false},by rw[pc,if_pos rfl],hz'⟩
   ·exact⟨k',by rw[pc,if_neg hq];exact mi,hz'⟩)
  refine⟨g2,fun q k' mi=> ?_⟩
  have e:(St.row {σ with rows:=aH σ.rows ((r,some {k with own:=false})::fr)} q)=St.row {{σ with rows:=dH none σ.rows r (some {k with own:=false})}with rows:=aH (dH none σ.rows r (some {k with own:=false})) fr} q:=rfl
  rw[e]
  by_cases hq:q=r
  ·subst hq
   rw[hk]at mi;cases mi
   rw[h2 q {k with own:=false} (by rw[pc,if_pos rfl])]
   simp only[ite_self,map_cons,mem_cons,true_or,if_true]
  ·rw[h2 q k' (by rw[pc,if_neg hq];exact mi)]
   simp only[map_cons,mem_cons,hq,false_or]
theorem agT {row row':tB}{sv:SV}{src:Option (Nat×Rw)}{lo len:Ex} (h:cy row sv=some (src,lo,len)) (h2:∀q k,row q=some k->src=some (q,k)->row' q=some {k with own:=false}):
 cy row' sv=some (src.map (fun x=>(x.1,{x.2 with own:=false})),lo,len):=by
 rcases sv with(x|cs)|xs|_
 case c.g=>simp[cy]at h
 case t=>simp[cy]at h
 case nx=>simp[cy]at h
 cases x<;>try(simp[cy]at h;done)
 case vec r=>
  cases hk:row r with
  |none=>simp[cy,hk]at h
  |some k=>
   by_cases hf:dC k.agg k.ks=true/\k.plain=true
   ·simp[cy,hk,hf]at h
    obtain⟨rfl,rfl,rfl⟩:=h
    have hp:Rw.plain {k with own:=false}=true:=hf.2
    simp[cy,h2 r k hk rfl,hf.1,hp]
   ·simp only[cy,hk,Bool.and_eq_true]at h;rw[if_neg hf]at h;cases h
 case sl r es lo' aoI=>
  cases hk:row r with
  |none=>simp[cy,hk]at h
  |some k=>
   by_cases hf:es=k.ks.length/\dC k.agg k.ks=true/\k.plain=true
   ·simp[cy,hk,hf]at h
    obtain⟨rfl,rfl,rfl⟩:=h
    have hp:Rw.plain {k with own:=false}=true:=hf.2.2
    simp[cy,h2 r k hk rfl,hf.1,hf.2.1,hp]
   ·simp only[cy,hk]at h;rw[if_neg hf]at h;cases h
 case Mr=>
  simp[cy]at h
  obtain⟨rfl,rfl,rfl⟩:=h
  simp[cy]
theorem QE {row:tB}{x:At}{r:Nat}{k:Rw}{lo len:Ex} (h:cy row (.at x)=some (some (r,k),lo,len)):k.hole=none:=by
 cases x<;>simp only[cy]at h<;>try(cases h;done)
 all_goals
  split at h
  ·split at h
   ·rename_i hc
    cases h
    try simp only[Bool.and_eq_true]at hc
    first|exact gr hc.2|exact gr hc.2.2
   ·cases h
  ·cases h
theorem Gq {row:tB}{x:At}{r:Nat}{k:Rw}{lo len:Ex} (h:cy row (.at x)=some (some (r,k),lo,len)):row r=some k:=by
 cases x<;>simp[cy]at h
 case vec q=>
  split at h
  ·rename_i k' mi;split at h<;>simp at h
   obtain⟨⟨rfl,rfl⟩,_⟩:=h;exact mi
  ·cases h
 case sl q es l1 l2=>
  split at h
  ·rename_i k' mi;split at h<;>simp at h
   obtain⟨⟨rfl,rfl⟩,_⟩:=h;exact mi
  ·cases h
def Fz (row:tB) (σ:St) (fr:eJ):Prop:=∀q k,row q=some k->(k.own=false\/(q,some {k with own:=false})∈fr)->σ.row q=some {k with own:=false}
def xe (row:tB) (fr:eJ):Prop:=∀q z,(q,z)∈fr->∃k,row q=some k/\k.hole=none/\z=some {k with own:=false}
theorem Fz.left {row:tB}{f1 f2:eJ} (h:Fz row σ (f1++f2)):Fz row σ f1:=fun q k hk hc=>h q k hk (hc.imp id (fun m=>mem_append_left _ m))
theorem Fz.right {row:tB}{f1 f2:eJ} (h:Fz row σ (f1++f2)):Fz row σ f2:=fun q k hk hc=>h q k hk (hc.imp id (fun m=>mem_append_right _ m))
theorem xe.append {row:tB}{f1 f2:eJ} (h1:xe row f1) (h2:xe row f2):xe row (f1++f2):=fun q z hz=>(mem_append.1 hz).elim (h1 q z) (h2 q z)
theorem xe.nil {row:tB}:xe row []:=fun q z hz=>by cases hz
theorem akL {row:tB}{el:TypeId}{ks:tE}{agg:Bool}{x:At}{e:Ex}{fr:eJ} (h:UT row el ks agg x=some (e,fr)):xe row fr:=by
 unfold UT at h
 split at h
 ·rename_i r k lo len hs
  have hk:=Gq hs
  have hp:=QE hs
  split at h
  ·simp only[Option.some.injEq,Prod.mk.injEq]at h
   obtain⟨rfl,rfl⟩:=h
   intro q z hz
   cases cv:k.own
   ·rw[cv]at hz;simp at hz
   ·rw[cv]at hz;simp at hz;obtain⟨rfl,rfl⟩:=hz;exact⟨k,hk,hp,rfl⟩
  ·cases h
 ·cases h;exact .nil
 ·cases h
theorem afj (g:aX P B w0 σ c a w){row:tB}{el:TypeId}{ks:tE}{agg:Bool}{x:At}{e:Ex}{fr:eJ} (h:UT row el ks agg x=some (e,fr)) (hT:qg P el=some (agg,ks)) (hfz:Fz row σ fr)
 {v:Value} (hv:x.rel c v):rv P w (fg B σ c) (.ck (.sl el)) v (e.ev c.ρ):=by
 unfold UT at h
 split at h
 ·rename_i r k lo len hs
  split at h
  ·rename_i hc
   obtain⟨rfl,rfl,rfl⟩:=hc
   simp only[Option.some.injEq,Prod.mk.injEq]at h
   obtain⟨rfl,rfl⟩:=h
   have hrk:row r=some k:=Gq hs
   have hs':=agT (row':=σ.row) hs (fun q k' hq aoh=>by
    simp at aoh
    obtain⟨rfl,rfl⟩:=aoh
    refine hfz r k hrk ?_
    cases cv:k.own
    ·exact .inl rfl
    ·right;simp)
   obtain⟨ad,n,cap,hv',hl,hlo,hnc,OG,Mn,Pu⟩:=pn g (fun _ _ h=>h) hs' hv
   simp only[Option.map_some]at Pu Mn
   obtain⟨_,_,_,_,_,_,_,_,_,_,D,hD,vX,hcell⟩:=Pu
   have azx:vU (.at x) (some (r,k)) lo len=vU (.at x) (some (r,{k with own:=false})) lo len:=by
    cases x<;>rfl
   rw[<-azx]at hD Mn
   refine⟨.r ad n cap D,by rw[ayD];exact hD.symm,hv',.sl hT (by rw[o9 (iI hD)];exact Mn) hnc OG (fun j u hj=> ?_) vX⟩
   obtain⟨p,o,e1,e2,e3⟩:=hcell j u hj
   exact⟨p,o,e1,e2,e3 trivial⟩
  ·cases h
 ·rename_i lo len hs
  cases h
  cases x<;>simp[cy]at hs
  case Mr=>
   obtain⟨ad,rfl⟩:=hv
   exact⟨.r ad 0 0 [],by simp[Ex.ev,Sc.er],rfl,.sl hT rfl (Nat.le_refl _) (zero_le _) (fun j u hj=>by simp[aE]at hj) (fun x hx=>by cases hx)⟩
  case vec q=>split at hs<;>(try split at hs)<;>simp at hs
  case sl q _ _ _=>split at hs<;>(try split at hs)<;>simp at hs
 ·cases h
theorem D3 {row:tB}{k:CK}{x:At}{e:Ex}{fr:eJ} (h:Eu P row k x=some (e,fr)):xe row fr:=by
 unfold Eu at h
 split at h
 ·split at h
  ·split at h
   ·exact akL h
   ·cases h
  ·cases h
 ·obtain⟨y,_,h2⟩:=Option.map_eq_some_iff.1 h
  simp only[Prod.mk.injEq]at h2
  rw[<-h2.2];exact .nil
theorem SQ {row:tB}{k:CK}{x:At}{y:Ex×eJ} (h:Eu P row k x=some y):x.known=true:=by
 cases x<;>try rfl
 all_goals
  unfold Eu at h
  split at h
  ·split at h
   ·split at h
    ·simp[UT,cy]at h
    ·cases h
   ·cases h
  ·cases k<;>simp[aq0]at h
theorem oR (g:aX P B w0 σ c a w){row:tB}{k:CK}{x:At}{e:Ex}{fr:eJ} (h:Eu P row k x=some (e,fr)) (hfz:Fz row σ fr){v:Value} (hv:x.rel c v):
 rv P w (fg B σ c) (.ck k) v (e.ev c.ρ):=by
 unfold Eu at h
 split at h
 ·split at h
  ·rename_i hT
   split at h
   ·exact afj g h hT hfz hv
   ·cases h
  ·cases h
 ·obtain⟨y,h1,h2⟩:=Option.map_eq_some_iff.1 h
  simp only[Prod.mk.injEq]at h2
  obtain⟨rfl,rfl⟩:=h2
  obtain⟨e1,e2⟩:=amH h1 hv
  exact⟨_,rfl,e1,acB e2 _⟩
def Lf:List (CK×Ex)->aP->dm
 |p::ps,d::ds=>p.1.val d::Lf ps ds
 |_,_=>[]
theorem HQ (e:Ex):∀(ks:tE) (ds l:aP),ds.length=ks.length->qH (.l (l++ds)) ks l.length=Lf (yz e ks l.length) ds
 |[],[],l,_=>rfl
 |k::ks,d::ds,l,h=>by
  have ih:=HQ e ks ds (l++[d]) (by simpa using h)
  simp only[qH,yz,Lf,Sc.VY]
  congr 1
  ·simp
  ·simpa using ih
 |[],_::_,_,h=>by simp at h
 |_::_,[],_,h=>by simp at h
theorem sQ (e:Ex):∀(ks:tE) (n:Nat),(yz e ks n).length=ks.length
 |[],_=>rfl
 |k::ks,n=>by simp[yz,sQ e ks]
theorem RG (e:Ex):∀(ks:tE) (n i:Nat) (p:CK×Ex),(yz e ks n)[i]? =some p->ks[i]? =some p.1/\p.2=CB (.cell (n+i)) e
 |k::ks,n,0,p,h=>by simp[yz]at h;subst h;exact⟨rfl,rfl⟩
 |k::ks,n,i+1,p,h=>by
  have:=RG e ks (n+1) i p (by simpa[yz]using h)
  rw[show n+(i+1)=n+1+i by omega]
  exact⟨by simpa using this.1,this.2⟩
 |[],_,_,_,h=>by simp[yz]at h
theorem Uf {row:tB}:∀{ps:List (CK×Ex)}{off:Nat}{xs:qE}{e:Ex}{fr:eJ},Am P row ps off xs=some (e,fr)->xe row fr/\xs.all At.known=true
 |[],0,[],e,fr,h=>by simp[Am]at h;obtain⟨rfl,rfl⟩:=h;exact⟨.nil,rfl⟩
 |[],0,_::_,_,_,h=>by simp[Am]at h
 |[],_+1,_,_,_,h=>by simp[Am]at h
 |(k,e0)::ps,0,[],e,fr,h=>by
  simp only[Am]at h
  split at h
  ·rename_i r f h1;cases h;exact Uf h1
  ·cases h
 |(k,e0)::ps,0,x::xs,e,fr,h=>by
  simp only[Am]at h
  split at h
  ·rename_i e1 f r fs h1 h2
   cases h
   have ih:=Uf h2
   exact⟨(D3 h1).append ih.1,by simp[SQ h1];simpa using ih.2⟩
  ·cases h
 |(k,e0)::ps,n+1,xs,e,fr,h=>by
  simp only[Am]at h
  split at h
  ·rename_i r f h1;cases h;exact Uf h1
  ·cases h
theorem EX (g:aX P B w0 σ c a w){row:tB}:∀{ps:List (CK×Ex)}{off:Nat}{xs:qE}{e:Ex}{fr:eJ},Am P row ps off xs=some (e,fr)->Fz row σ fr->∀{us vs:dm},us.length=ps.length->fp c xs vs->
 (∀i p,ps[i]? =some p->(i<off\/off+xs.length<=i)->∃u,us[i]? =some u/\rv P w (fg B σ c) (.ck p.1) u (p.2.ev c.ρ))->
 ∃ds:aP,ds.length=ps.length/\(e.ev c.ρ).er= .l (mS ds)/\(∀i p,ps[i]? =some p->Fits P w (fg B σ c) p.1 (ds.getD i (.i 0)))/\Lf ps ds=us.take off++vs++us.drop (off+vs.length)/\off+vs.length<=us.length
 |[],0,[],e,fr,h,hf,us,vs,hl,hv,ho=>by
  simp[Am]at h;obtain⟨rfl,rfl⟩:=h
  cases vs with
  |cons=>exact hv.elim
  |nil=>
   have:us=[]:=eq_nil_of_length_eq_zero (by simpa using hl)
   subst this
   exact⟨[],rfl,by simp[Ex.ev,Sc.er],fun i p h=>by simp at h,rfl,by simp⟩
 |[],0,_::_,_,_,h,_,_,_,_,_,_=>by simp[Am]at h
 |[],_+1,_,_,_,h,_,_,_,_,_,_=>by simp[Am]at h
 |(k,e0)::ps,0,[],e,fr,h,hf,us,vs,hl,hv,ho=>by
  simp only[Am]at h
  split at h
  rotate_left
  ·cases h
  rename_i r f h1
  cases h
  match us,hl with
  |u::us,hl=>
   obtain⟨u',hu',d,hd,hdv,hdf⟩:=ho 0 (k,e0) rfl (.inr (zero_le _))
   simp at hu';subst hu'
   cases vs with
   |cons=>exact hv.elim
   |nil=>
    obtain⟨ds,q1,q2,q3,q4,q5⟩:=EX (us:=us) (vs:=[]) g h1 hf (by simpa using hl) trivial (fun i p hp hi=>by
     obtain⟨u2,e1,e2⟩:=ho (i+1) p (by simpa using hp) (.inr (zero_le _))
     exact⟨u2,by simpa using e1,e2⟩)
    refine⟨d::ds,by simp[q1],?_,fun i p hp=> ?_,?_,by simp⟩
    ·have:=iI q2
     simp only[Ex.ev,U2.ev,sk,M9]
     rw[hd,this]
    ·match i,hp with
     |0,hp=>simp at hp;subst hp;exact hdf
     |i+1,hp=>simpa using q3 i p (by simpa using hp)
    ·simp only[Lf,take_zero,nil_append,length_nil,Nat.add_zero,drop_zero]at q4⊢
     rw[q4,<-hdv]
 |(k,e0)::ps,0,x::xs,e,fr,h,hf,us,vs,hl,hv,ho=>by
  simp only[Am]at h
  split at h
  rotate_left
  ·cases h
  rename_i e1 f r fs h1 h2
  cases h
  match us,hl,vs,hv with
  |u::us,hl,v::vs,hv=>
   obtain⟨d,hd,hdv,hdf⟩:=oR g h1 hf.left hv.1
   obtain⟨ds,q1,q2,q3,q4,q5⟩:=EX (us:=us) (vs:=vs) g h2 hf.right (by simpa using hl) hv.2 (fun i p hp hi=>by
    obtain⟨u2,e1,e2⟩:=ho (i+1) p (by simpa using hp) (by simp;omega)
    exact⟨u2,by simpa using e1,e2⟩)
   refine⟨d::ds,by simp[q1],?_,fun i p hp=> ?_,?_,by simp at q5⊢;omega⟩
   ·have:=iI q2
    simp only[Ex.ev,U2.ev,sk,M9]
    rw[hd,this]
   ·match i,hp with
    |0,hp=>simp at hp;subst hp;exact hdf
    |i+1,hp=>simpa using q3 i p (by simpa using hp)
   ·simp only[take_zero,nil_append,Nat.zero_add]at q4
    simp only[Lf,take_zero,nil_append,Nat.zero_add,length_cons,drop_succ_cons,cons_append]
    rw[q4,<-hdv]
 |(k,e0)::ps,n+1,xs,e,fr,h,hf,us,vs,hl,hv,ho=>by
  simp only[Am]at h
  split at h
  rotate_left
  ·cases h
  rename_i r f h1
  cases h
  match us,hl with
  |u::us,hl=>
   obtain⟨u',hu',d,hd,hdv,hdf⟩:=ho 0 (k,e0) rfl (.inl (succ_pos _))
   simp at hu';subst hu'
   obtain⟨ds,q1,q2,q3,q4,q5⟩:=EX (us:=us) (vs:=vs) g h1 hf (by simpa using hl) hv (fun i p hp hi=>by
    obtain⟨u2,e1,e2⟩:=ho (i+1) p (by simpa using hp) (by omega)
    exact⟨u2,by simpa using e1,e2⟩)
   refine⟨d::ds,by simp[q1],?_,fun i p hp=> ?_,?_,by simp;omega⟩
   ·have:=iI q2
    simp only[Ex.ev,U2.ev,sk,M9]
    rw[hd,this]
   ·match i,hp with
    |0,hp=>simp at hp;subst hp;exact hdf
    |i+1,hp=>simpa using q3 i p (by simpa using hp)
   ·simp only[Lf,take_succ_cons,cons_append]
    rw[show n+1+vs.length=(n+vs.length)+1 by omega,drop_succ_cons,q4,<-hdv]
theorem ahS (g:aX P B w0 σ c a w){row:tB}{agg:Bool}{ks:tE}{e0 e:Ex}{xs:qE}{fr:eJ} (h:GI P row agg ks e0 0 xs=some (e,fr)) (hx:xs.length=ks.length) (hf:Fz row σ fr){vs:dm} (hv:fp c xs vs):
 ∃d:Sc,d.er=(e.ev c.ρ).er/\lW P w (fg B σ c) agg ks d/\cY agg ks d=vs:=by
 unfold GI at h
 split at h
 ·have hvl:=vo hv
  obtain⟨ds,q1,q2,q3,q4,q5⟩:=EX (us:=vs) g h hf (by rw[sQ];omega) hv (fun i p hp hi=>by
   have:=(List.getElem?_eq_some_iff.1 hp).1
   rw[sQ]at this
   omega)
  rw[sQ]at q1
  refine⟨.l ds,by rw[sk];exact q2.symm,fun i k hk=> ?_,?_⟩
  ·have fU:=(List.getElem?_eq_some_iff.1 hk).1
   obtain⟨p,hp⟩:∃p,(yz e0 ks 0)[i]? =some p:=⟨_,getElem?_eq_getElem (by rw[sQ];exact fU)⟩
   have h1:=(RG e0 ks 0 i p hp).1
   rw[hk]at h1;cases h1
   exact q3 i p hp
  ·have:=HQ e0 ks ds [] q1
   simp only[nil_append,length_nil]at this
   show qH (.l ds) ks 0=vs
   rw[this,q4]
   simp
 ·split at h
  ·rename_i k x
   match vs,hv with
   |[v],hv=>
    obtain⟨d,hd,hdv,hdf⟩:=oR g h hf hv.1
    refine⟨d,hd,fun i k' hk=> ?_,by simp[cY,hdv]⟩
    match i,hk with
    |0,hk=>simp at hk;subst hk;exact hdf
  ·cases h
theorem OB {row:tB}{agg:Bool}{ks:tE}{e0 e:Ex}{off:Nat}{xs:qE}{fr:eJ} (h:GI P row agg ks e0 off xs=some (e,fr)):xe row fr/\xs.all At.known=true:=by
 unfold GI at h
 split at h
 ·exact Uf h
 ·split at h
  ·exact⟨D3 h,by simp[SQ h]⟩
  ·cases h
theorem WX (g:aX P B w0 σ c a w){row:tB}{agg:Bool}{ks:tE}{e0 e:Ex}{off:Nat}{xs:qE}{fr:eJ} (h:GI P row agg ks e0 off xs=some (e,fr)) (hf:Fz row σ fr){vs:dm} (hv:fp c xs vs)
 {d0:Sc} (h0:d0.er=(e0.ev c.ρ).er) (vX:lW P w (fg B σ c) agg ks d0):
 ∃d:Sc,d.er=(e.ev c.ρ).er/\lW P w (fg B σ c) agg ks d/\cY agg ks d=(cY agg ks d0).take off++vs++(cY agg ks d0).drop (off+vs.length)/\off+vs.length<=(cY agg ks d0).length:=by
 unfold GI at h
 split at h
 ·have X5:mS d0.list=mS (e0.ev c.ρ).list:=by
   have:=congrArg Sc.list h0
   rw[S6,S6]at this
   exact this
  have hold:=RH (ρ:=c.ρ) X5 ks 0 (fun i k hk=>by simpa[WU]using vX i k hk)
  obtain⟨ds,q1,q2,q3,q4,q5⟩:=EX (us:=qH d0 ks 0) g h hf (by rw[sQ,GH]) hv (fun i p hp hi=>by
   obtain⟨u,e1,e2⟩:=QY hold (n:=i) (p:=(AS.ck p.1,p.2)) (by rw[getElem?_map,hp];rfl)
   exact⟨u,e1,e2⟩)
  rw[sQ]at q1
  refine⟨.l ds,by rw[sk];exact q2.symm,fun i k hk=> ?_,?_,q5⟩
  ·have fU:=(List.getElem?_eq_some_iff.1 hk).1
   obtain⟨p,hp⟩:∃p,(yz e0 ks 0)[i]? =some p:=⟨_,getElem?_eq_getElem (by rw[sQ];exact fU)⟩
   have h1:=(RG e0 ks 0 i p hp).1
   rw[hk]at h1;cases h1
   exact q3 i p hp
  ·have:=HQ e0 ks ds [] q1
   simp only[nil_append,length_nil]at this
   show qH (.l ds) ks 0=_
   rw[this,q4];rfl
 ·split at h
  ·rename_i k x
   match vs,hv with
   |[v],hv=>
    obtain⟨d,hd,hdv,hdf⟩:=oR g h hf hv.1
    refine⟨d,hd,fun i k' hk=> ?_,by simp[cY,hdv],by simp[cY]⟩
    match i,hk with
    |0,hk=>simp at hk;subst hk;exact hdf
  ·cases h
theorem Zv {row:tB}{agg:Bool}{ks:tE}:∀{parts:List (Nat×SV)}{n:Nat}{e:Ex}{fr:eJ},F7 P row agg ks n parts=some (e,fr)->xe row fr
 |[],n,e,fr,h=>by simp[F7]at h;obtain⟨rfl,rfl⟩:=h;exact .nil
 |(i,x)::parts,n,e,fr,h=>by
  unfold F7 at h
  split at h
  ·split at h
   ·split at h
    ·split at h
     ·rename_i h1 h2;cases h;exact(OB h1).1.append (Zv h2)
     ·cases h
    ·cases h
   ·cases h
  ·cases h
theorem Zw (g:aX P B w0 σ c a w){row:tB}{agg:Bool}{ks:tE} (dI:AJ agg ks):∀(parts:List (Nat×SV)) (tA:List (Nat×Value)) (n:Nat) (e:Ex) (fr:eJ) (vs:dm),F7 P row agg ks n parts=some (e,fr)->Fz row σ fr->parts.length=tA.length->
 (∀i (h1:i<parts.length) (h2:i<tA.length),(parts[i]).1=(tA[i]).1/\(parts[i]).2.rel c (tA[i]).2)->vs.length=(n+parts.length)*ks.length->
 ∃D:aP,(e.ev c.ρ).er= .l (mS D)/\D.length=parts.length/\(∀x∈D,lW P w (fg B σ c) agg ks x)/\Instr.fill (fun i=>some (i*ks.length,ks.length)) vs.toArray tA=some (vs.take (n*ks.length)++aE agg ks D).toArray
 |[],[],n,e,fr,vs,h,_,_,_,hl=>by
  simp[F7]at h;obtain⟨rfl,rfl⟩:=h
  refine⟨[],by simp[Ex.ev,Sc.er],rfl,(fun x hx=>by cases hx),?_⟩
  simp only[Instr.fill,aE,flatMap_nil,append_nil]
  rw[take_of_length_le (by simp at hl;omega)]
 |[],_::_,_,_,_,_,_,_,hl,_,_=>by simp at hl
 |_::_,[],_,_,_,_,_,_,hl,_,_=>by simp at hl
 |(i,x)::parts,(i',v)::tA,n,e,fr,vs,h,hf,hl,hp,hlen=>by
  have h0:=hp 0 (by simp) (by simp)
  simp only[getElem_cons_zero]at h0
  obtain⟨rfl,hx⟩:=h0
  unfold F7 at h
  split at h
  rotate_left
  ·cases h
  rename_i hi
  subst hi
  split at h
  rotate_left
  ·cases h
  rename_i xs TH
  split at h
  rotate_left
  ·cases h
  rename_i hxl
  split at h
  rotate_left
  ·cases h
  rename_i e1 f1 e2 f2 h1 h2
  cases h
  obtain⟨us,hus,hur⟩:=yP TH (OB h1).2 hx
  obtain⟨d,hd,hdf,hdc⟩:=ahS g h1 hxl hf.left hur
  have Mn:=eC dI d
  simp only[length_cons]at hlen
  have vX:i*ks.length+(cY agg ks d).length<=vs.length:=by
   rw[Mn,hlen,Nat.add_mul,Nat.add_mul];omega
  have h6:=akq (i*ks.length) (cY agg ks d) vs vX _ rfl
  obtain⟨D,q1,q2,q3,q4⟩:=Zw g dI parts tA (i+1) e2 f2 (vs.take (i*ks.length)++cY agg ks d++vs.drop (i*ks.length+(cY agg ks d).length)) h2 hf.right (by simpa using hl) (fun j q1 q2=>by
   have:=hp (j+1) (by simp;omega) (by simp;omega)
   simpa using this) (by
    simp only[length_append,length_take,length_drop]
    rw[Nat.min_eq_left (by omega)]
    rw[show i+1+parts.length=i+(parts.length+1)by omega,<-hlen];omega)
  refine⟨d::D,?_,by simp[q2],fun y hy=>(mem_cons.1 hy).elim (fun h=>h▸hdf) (q3 y),?_⟩
  ·have:=iI q1
   simp only[Ex.ev,U2.ev,sk,M9]
   rw[hd,this]
  unfold Instr.fill
  simp only[hus,<-hdc,size_toArray,Mn]
  rw[if_neg (by simp;rw[Mn]at vX;omega),h6,q4]
  congr 2
  rw[take_append_of_le_length (by simp;rw[Mn,Nat.min_eq_left (by omega),Nat.add_mul];omega)]
  rw[take_of_length_le (by simp;rw[Mn,Nat.min_eq_left (by omega),Nat.add_mul];omega)]
  simp[aE]
end
open Go.RowKit
section
variable {P:Program}{B:mC}{w0:World}{σ:St}{c:Ct}{a:Act}{w:World}{o:Oper}{rd:Rd}{pl:uE}
theorem ahj {ty:TypeId}{z:Value} (h:wi P ty=some z) (w:World):(zeroValue ty).run P w= .ok z w:=by
 unfold wi at h
 obtain⟨i,h1,h2⟩:=Option.bind_eq_some_iff.1 h
 simp[zeroValue,typeInfo,h1,h2]
theorem amQ (g:aX P B w0 σ c a w) (gY:MV σ c a rd){ty:TypeId}{parts:Array (Nat×Operand)} (ho:o.op= .build ty parts){r:il} (h:po P pl o rd=some r):eQ P B w0 σ c a w o r:=by
 unfold po at h
 simp only[ho]at h
 have an8:∀(place:Nat->Option (Nat×Nat)) (zs cs:qE) (z:Value) (us:dm),W0 place zs (parts.toList.map fun(i,x)=>(i,rd.ev x))=some cs->fp c zs us->
  ∃vs',Instr.fill place us.toArray (parts.map fun(i,x)=>(i,a.eval x)).toList=some vs'.toArray/\fp c cs vs':=fun place zs cs z us h1 h2=>by
  refine U9 h1 h2 (vo h2).symm (by simp) (fun i q1 q2=> ?_)
  simp only[length_map,Array.length_toList]at q1
  simp only[getElem_map,Array.toList_map]
  exact⟨trivial,gY.ev _⟩
 split at h
 ·rename_i z fs hz hu
  split at h
  ·rename_i zs places hzs hp
   split at h
   ·rename_i hk
    simp only[Option.map_eq_some_iff]at h
    obtain⟨cs,hf,rfl⟩:=h
    obtain⟨sv,h1,h2⟩:=Option.bind_eq_some_iff.1 hzs
    obtain⟨us,hu2,hr⟩:=yP h2 hk (Up (c:=c) h1)
    obtain⟨vs',e1,e2⟩:=an8 _ zs cs z us hf hr
    have hb:P.built ty (parts.map fun(i,x)=>(i,a.eval x)).toList=some vs'.toArray:=by
     unfold wi at hz
     obtain⟨i,hi1,hi2⟩:=Option.bind_eq_some_iff.1 hz
     simp only[Program.built,hi1,hu,hi2,hp,hu2]
     exact e1
    exact eQ.quiet g (v:= .agg vs'.toArray) (by simp[execOp,ho,run_build w ty _ _ hb]) ⟨vs',rfl,e2⟩
   ·cases h
  ·cases h
 ·rename_i z n el hz hu
  split at h
  ·rename_i zs ie hzs hie
   split at h
   ·rename_i hk
    simp only[Option.map_eq_some_iff]at h
    obtain⟨cs,hf,rfl⟩:=h
    obtain⟨sv,h1,h2⟩:=Option.bind_eq_some_iff.1 hzs
    obtain⟨us,hu2,hr⟩:=yP h2 hk (Up (c:=c) h1)
    obtain⟨vs',e1,e2⟩:=an8 _ zs cs z us hf hr
    have hb:P.built ty (parts.map fun(i,x)=>(i,a.eval x)).toList=some vs'.toArray:=by
     unfold wi at hz
     obtain⟨i,hi1,hi2⟩:=Option.bind_eq_some_iff.1 hz
     simp only[Program.built,hi1,hu,hi2,hie,hu2]
     exact e1
    exact eQ.quiet g (v:= .agg vs'.toArray) (by simp[execOp,ho,run_build w ty _ _ hb]) ⟨vs',rfl,e2⟩
   ·cases h
  ·cases h
 ·cases h
theorem AA (g:aX P B w0 σ c a w){row:tB} (pc:∀p k,row p=some k->σ.row p=some k){fr:eJ} (h:xe row fr):
 aX P B w0 {σ with rows:=aH σ.rows fr} c a w/\Fz row {σ with rows:=aH σ.rows fr} fr:=by
 have aDq:∀q z,(q,z)∈fr->∃k,σ.row q=some k/\k.hole=none/\z=some {k with own:=false}:=fun q z hz=>by
  obtain⟨k,hk,e⟩:=h q z hz
  exact⟨k,pc _ _ hk,e⟩
 obtain⟨g1,ur⟩:=aX.Yt g aDq
 refine⟨g1,fun q k hk hor=> ?_⟩
 rw[ur q k (pc _ _ hk)]
 by_cases hq:q∈fr.map (·.1)
 ·rw[if_pos hq]
 ·rw[if_neg hq]
  rcases hor with ho'|hm
  ·congr 1;cases k;simp at ho';subst ho';rfl
  ·exact absurd (mem_map_of_mem (f:=(·.1)) hm) hq
theorem KQ (l:List (Option Rw)) (r:eJ) (i:Nat) (v:Option Rw):aH l (r++[(i,v)])=dH none (aH l r) i v:=by rw[eI];rfl
theorem abo (g:aX P B w0 σ c a w) (gY:MV σ c a rd){ty:TypeId}{len:Nat}{parts:Array (Nat×Operand)} (ho:o.op= .buildSlice ty len parts){r:il} (hfb:∀i∈r.nb,c.β i=none) (ur:∀i∈r.nr,c.R i=none) (h:po P pl o rd=some r):eQ P B w0 σ c a w o r:=by
 unfold po at h
 simp only[ho]at h
 split at h
 rotate_left
 ·cases h
 rename_i el hu
 split at h
 rotate_left
 ·
  rename_i hrt hn
  split at h
  rotate_left
  ·cases h
  rename_i jV
  obtain⟨hps,av6,jW,hzi⟩:=jV
  split at h
  rotate_left
  ·cases h
  rename_i cs hf
  split at h
  rotate_left
  ·cases h
  cases h
  have hfb:=hfb rd.nb (by simp)
  obtain⟨z,hz⟩:=Option.isSome_iff_exists.1 hzi
  unfold wi at hz
  unfold ni at hn
  obtain⟨i,hi,ME⟩:=Option.map_eq_some_iff.1 hn
  rw[hi]at hz
  have hz:i.zero=some z:=hz
  have ajX:∀vs:dm,fp c (replicate vs.length .top) vs:=fun vs=>by
   induction vs with
   |nil=>trivial
   |cons v vs ih=>exact⟨trivial,ih⟩
  have hul:((Array.range (len*i.size)).map (z.cells[·%z.cells.size]!)).toList.length=len:=by rw[Array.length_toList,Array.size_map,Array.size_range,ME,Nat.mul_one]
  obtain⟨vs',e1,e2⟩:=U9 (tA:=(parts.map fun(i,x)=>(i,a.eval x)).toList) (vs:=((Array.range (len*i.size)).map (z.cells[·%z.cells.size]!)).toList) hf (by have:=ajX ((Array.range (len*i.size)).map (z.cells[·%z.cells.size]!)).toList;rw[hul]at this;exact this) (by rw[hul,length_replicate]) (by simp) (fun i q1 q2=>by
   simp only[length_map,Array.length_toList]at q1
   simp only[getElem_map,Array.toList_map]
   exact⟨trivial,gY.ev _⟩)
  rw[Array.toArray_toList]at e1
  have jX:(Instr.buildSlice ty len (parts.map fun(i,x)=>(i,a.eval x))).run P w= .ok (.slice (some ⟨w.heap.size,0,none⟩) len len) (w.alloc (.cells vs'.toArray el)):=
   run_buildSlice w ty el len _ _ i z hu hi hz (by rw[ME];omega) (by rw[ME];omega) (by
    have e:(fun j=>some (j*i.size,i.size))=(fun j:Nat=>some (j*1,1)):=by rw[ME]
    rw[e];exact e1)
  have hle:c.le {c with β:=fun i=>if i=rd.nb then some w.heap.size else c.β i}:=⟨rfl,rfl,fun i n e=>by
   by_cases h:i=rd.nb
   ·subst h;rw[hfb]at e;cases e
   ·simp[h,e],fun _ _ e=>e⟩
  exact⟨_,_,.slice (some ⟨w.heap.size,0,none⟩) len len,_,by simp[execOp,ho,jX,wX],.inl rfl,hle,fun i hi=>by simp at hi;simp[hi],fun _ _=>rfl,⟨_,len,by simp,rfl⟩,g.alloc hfb (k:=⟨cs,el,0⟩) e2⟩
 ·cases h
 rename_i agg ks n hrt hn
 split at h
 rotate_left
 ·cases h
 rename_i jV
 obtain⟨hnk,hps,av6,EJ⟩:=jV
 obtain⟨dI,jW⟩:=jp EJ
 split at h
 rotate_left
 ·cases h
 rename_i e fr he
 cases h
 have ur:=ur rd.nr (by simp)
 obtain⟨g1,hfz⟩:=AA g gY.row (Zv he)
 unfold ni at hn
 obtain⟨i,hi,ME⟩:=Option.map_eq_some_iff.1 hn
 obtain⟨z,hz,hzs⟩:=RL hrt hi
 have hi2:i.size=ks.length:=by rw[ME,hnk]
 have hzero:∃us:dm,(Array.range (len*i.size)).map (z.cells[·%z.cells.size]!)=us.toArray/\us.length=len*ks.length:=⟨((Array.range (len*i.size)).map (z.cells[·%z.cells.size]!)).toList,by rw[Array.toArray_toList],by rw[Array.length_toList,Array.size_map,Array.size_range,hi2]⟩
 obtain⟨us,hus,hul⟩:=hzero
 obtain⟨D,f0,f2,f3,f1⟩:=Zw g1 dI (parts.toList.map fun(i,x)=>(i,rd.ev x)) ((parts.map fun(i,x)=>(i,a.eval x)).toList) 0 e fr us he hfz (by simp) (fun j q1 q2=>by
  simp only[getElem_map,Array.toList_map]
  exact⟨trivial,gY.ev _⟩) (by simp[hps,hul])
 simp only[Nat.zero_mul,take_zero,nil_append,length_map,Array.length_toList,hps]at f1 f2
 have EI:=bS dI D
 rw[f2]at EI
 have jX:(Instr.buildSlice ty len (parts.map fun(i,x)=>(i,a.eval x))).run P w= .ok (.slice (some ⟨w.heap.size,0,none⟩) len len) (w.alloc (.cells (aE agg ks D).toArray el)):=by
  by_cases h0:len*i.size=0
  ·have X5:len=0:=by
    rcases mul_eq_zero.1 h0 with h|h
    ·exact h
    ·omega
   subst X5
   obtain rfl:parts= #[]:=Array.eq_empty_of_size_eq_zero hps
   have aen:aE agg ks D=[]:=eq_nil_of_length_eq_zero (by rw[EI];simp)
   rw[aen]
   have Af:∀f:Nat->Value,Array.map f (Array.range 0)= #[]:=fun f=>by apply Array.eq_empty_of_size_eq_zero;rw[Array.size_map,Array.size_range]
   simp[Instr.buildSlice,run_underlying hu,sizeOf,typeInfo,hi,newRow,Instr.fill,Af]
  ·exact run_buildSlice w ty el len _ _ i z hu hi hz (by rw[hi2,<-hnk];omega) h0 (by rw[hus,hi2];exact f1)
 have OG:len<=maxLen:=by
  have:len*1<=len*n:=mul_le_mul_left _ (by omega)
  simp only[maxLen];omega
 have gg:=g1.newRow (w':=w.alloc (.cells (aE agg ks D).toArray el)) (g1.below.alloc g1.hB _) (by simp) (fun m hm=>Below.heap_alloc w _ m hm) ur (k:=⟨el,ks,agg,e,true,none⟩) rfl (D:=D) (ad:=some ⟨w.heap.size,0,none⟩) (n:=len) (cap:=len)
  f0 f2 (Nat.le_refl _) OG
  (fun _=> .inr ⟨⟨EI,.inr ⟨_,len,_,rfl,zero_le _,heap_alloc_new w _,Nat.le_refl _,OG,by simpa using EI,by simp only;rw[take_of_length_le (by rw[EI];exact Nat.le_refl _)]⟩⟩,fun p hp=>by have:=sP hp;simp[Value.ownBlock]at this;omega⟩) (fun h=>by cases h) f3
 rw[<-KQ]at gg
 refine⟨_,_,.slice (some ⟨w.heap.size,0,none⟩) len len,{c with R:=fun i=>if i=rd.nr then some (.slice (some ⟨w.heap.size,0,none⟩) len len)else c.R i},by simp[execOp,ho,jX],.inl rfl,?_,fun _ _=>rfl,fun i hi=>by simp at hi;simp[hi],⟨by simp,_,_,_,rfl⟩,gg⟩
 exact⟨rfl,rfl,fun _ _ e=>e,fun i u e=>by
  by_cases h:i=rd.nr
  ·subst h;rw[ur]at e;cases e
  ·simp[h,e]⟩
theorem ahi {z:Value}{k:CK}{x:Ex} (h:aa7 z=some (k,x)) (ρ:aP):z.cells= #[k.val (x.ev ρ)]:=by
 unfold aa7 at h
 split at h
 ·split at h
  ·rename_i hn;cases h;subst hn;rfl
  ·cases h
 ·split at h
  ·rename_i hb;cases h;subst hb;rfl
  ·cases h
 ·cases h
theorem ahh {z:Value}{k:CK}{x:Ex} (h:aa7 z=some (k,x)):∀el,k≠.sl el:=by
 unfold aa7 at h
 split at h
 ·split at h
  ·cases h;exact fun _ h=>by cases h
  ·cases h
 ·split at h
  ·cases h;exact fun _ h=>by cases h
  ·cases h
 ·cases h
theorem ZK (k:CK) (x:Sc):∀n:Nat,aE false [k] (replicate n x)=replicate n (k.val x)
 |0=>rfl
 |n+1=>by
  rw[replicate_succ,replicate_succ,<-ZK k x n];rfl
theorem aoR (v:Value) (n:Nat):(madeCells #[v] n).toList=replicate n v:=by
 refine ext_getElem (by simp[size_madeCells]) fun i h1 h2=> ?_
 rw[getElem_replicate]
 simp[madeCells,mod_one]
theorem aeC (g:aX P B w0 σ c a w) (gY:MV σ c a rd){ty:TypeId}{x y:Operand} (ho:o.op= .makeSlice ty x y){r:il} (ur:∀i∈r.nr,c.R i=none) (h:po P pl o rd=some r) (hn:∀e∈r.lN,(e.ev c.ρ).bool=true):eQ P B w0 σ c a w o r:=by
 unfold po at h
 simp only[ho]at h
 split at h
 rotate_left
 ·cases h
 rename_i el k1 e k2 f hu hx hy
 split at h
 rotate_left
 ·
  rename_i i hi hz
  split at h
  rotate_left
  ·cases h
  rename_i agg ks hrt
  split at h
  rotate_left
  ·cases h
  rename_i jV
  obtain⟨kZ,EJ,aC1⟩:=jV
  cases h
  have ur:=ur rd.nr (by simp)
  have vx:=gY.ev x
  have vy:=gY.ev y
  rw[hx]at vx
  rw[hy]at vy
  have vx:a.eval x= .int k1 0:=vx
  have vy:a.eval y= .int k2 (f.ev c.ρ).int:=vy
  have n2:=hn (iV .le (.i 0) f) (by simp)
  have n3:=hn (iV .le f (.i 16777216)) (by simp)
  rw[bP]at n2 n3
  have n2:(0:Int)<=(f.ev c.ρ).int:=of_decide_eq_true n2
  have n3:(f.ev c.ρ).int<=16777216:=of_decide_eq_true n3
  obtain⟨z,hz1,hzs⟩:=RL hrt hi
  have jQ:(i.bytes:Int)*(f.ev c.ρ).int<=281474976710656:=by
   have:(i.bytes:Int)*(f.ev c.ρ).int<=4096*16777216:=Int.mul_le_mul (by omega) n3 (by omega) (by omega)
   omega
  have jX:=run_make (P:=P) w ty el i z hu hi hz1 k1 k2 0 (f.ev c.ρ).int (by omega) n2 jQ (by omega)
  generalize hC:(f.ev c.ρ).int.toNat=cap at*
  have OG:cap<=maxLen:=by simp only[maxLen];omega
  simp only[toNat_zero]at jX
  have gg:=g.newRow (w':=w.alloc (.cells (madeCells z.cells (cap*i.size)) el)) (g.below.alloc g.hB _) (by simp) (fun m hm=>Below.heap_alloc w _ m hm) ur (k:=⟨el,ks,agg,.nil,true,none⟩) rfl (D:=[]) (ad:=some ⟨w.heap.size,0,none⟩) (n:=0) (cap:=cap)
   (by simp[Ex.ev,Sc.er]) rfl (zero_le _) OG
   (fun _=> .inr ⟨⟨by simp[aE],.inr ⟨_,cap,_,rfl,zero_le _,heap_alloc_new w _,zero_le _,OG,by simp[size_madeCells,kZ],by simp[aE]⟩⟩,fun p hp=>by have:=sP hp;simp[Value.ownBlock]at this;omega⟩) (fun h=>by cases h) (fun x hx=>by cases hx)
  refine⟨_,_,.slice (some ⟨w.heap.size,0,none⟩) 0 cap,{c with R:=fun i=>if i=rd.nr then some (.slice (some ⟨w.heap.size,0,none⟩) 0 cap)else c.R i},by simp[execOp,ho,vx,vy,jX],.inl rfl,?_,fun _ _=>rfl,fun i hi=>by simp at hi;simp[hi],⟨by simp,_,_,_,rfl⟩,gg⟩
  exact⟨rfl,rfl,fun _ _ e=>e,fun i u e=>by
   by_cases h:i=rd.nr
   ·subst h;rw[ur]at e;cases e
   ·simp[h,e]⟩
 ·cases h
 rename_i i k z hi hz
 have vx:=gY.ev x
 have vy:=gY.ev y
 rw[hx]at vx
 rw[hy]at vy
 have vx:a.eval x= .int k1 (e.ev c.ρ).int:=vx
 have vy:a.eval y= .int k2 (f.ev c.ρ).int:=vy
 split at h
 rotate_left
 ·cases h
 rename_i jV
 obtain⟨hs1,aC1⟩:=jV
 cases h
 have ur:=ur rd.nr (by simp)
 have n1:=hn (iV .le (.i 0) e) (by simp)
 have n2:=hn (iV .le e f) (by simp)
 have n3:=hn (iV .le f (.i 16777216)) (by simp)
 rw[bP]at n1 n2 n3
 have n1:(0:Int)<=(e.ev c.ρ).int:=of_decide_eq_true n1
 have n2:(e.ev c.ρ).int<=(f.ev c.ρ).int:=of_decide_eq_true n2
 have n3:(f.ev c.ρ).int<=16777216:=of_decide_eq_true n3
 obtain⟨zv,hz1,hz2⟩:=Option.bind_eq_some_iff.1 hz
 have hz1:i.zero=some zv:=by
  unfold wi at hz1
  rw[hi]at hz1;exact hz1
 have VO:=ahi hz2 c.ρ
 have jQ:(i.bytes:Int)*(f.ev c.ρ).int<=281474976710656:=by
  have:(i.bytes:Int)*(f.ev c.ρ).int<=16*16777216:=Int.mul_le_mul (by omega) n3 (by omega) (by omega)
  omega
 have jX:=run_make (P:=P) w ty el i zv hu hi hz1 k1 k2 (e.ev c.ρ).int (f.ev c.ρ).int n1 n2 jQ (by omega)
 rw[hs1,Nat.mul_one,VO]at jX
 generalize hL:(e.ev c.ρ).int.toNat=len at*
 generalize hC:(f.ev c.ρ).int.toNat=cap at*
 have hlc:len<=cap:=by omega
 have OG:cap<=maxLen:=by simp only[maxLen];omega
 have Ae:((Ex.o .rep z e).ev c.ρ).list=replicate len (z.ev c.ρ):=by
  show replicate (e.ev c.ρ).int.toNat (z.ev c.ρ)=_
  rw[hL]
 have gg:=g.newRow (w':=w.alloc (.cells (madeCells #[k.val (z.ev c.ρ)] cap) el)) (g.below.alloc g.hB _) (by simp) (fun m hm=>Below.heap_alloc w _ m hm) ur (k:=⟨el,[k],false,.o .rep z e,true,none⟩) rfl (D:=replicate len (z.ev c.ρ)) (ad:=some ⟨w.heap.size,0,none⟩) (n:=len) (cap:=cap)
  (by simp only;rw[<-Ae];exact W9 _) (by rw[length_replicate]) hlc OG
  (fun _=> .inr ⟨⟨by simp only;rw[ZK,length_replicate];simp,.inr ⟨_,cap,_,rfl,zero_le _,heap_alloc_new w _,hlc,OG,by simp[size_madeCells],by
    simp only;rw[ZK,aoR,take_replicate];simp;omega⟩⟩,fun p hp=>by have:=sP hp;simp[Value.ownBlock]at this;omega⟩) (fun h=>by cases h) (fun x _=>afT _ (ahh hz2) x)
 refine⟨_,_,.slice (some ⟨w.heap.size,0,none⟩) len cap,{c with R:=fun i=>if i=rd.nr then some (.slice (some ⟨w.heap.size,0,none⟩) len cap)else c.R i},by simp[execOp,ho,vx,vy,jX],.inl rfl,?_,fun _ _=>rfl,fun i hi=>by simp at hi;simp[hi],⟨by simp,_,_,_,rfl⟩,gg⟩
 exact⟨rfl,rfl,fun _ _ e=>e,fun i u e=>by
  by_cases h:i=rd.nr
  ·subst h;rw[ur]at e;cases e
  ·simp[h,e]⟩
end
end
section
open Go.RowKit
section
variable {P:Program}{w:World}
theorem Zh {x y:ByteArray}:(x.toList==y.toList)=true↔x=y:=by
 rw[beq_iff_eq]
 constructor
 ·intro h
  have:x.data.toList=y.data.toList:=by simpa[ByteArray.toList_eq]using h
  cases x;cases y
  simp at this
  rw[this]
 ·intro h;rw[h]
theorem H8 {a b:ByteArray}:(a==b)=true↔a=b:=MapKept.bytes_beq a b
theorem agh (a b:ByteArray):(a.toList==b.toList)=(a==b):=by
 rw[Bool.eq_iff_iff,Zh,H8]
theorem ahJ (a b:ByteArray):(a==b)=(b==a):=by
 rw[Bool.eq_iff_iff,H8,H8];exact eq_comm
theorem TM {n:Nat} (hn:n=0\/n=2) (x y:Sc):iG n x y=true↔jH n x=jH n y:=by
 rcases hn with rfl|rfl
 ·unfold iG jH
  rw[if_pos rfl,if_pos rfl,if_pos rfl,Zh]
  constructor
  ·intro h;rw[h]
  ·intro h;exact(Value.string.inj h)
 ·unfold iG jH
  rw[if_neg (by omega),if_neg (by omega),if_neg (by omega)]
  have hr:range 2=[0,1]:=rfl
  simp only[hr,all_cons,all_nil,Bool.and_true,Bool.and_eq_true,Zh,map_cons,map_nil]
  constructor
  ·rintro⟨h1,h2⟩;rw[h1,h2]
  ·intro h
   simp at h
   exact h
theorem S1:∀(vs:dm) (j q:Nat) (v:Value),vs[q]? =some v->(oi j vs)[q]? =some ⟨v,.bool true,j+q⟩
 |[],_,_,_,h=>by simp at h
 |x::vs,j,0,v,h=>by simp at h;subst h;rfl
 |x::vs,j,q+1,v,h=>by
  simp only[oi,getElem?_cons_succ]at h⊢
  rw[S1 vs (j+1) q v h,show j+1+q=j+(q+1)by omega]
theorem Qk:∀(vs:dm) (j:Nat) (v:Value),oi j (vs++[v])=oi j vs++[⟨v,.bool true,j+vs.length⟩]
 |[],_,_=>rfl
 |x::vs,j,v=>by simp[oi,Qk vs,Nat.add_comm,Nat.add_left_comm]
structure YQ (P:Program) (key:TypeId) (n:Nat):Prop where
 hn:n=0\/n=2
 hs:n=0->P.underlying key=some .string
 ha:n=2->∃el,P.underlying key=some (.array 2 el)/\P.underlying el=some .string/\ni P el=some 1
theorem aoE {key:TypeId}{n:Nat} (h:aoD P key=some n):YQ P key n:=by
 unfold aoD at h
 split at h
 ·rename_i hu
  cases h
  exact⟨.inl rfl,fun _=>hu,fun h=>by cases h⟩
 ·rename_i m el hu
  split at h
  ·rename_i h1 h2
   split at h
   ·rename_i hm
    have hm:=eq_of_beq_eq_true hm
    subst hm
    cases h
    exact⟨.inr rfl,fun h=>(by cases h),fun _=>⟨el,hu,h1,h2⟩⟩
   ·cases h
  ·cases h
 ·cases h
theorem agp {ty:TypeId}{n:Nat}{key:TypeId} (h:ago P ty=some (n,key)):∃elem,P.underlying ty=some (.map key elem)/\YQ P key n/\wi P elem=some (.bool false):=by
 unfold ago at h
 split at h
 ·rename_i k elem hu
  split at h
  ·rename_i m h1 h2 h3
   cases h
   exact⟨elem,hu,aoE h2,h3⟩
  ·cases h
 ·cases h
theorem Ub {el:TypeId} (hu:P.underlying el=some .string) (hs:ni P el=some 1) (cs:Array Value) (i:Nat) (v:Value) (hv:cs[i]? =some v):(part el cs (i*1)).run P w= .ok v w:=by
 have ha:EK P el=some false:=by unfold EK;rw[hu]
 simp[part,sU ha,hv]
theorem acW {key:TypeId}{n:Nat} (hk:YQ P key n) (em:Bool) (y:Sc):(Instr.checkKey em 10000 key (jH n y)).run P w= .ok () w:=by
 rcases hk.hn with rfl|rfl
 ·exact MapKept.run_checkKey (d:= .string) (hk.hs rfl) (by unfold jH;rw[if_pos rfl];trivial) em 9999
 ·obtain⟨el,h1,h2,h3⟩:=hk.ha rfl
  have hr:jH 2 y= .agg #[.string (y.list.getD 0 (.i 0)).str,.string (y.list.getD 1 (.i 0)).str]:=by unfold jH;rw[if_neg (by omega)];rfl
  rw[hr]
  have c0:∀s:ByteArray,(Instr.checkKey em 9999 el (.string s)).run P w= .ok () w:=fun s=>MapKept.run_checkKey (d:= .string) (k:= .string s) h2 trivial em 9998
  have p0:=Ub (w:=w) h2 h3 #[.string (y.list.getD 0 (.i 0)).str,.string (y.list.getD 1 (.i 0)).str] 0 (.string (y.list.getD 0 (.i 0)).str) rfl
  have p1:=Ub (w:=w) h2 h3 #[.string (y.list.getD 0 (.i 0)).str,.string (y.list.getD 1 (.i 0)).str] 1 (.string (y.list.getD 1 (.i 0)).str) rfl
  have kZ:=dQ (w:=w) h3
  generalize(y.list.getD 0 (.i 0)).str=s0 at*
  generalize(y.list.getD 1 (.i 0)).str=s1 at*
  rw[show(10000:Nat)=9999+1 from rfl,Instr.checkKey]
  simp only[Nat.zero_mul,Nat.one_mul]at p0 p1
  simp[run_underlying h1,Std.Legacy.Range.forIn_eq_forIn_range',range',kZ,p0,p1,c0]
theorem aiP {key el:TypeId} (h1:P.underlying key=some (.array 2 el)) (h2:P.underlying el=some .string) (h3:ni P el=some 1) (x y:Sc):(Op.equal key (jH 2 x) (jH 2 y)).run P w= .ok (iG 2 x y) w:=by
 have hr:∀y,jH 2 y= .agg #[.string (y.list.getD 0 (.i 0)).str,.string (y.list.getD 1 (.i 0)).str]:=fun y=>by unfold jH;rw[if_neg (by omega)];rfl
 have he:iG 2 x y=(((x.list.getD 0 (.i 0)).str==(y.list.getD 0 (.i 0)).str)&&((x.list.getD 1 (.i 0)).str==(y.list.getD 1 (.i 0)).str)):=by
  unfold iG
  rw[if_neg (by omega)]
  have hr:range 2=[0,1]:=rfl
  simp only[hr,all_cons,all_nil,Bool.and_true,agh]
 rw[hr,hr,he]
 have p:∀(a b:ByteArray),(part el #[.string a,.string b] 0).run P w= .ok (.string a) w/\(part el #[.string a,.string b] 1).run P w= .ok (.string b) w:=fun a b=>⟨by simpa using Ub (w:=w) h2 h3 #[.string a,.string b] 0 (.string a) rfl,by simpa using Ub (w:=w) h2 h3 #[.string a,.string b] 1 (.string b) rfl⟩
 have kZ:=dQ (w:=w) h3
 have e0:∀a b:ByteArray,(Op.equalIn 9999 el (.string a) (.string b)).run P w= .ok (a==b) w:=fun a b=>by
  rw[show(9999:Nat)=9998+1 from rfl,Op.equalIn]
  simp[run_underlying h2]
 generalize(x.list.getD 0 (.i 0)).str=s0
 generalize(x.list.getD 1 (.i 0)).str=s1
 generalize(y.list.getD 0 (.i 0)).str=t0
 generalize(y.list.getD 1 (.i 0)).str=t1
 unfold Op.equal Op.maxDepth
 rw[show(10000:Nat)=9999+1 from rfl,Op.equalIn]
 cases hA:(s0==t0)
 ·simp[run_underlying h1,Std.Legacy.Range.forIn_eq_forIn_range',range',kZ,(p s0 s1).1,(p t0 t1).1,e0,hA]
 ·cases hB:(s1==t1)<;>simp[run_underlying h1,Std.Legacy.Range.forIn_eq_forIn_range',range',kZ,(p s0 s1).1,(p t0 t1).1,(p s0 s1).2,(p t0 t1).2,e0,hA,hB]
theorem afS (y:Sc):∀(ks:aP) (i j:Nat),Instr.findNow .string (jH 0 y) (oi j (ks.map (jH 0))) i=some ((ks.findIdx? fun k=>iG 0 k y).map fun q=>(i+q,.bool true))
 |[],_,_=>rfl
 |k::ks,i,j=>by
  have ih:=afS y ks (i+1) (j+1)
  simp only[map_cons,oi,Instr.findNow]
  have hs:Instr.sameNow .string (jH 0 y) (jH 0 k)=some (y.str==k.str):=by unfold jH;rw[if_pos rfl,if_pos rfl];rfl
  rw[hs]
  have hb:iG 0 k y=(y.str==k.str):=by
   unfold iG
   rw[if_pos rfl]
   rw[agh,ahJ]
  simp only[findIdx?_cons,hb]
  cases(y.str==k.str)
  ·simp only[Bool.false_eq_true,if_false,ih,Option.map_map]
   congr 1
   cases ks.findIdx? fun k=>iG 0 k y with
   |none=>rfl
   |some q=>simp;omega
  ·simp
theorem W1 {key el:TypeId} (h1:P.underlying key=some (.array 2 el)) (h2:P.underlying el=some .string) (h3:ni P el=some 1) (y:Sc):∀(ks:aP) (i j:Nat),
 (Instr.findAsking key (jH 2 y) (oi j (ks.map (jH 2))) i).run P w= .ok ((ks.findIdx? fun k=>iG 2 k y).map fun q=>(i+q,.bool true)) w
 |[],_,_=>rfl
 |k::ks,i,j=>by
  have ih:=W1 h1 h2 h3 y ks (i+1) (j+1)
  have hq:=aiP (w:=w) h1 h2 h3 y k
  have af8:iG 2 y k=iG 2 k y:=by
   cases h:iG 2 k y
   ·cases h':iG 2 y k
    ·rfl
    ·have:=(TM (.inr rfl) _ _).1 h'
     rw[(TM (.inr rfl) k y).2 this.symm]at h;cases h
   ·exact(TM (.inr rfl) _ _).2 ((TM (.inr rfl) _ _).1 h).symm
  rw[af8]at hq
  simp only[map_cons,oi,Instr.findAsking,Sem.run_bind,hq,Result.andThen_ok,findIdx?_cons]
  cases iG 2 k y
  ·simp only[Bool.false_eq_true,if_false,ih,Option.map_map]
   congr 1
   cases ks.findIdx? fun k=>iG 2 k y with
   |none=>rfl
   |some q=>simp;omega
  ·simp
theorem agP {key:TypeId}{n:Nat} (hk:YQ P key n) (y:Sc) (ks:aP):(Instr.findKey key (jH n y) (oi 0 (ks.map (jH n)))).run P w= .ok ((ks.findIdx? fun k=>iG n k y).map fun q=>(q,.bool true)) w:=by
 rcases hk.hn with rfl|rfl
 ·have:=afS y ks 0 0
  simp only[Nat.zero_add]at this
  exact MapKept.run_findKey (d:= .string) (hk.hs rfl) this
 ·obtain⟨el,h1,h2,h3⟩:=hk.ha rfl
  rw[run_findKey_eq w (by rw[h1])]
  have:=W1 (w:=w) h1 h2 h3 y ks 0 0
  simpa using this
theorem Y5 {α:Type} (p:α->Bool):∀(l:List α),l.any p=(l.findIdx? p).isSome
 |[]=>rfl
 |x::l=>by
  rw[any_cons,findIdx?_cons,Y5 p l]
  cases p x<;>simp
theorem anq {α:Type}{p:α->Bool}{l:List α}{q:Nat} (h:l.findIdx? p=some q):∃x,l[q]? =some x/\p x=true:=by
 rw[findIdx?_eq_some_iff_getElem]at h
 obtain⟨h1,h2,_⟩:=h
 exact⟨_,getElem?_eq_getElem h1,h2⟩
theorem aiQ {ty key elem:TypeId}{n:Nat} (hm:P.underlying ty=some (.map key elem)) (hk:YQ P key n) (hz:wi P elem=some (.bool false)){r:Nat}{ks:aP} (hb:w.heap[r]? =some (.map (kE (ks.map (jH n))) ks.length)) (y:Sc) (ok:Bool):
 (Instr.lookup ty (.map (some r)) (jH n y) ok).run P w= .ok (if ok=true then .tuple #[.bool (ks.any fun k=>iG n k y),.bool (ks.any fun k=>iG n k y)]else .bool (ks.any fun k=>iG n k y)) w:=by
 have hf:=agP (w:=w) hk y ks
 have hc:=fun em=>acW (w:=w) hk em y
 have hzr:=ahj hz w
 rw[Y5]
 cases hq:ks.findIdx? fun k=>iG n k y with
 |none=>
  rw[hq]at hf
  cases ok<;>simp[Instr.lookup,run_underlying hm,MapKept.run_getObj_map hb,hc,kE,hf,hzr]
 |some q=>
  rw[hq]at hf
  cases ok<;>simp[Instr.lookup,run_underlying hm,MapKept.run_getObj_map hb,hc,kE,hf]
theorem alQ {key:TypeId}{n:Nat} (hk:YQ P key n) (y:Sc):(Instr.keyThatStays (jH n y) (jH n y)).run P w= .ok (jH n y) w:=by
 have:Instr.sameBits 10000 (jH n y) (jH n y)=true:=by
  rcases hk.hn with rfl|rfl
  ·unfold jH;rw[if_pos rfl];simp[Instr.sameBits,H8]
  ·have hr:jH 2 y= .agg #[.string (y.list.getD 0 (.i 0)).str,.string (y.list.getD 1 (.i 0)).str]:=by unfold jH;rw[if_neg (by omega)];rfl
   rw[hr]
   rw[show(10000:Nat)=9999+1 from rfl,Instr.sameBits]
   simp[Instr.sameBits,H8]
 simp[Instr.keyThatStays,this]
theorem aiR {ty key elem:TypeId}{n:Nat} (hm:P.underlying ty=some (.map key elem)) (hk:YQ P key n){r:Nat}{ks:aP} (hb:w.heap[r]? =some (.map (kE (ks.map (jH n))) ks.length)) (y:Sc):
 (Instr.mapUpdate ty (.map (some r)) (jH n y) (.bool true)).run P w= .ok () {w with heap:=w.heap.setIfInBounds r (.map (kE ((if ks.any fun k=>iG n k y then ks else ks++[y]).map (jH n))) (if ks.any fun k=>iG n k y then ks else ks++[y]).length)}:=by
 have hf:=agP (w:=w) hk y ks
 have hc:=fun em=>acW (w:=w) hk em y
 rw[Y5]
 cases hq:ks.findIdx? fun k=>iG n k y with
 |none=>
  rw[hq]at hf
  have e:kE ((ks++[y]).map (jH n))=(kE (ks.map (jH n))).push ⟨jH n y,.bool true,ks.length⟩:=by
   unfold kE
   rw[map_append,map_cons,map_nil,Qk]
   simp
  simp only[Option.isSome_none,Bool.false_eq_true,if_false]
  rw[e]
  simp[Instr.mapUpdate,run_underlying hm,MapKept.run_getObj_map hb,hc,kE,hf,MapKept.run_setObj_map _ hb]
 |some q=>
  rw[hq]at hf
  obtain⟨k,hk1,pJ⟩:=anq hq
  have hkv:=(TM hk.hn k y).1 pJ
  have azB:(kE (ks.map (jH n)))[q]? =some ⟨jH n y,.bool true,q⟩:=by
   have:=S1 (ks.map (jH n)) 0 q (jH n k) (by rw[getElem?_map,hk1];rfl)
   rw[Nat.zero_add,hkv]at this
   unfold kE
   rw[getElem?_toArray];exact this
  have pW:=alQ (w:=w) hk y
  have aDF:(kE (ks.map (jH n))).modify q (fun e=>{e with key:=jH n y,val:= .bool true})=kE (ks.map (jH n)):=by
   apply Array.ext_getElem?
   intro i
   rw[Array.getElem?_modify]
   by_cases hi:q=i
   ·subst hi;rw[if_pos rfl,azB];rfl
   ·rw[if_neg hi]
  simp only[Option.isSome_some,if_true]
  have hf':(Instr.findKey key (jH n y) (kE (ks.map (jH n))).toList).run P w= .ok (some (q,.bool true)) w:=by simpa[kE]using hf
  generalize kE (ks.map (jH n))=es at*
  simp[Instr.mapUpdate,run_underlying hm,MapKept.run_getObj_map hb,hc,hf',azB,pW,aDF,MapKept.run_setObj_map _ hb]
end
section
variable {P:Program}{B:mC}{w0:World}{σ:St}{c:Ct}{a:Act}{w:World}{o:Oper}{rd:Rd}
theorem aaK:∀{xs:qE}{q:Ex}{vs:dm},agY xs=some q->fp c xs vs->vs=(q.ev c.ρ).list.map (fun x=>Value.string x.str)/\(q.ev c.ρ).list.length=xs.length
 |[],q,[],h,_=>by simp[agY]at h;subst h;exact⟨rfl,rfl⟩
 |[],_,_::_,_,hr=>hr.elim
 |_::_,_,[],_,hr=>hr.elim
 |x::xs,q,v::vs,h,hr=>by
  unfold agY at h
  split at h
  ·rename_i h1;cases h1
  ·rename_i e r h1
   cases h1
   obtain⟨q',h2,rfl⟩:=Option.map_eq_some_iff.1 h
   obtain⟨i1,i2⟩:=aaK h2 hr.2
   have h0:v= .string (e.ev c.ρ).str:=hr.1
   have hL:((Ex.o .cons e q').ev c.ρ).list=e.ev c.ρ::(q'.ev c.ρ).list:=rfl
   rw[hL]
   exact⟨by rw[h0,i1];rfl,by simp[i2]⟩
  ·cases h
theorem acM {n:Nat} (hn:n=0\/n=2){sv:SV}{q:Ex} (h:aoC n sv=some q){v:Value} (hv:sv.rel c v):v=jH n (q.ev c.ρ):=by
 rcases hn with rfl|rfl
 ·unfold aoC at h
  split at h
  ·cases h
   have hv:v= .string (q.ev c.ρ).str:=hv
   rw[hv];unfold jH;rw[if_pos rfl]
  ·rename_i h1;cases h1
  ·cases h
 ·unfold aoC at h
  split at h
  ·rename_i h1;cases h1
  ·rename_i xs hm
   cases hm
   split at h
   ·rename_i hl
    obtain⟨vs,rfl,hr⟩:=hv
    obtain⟨i1,i2⟩:=aaK h hr
    unfold jH
    rw[if_neg (by omega)]
    congr 2
    rw[i1]
    rw[hl]at i2
    match hL:(q.ev c.ρ).list,i2 with
    |[x,y],_=>rfl
   ·cases h
  ·cases h
theorem aal (g:aX P B w0 σ c a w) (gY:MV σ c a rd){ty:TypeId}{n:Nat}{sv:SV}{b:Nat}{e:Ex} (h:aj8 rd ty n sv=some (b,e)){v:Value} (hv:sv.rel c v):
 σ.blk b=some ⟨[.keys n e],ty,1⟩/\∃r,v= .map (some r)/\c.β b=some r/\(B.n<=r\/B.X r)/\w.heap[r]? =some (.map (kE ((e.ev c.ρ).list.map (jH n))) (e.ev c.ρ).list.length):=by
 unfold aj8 at h
 split at h
 ·rename_i b'
  split at h
  ·rename_i m e' t hb
   split at h
   ·rename_i hc
    simp only[Bool.and_eq_true]at hc
    have h1:=eq_of_beq_eq_true hc.1
    have h2:=eq_of_beq_eq_true hc.2
    subst h1;subst h2
    cases h
    obtain⟨r,hr,hv⟩:=hv
    have qM:=gY.blk _ _ hb
    obtain⟨r',cs,e1,e2,e3,e4⟩:=g.aO _ _ qM
    rw[hr]at e1;cases e1
    match cs,e4 with
    |[u],e4=>
     have e4:u=_:=e4.1
     subst e4
     refine⟨qM,r,hv,hr,e2,?_⟩
     rw[e3]
     simp[wX]
    |[],e4=>exact e4.elim
    |_::_::_,e4=>exact e4.2.elim
   ·cases h
  ·cases h
 ·cases h
end
end
end Go.Proofs.YtlklkgdaegncaaaGreatDoor
