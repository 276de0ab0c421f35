/-
  A part of the proof of TopIsolated: SymN1, SymN2, SymN3, SymN4, SymN5, SymN6, SymS.
-/
import Derived.Test.YtnfambhakdnncaaGreatDoorZ01
import Derived.Lib.RuneCountTail
import Derived.StillTail
import Derived.Lib.UnsafeStr
namespace Go.Proofs.YtnfambhakdnncaaGreatDoor
set_option linter.all false
set_option maxRecDepth 1000000
set_option maxHeartbeats 80000000
open List Nat Int Go.RowKit
def XP(P:Program)(lim:dg)(w:World)(x:Wd):Prop:=
 ∃(D:ab)(ad:Option Addr)(n cap:Nat),(∀ρ,(x.e.ev ρ).er= .l (dP D))/\D.length=n/\n<=cap/\cap<=maxLen/\w.cell? ⟨x.g,0,none⟩=some (.slice ad n cap)/\∀agg ks,eC P x.el=some (agg,ks)->∀j u,(ag agg ks D)[j]? =some u->∃p o,ad=some ⟨p,o,none⟩/\w.cell? ⟨p,o+j,none⟩=some u/\lim p
section
variable{P:Program}{B:fZ}{w0:World}{σ:St}{c:Ct}{a:Act}{w:World}{o:Oper}{rd:Rd}{pl:ip}
def add_lit(p o n:Nat):(⟨p,o,none⟩:Addr).add n=⟨p,o+n,none⟩:=by unfold Addr.add;split<;>simp_all
def TM{lo e:Ex}{n m:Nat}(hm:m<=maxLen)(h0:0<=(lo.ev c.ρ).int)(h1:0<=(e.ev c.ρ).int)(h2:(e.ev c.ρ).int<=n)(h3:(lo.ev c.ρ).int+n<=m):((di (.add .i64) lo e).ev c.ρ).int=(lo.ev c.ρ).int+(e.ev c.ρ).int:=by rw[aR];exact rJ (by omega) (by simp only[maxLen]at hm;omega)
def UG{sv:SV}{e:Ex}{b j:Nat}(h:ago sv e=some (b,j)):∃lo n z,sv= .at (.bs b lo n)/\e= .i z/\(0<=z/\z<(n:Int))/\j=lo+z.toNat:=by
 unfold ago at h;split at h
 ·split at h
  ·rename_i hz;cases h;exact⟨_,_,_,rfl,rfl,hz,rfl⟩
  ·cases h
 ·cases h
def QF{ty:TypeId}(h:XG P ty=true):i9 P ty=some false:=by
 unfold XG at h;split at h
 ·assumption
 ·cases h
def YN(g:av P B w0 σ c a w)(cS:xz σ c a rd){ty:TypeId}{x i:Operand}(ho:o.op= .indexAddr ty x i){r:dl}(h:je P pl o rd=some r)(hn:∀e∈r.eZ,(e.ev c.ρ).bool=true):cd P B w0 σ c a w o r:=by
 unfold je at h;simp only[ho]at h;have hx:=cS.ev x;have hi:=cS.ev i;split at h
 ·rename_i el k e hu h2;rw[h2]at hi;have hi:a.eval i= .int k (e.ev c.ρ).int:=hi;split at h
  ·
   rename_i b j hbs;split at h
   ·rename_i eT;cases h
    obtain⟨lo,n,z,Ws,rfl,hz,rfl⟩:=UG hbs;rw[Ws]at hx;obtain⟨m,cap,hb,hv⟩:=hx;have hi:a.eval i= .int k z:=hi;refine cd.quiet g (v:= .pointer (some ((⟨m,lo,none⟩:Addr).add (z.toNat*1)))) ?_ ⟨m,hb,by rw[add_lit,Nat.mul_one]⟩;simp[execOp,ho,Instr.indexAt,asIntOf,hi,run_underlying hu,hv,hz,cj eT]
   ·cases h
  split at h
  ·
   rename_i rr kk n hh eT;split at h
   ·rename_i hc;obtain⟨Tg,qv⟩:=hc;cases h
    unfold Th at hh;split at hh
    ·rename_i r' Ws;split at hh
     ·rename_i kk' hk;split at hh
      ·cases hh
      ·rename_i hc;cases hh
       simp only[bY,NC,not_or,Bool.not_eq_true,Bool.not_eq_false]at hc;obtain⟨_,bj⟩:=hc;have n1:=hn (di .le (.i 0) e) (by simp);have n2:=hn (di .lt e (jW .len kk.cont)) (by simp);rw[aR]at n1 n2;rw[eJ]at n2;have n1:(0:Int)<=(e.ev c.ρ).int:=fv n1;have n2:(e.ev c.ρ).int<((kk.cont.ev c.ρ).list.length:Int):=fv n2;rw[Ws]at hx;obtain⟨hR,_⟩:=hx;obtain⟨v,xR,D,ad,m,cap,rfl,d0,h1,h2,h3,h4,_,_⟩:=g.rows _ _ (cS.row _ _ hk);rw[hR]at xR;have hL:(kk.cont.ev c.ρ).list.length=m:=by rw[<-eU (dh d0)];exact h1
       rw[hL]at n2;rcases h4 bj with h|⟨⟨H,hw,_⟩,_⟩
       ·omega
       rcases hw.2 with⟨hv,_⟩|⟨p,bM,cur,hv,_⟩
       ·cases hv;omega
       cases hv
       have xR:a.eval x= .slice (some ⟨p,0,none⟩) m cap:=xX xR;refine cd.quiet g (v:= .pointer (some ((⟨p,0,none⟩:Addr).add ((e.ev c.ρ).int.toNat*n)))) ?_ ⟨p,0,m,cap,by rw[hR,xR],n1,n2,by rw[add_lit];rfl⟩;simp[execOp,ho,Instr.indexAt,asIntOf,hi,run_underlying hu,xR,n1,n2,cj eT]
     ·cases hh
    ·cases hh
   ·cases h
  split at h
  ·rename_i rr kk lo len n hs eT;split at h
   ·rename_i Tg;cases h
    have n1:=hn (di .le (.i 0) e) (by simp);have n2:=hn (di .lt e len) (by simp);rw[aR]at n1 n2;have n1:(0:Int)<=(e.ev c.ρ).int:=fv n1;have n2:(e.ev c.ρ).int<(len.ev c.ρ).int:=fv n2;obtain⟨ad,m,cap,hv,hl,Cq,hmc,oD,fm,rf⟩:=eM g cS.row hs hx;simp only at rf;obtain⟨_,hk,JO,bT,i8,Ta,hle,hL,DR,iQ,hcell⟩:=rf;obtain⟨p,q,m',iZ,e1,e2,e3⟩:=iQ (by omega);obtain⟨D4,ad4,n4,abA,f1,f0,f2',f3,f4,_⟩:=g.read hk JO;have f2:=f2';rw[eU (dh f0)]at f2;rw[e1]at f1;cases f1;refine cd.quiet g (v:= .pointer (some ((⟨p,q+(lo.ev c.ρ).int.toNat*kk.ks.length,none⟩:Addr).add ((e.ev c.ρ).int.toNat*n)))) ?_ ?_
    ·simp[execOp,ho,Instr.indexAt,asIntOf,hi,run_underlying hu,hv,e3,n1,(by omega:(e.ev c.ρ).int<(m:Int)),cj eT]
    ·rw[add_lit];rcases Ta with hf|⟨es,YC,O0,hf⟩
     ·obtain⟨aci,_⟩:=DR hf;subst aci;rw[hf];refine⟨p,q,m',iZ,e1,n1,by show(e.ev c.ρ).int<m';simp[Ex.ev]at hle;omega,?_⟩;show _=Value.pointer (some ⟨p,q+(e.ev c.ρ).int.toNat*n+0,none⟩);simp[Ex.ev,Tg]
     ·rw[hf];have gj:=TM (c:=c) (lo:=lo) (e:=e) (n:=m) (m:=m') (by omega) Cq n1 (by omega) (by omega);refine⟨p,q,m',iZ,e1,?_,?_,?_⟩
      ·show 0<=((di (.add .i64) lo e).ev c.ρ).int;rw[gj];omega
      ·show((di (.add .i64) lo e).ev c.ρ).int<m';rw[gj];omega
      ·show _=Value.pointer (some ⟨p,q+((di (.add .i64) lo e).ev c.ρ).int.toNat*n+0,none⟩);rw[gj,toNat_add Cq n1,Ac,Tg,td];rfl
   ·cases h
  ·cases h
   have:=hn (.b false) (by simp);cases this
  ·cases h
 ·rename_i len el k z hu h2;rw[h2]at hi;have hi:a.eval i= .int k z:=hi;split at h
  ·rename_i p off n h1 eT;split at h
   ·rename_i hz;cases h
    rw[h1]at hx;obtain⟨m,hb,hv⟩:=hx;refine cd.quiet g (v:= .pointer (some ((⟨m,off,none⟩:Addr).add (z.toNat*n)))) ?_ ⟨m,hb,by rw[add_lit]⟩;simp[execOp,ho,Instr.indexAt,asIntOf,hi,run_underlying hu,hv,Instr.sureAddr,hz,cj eT]
   ·cases h
  ·cases h
 ·cases h
def aad(g:av P B w0 σ c a w)(cS:xz σ c a rd){ty:TypeId}{x:Operand}{lo hi mx:Option Operand}(ho:o.op= .slice ty x lo hi mx){r:dl}(gV:∀i∈r.nr,c.R i=none)(h:je P pl o rd=some r)(hn:∀e∈r.eZ,(e.ev c.ρ).bool=true):cd P B w0 σ c a w o r:=by
 unfold je at h;simp only[ho]at h;have hx:=cS.ev x;have Yl:∀(l:Ex),TP rd lo=some l->(lo=none/\(l.ev c.ρ).int=0)\/∃y k,lo=some y/\a.eval y= .int k (l.ev c.ρ).int:=by
  intro l hl;unfold TP at hl;cases lo with
  |none=>simp at hl;subst hl;exact .inl ⟨rfl,rfl⟩|some y=>
   simp only[nW]at hl;obtain⟨⟨k,e⟩,h1,rfl⟩:=hl;have hy:=cS.ev y;refine .inr ⟨y,k,rfl,?_⟩;unfold SV.int? at h1;split at h1
   ·rename_i h2;cases h1;rw[h2]at hy;exact hy
   ·cases h1
 have Yf:∀(d l:Ex),HF rd hi d=some l->(hi=none/\l=d)\/∃y k,hi=some y/\a.eval y= .int k (l.ev c.ρ).int:=by
  intro d l hl;unfold HF at hl;cases hi with
  |none=>simp at hl;exact .inl ⟨rfl,hl.symm⟩|some y=>
   simp only[nW]at hl;obtain⟨⟨k,e⟩,h1,rfl⟩:=hl;have hy:=cS.ev y;refine .inr ⟨y,k,rfl,?_⟩;unfold SV.int? at h1;split at h1
   ·rename_i h2;cases h1;rw[h2]at hy;exact hy
   ·cases h1
 have hzero:∀(q:Option Operand),E8 rd q=true->q=none\/∃y k,q=some y/\a.eval y= .int k 0:=by
  intro q hq;unfold E8 at hq;split at hq
  ·exact .inl rfl
  ·rename_i y;split at hq
   ·rename_i k hy;have hv:=cS.ev y;rw[hy]at hv;exact .inr ⟨y,k,rfl,hv⟩
   ·cases hq
 cases mx with
 |some m=>
  simp only at h;split at h
  ·rename_i el aAP b' n' hu hs;split at h
   ·rename_i hz;simp only[aL]at hz;obtain⟨⟨⟨⟨z1,z2⟩,z3⟩,z4⟩,z5⟩:=hz;cases h
    obtain⟨ad,n,cap,hv,_⟩:=eM g cS.row hs hx;obtain⟨y3,k3,e3,v3⟩:=(hzero _ z3).resolve_left (by simp);cases e3
    obtain⟨y2,k2,e2,v2⟩:=(hzero _ z2).resolve_left (by intro e;rw[e]at z4;cases z4);subst e2;obtain⟨sz,eT⟩:=uh.1 z5;have eT:=cj (w:=w) eT;rcases hzero _ z1 with rfl|⟨y1,k1,rfl,v1⟩
    ·exact cd.quiet g (v:= .slice ad 0 0) (by simp[execOp,ho,Instr.sliceAt,run_underlying hu,Instr.slice,Instr.sliceBounds,Instr.sliceBound,asIntOf,hv,v2,v3,eT]) ⟨ad,rfl⟩
    ·exact cd.quiet g (v:= .slice ad 0 0) (by simp[execOp,ho,Instr.sliceAt,run_underlying hu,Instr.slice,Instr.sliceBounds,Instr.sliceBound,asIntOf,hv,v1,v2,v3,eT]) ⟨ad,rfl⟩
   ·split at h;rotate_left
    ·cases h
    rename_i rr kk hh kq q k hhi hq eT _;split at h;rotate_left
    ·cases h
    rename_i hc;simp only[aL]at hc;obtain⟨⟨c1,c2⟩,c3⟩:=hc;cases h
    have c2:=Ex.aG c2;subst c2;have Wm:k=kk.ks.length:=fh c3;have n1:=hn (di .le (.i 0) hh) (by simp);have n2:=hn (di .le hh n') (by simp);rw[aR]at n1 n2;have n1:(0:Int)<=(hh.ev c.ρ).int:=fv n1;have n2:(hh.ev c.ρ).int<=(n'.ev c.ρ).int:=fv n2;obtain⟨ad,m',cap,hv,hl,Cq,hmc,oD,fm,rf⟩:=eM g cS.row hs hx;simp only at rf;obtain⟨_,hk,JO,bT,i8,Ta,hle,hL,DR,iQ,hcell⟩:=rf;obtain⟨D4,ad4,n4,abA,f1,f0,f2',f3,f4,_⟩:=g.read hk JO;have f2:=f2';rw[eU (dh f0)]at f2;have q3:(hh.ev c.ρ).int<=(cap:Int):=by omega
    have hh2:((hh.ev c.ρ).int.toNat:Int)=(hh.ev c.ρ).int:=by omega
    have hm:∃km,a.eval m= .int km (hh.ev c.ρ).int:=by
     have hmv:=cS.ev m;unfold SV.int? at hq;split at hq
     ·rename_i h2;cases hq;rw[h2]at hmv;exact⟨_,hmv⟩
     ·cases hq
    obtain⟨km,hm⟩:=hm;obtain⟨y',k'',rfl,e2⟩:=(Yf _ hh hhi).resolve_left (by rintro⟨rfl,_⟩;cases c1);have dD:(execOp a.eval o).run P w= .ok (.value (.slice (if(hh.ev c.ρ).int.toNat=0 then ad else ad.map (·.add (0*k))) (hh.ev c.ρ).int.toNat (hh.ev c.ρ).int.toNat)) w:=by simp[execOp,ho,Instr.sliceAt,run_underlying hu,Instr.slice,Instr.sliceBounds,Instr.sliceBound,asIntOf,hv,e2,hm,n1,q3,hh2,cj eT]
    refine cd.quiet g dD ⟨ad4,n4,abA,_,f1,rfl,Cq,n1,by omega,by omega,fun hp=> ?_⟩;obtain⟨p,q',m'',iZ,e1,e2,e3⟩:=iQ (by omega);rw[f1]at e1;cases e1;refine⟨p,q',rfl,?_⟩;rw[aE (by omega),e3];simp only[Option.map_some,add_lit];rw[Nz,pA,Wm]
  ·cases h
 |none=>
 simp only at h;split at h
 ·
  rename_i hu;split at h;rotate_left
  ·cases h
  rename_i s hs;rw[hs]at hx;have hx:a.eval x= .string (s.ev c.ρ).str:=hx;split at h
  ·rename_i l hh h1 h2;cases h
   have n1:=hn (di .le (.i 0) l) (by simp);have n2:=hn (di .le l hh) (by simp);have n3:=hn (di .le hh (jW .iN s)) (by simp);rw[aR]at n1 n2 n3;rw[eJ]at n3;have n1:(0:Int)<=(l.ev c.ρ).int:=fv n1;have n2:(l.ev c.ρ).int<=(hh.ev c.ρ).int:=fv n2;have n3:(hh.ev c.ρ).int<=((s.ev c.ρ).str.size:Int):=fv n3;refine cd.quiet g (v:= .string ((s.ev c.ρ).str.extract (l.ev c.ρ).int.toNat (hh.ev c.ρ).int.toNat)) ?_ (by show _=_;rw[qE];rfl);have q1:(0:Int)<=(hh.ev c.ρ).int:=by omega
   have q2:((hh.ev c.ρ).int.toNat:Int)=(hh.ev c.ρ).int:=by omega
   rcases Yl l h1 with⟨rfl,e1⟩|⟨y,k,rfl,e1⟩<;>rcases Yf _ hh h2 with⟨rfl,e2⟩|⟨y',k',rfl,e2⟩
   ·subst e2;simp[execOp,ho,Instr.sliceAt,run_underlying hu,Instr.slice,Instr.sliceBounds,hx,e1,eJ,U1.ev]
   ·simp[execOp,ho,Instr.sliceAt,run_underlying hu,Instr.slice,Instr.sliceBounds,Instr.sliceBound,asIntOf,hx,e1,e2,q1,n3]
   ·subst e2;have n4:(l.ev c.ρ).int<=((s.ev c.ρ).str.size:Int):=by omega
    simp[execOp,ho,Instr.sliceAt,run_underlying hu,Instr.slice,Instr.sliceBounds,Instr.sliceBound,asIntOf,hx,e1,n1,n4,eJ,U1.ev]
   ·simp[execOp,ho,Instr.sliceAt,run_underlying hu,Instr.slice,Instr.sliceBounds,Instr.sliceBound,asIntOf,hx,e1,e2,n1,q1,n3,q2,n2]
  ·cases h
 ·
  rename_i el hu;split at h
  ·
   rename_i hs;split at h
   ·rename_i hz;simp only[aL]at hz;obtain⟨⟨z1,z2⟩,z5⟩:=hz;cases h
    obtain⟨ad,n,cap,hv,hl,Cq,hmc,oD,fm,rf⟩:=eM g cS.row hs hx;obtain⟨rfl,rfl,_⟩:=rf;obtain⟨sz,eT⟩:=uh.1 z5;have eT:=cj (w:=w) eT;rcases hzero _ z1 with rfl|⟨y1,k1,rfl,v1⟩<;>rcases hzero _ z2 with rfl|⟨y2,k2,rfl,v2⟩
    ·exact cd.quiet g (v:= .slice ad 0 0) (by simp[execOp,ho,Instr.sliceAt,run_underlying hu,Instr.slice,Instr.sliceBounds,hv,eT]) ⟨ad,rfl⟩
    ·exact cd.quiet g (v:= .slice ad 0 0) (by simp[execOp,ho,Instr.sliceAt,run_underlying hu,Instr.slice,Instr.sliceBounds,Instr.sliceBound,asIntOf,hv,v2,eT]) ⟨ad,rfl⟩
    ·exact cd.quiet g (v:= .slice ad 0 0) (by simp[execOp,ho,Instr.sliceAt,run_underlying hu,Instr.slice,Instr.sliceBounds,Instr.sliceBound,asIntOf,hv,v1,eT]) ⟨ad,rfl⟩
    ·exact cd.quiet g (v:= .slice ad 0 0) (by simp[execOp,ho,Instr.sliceAt,run_underlying hu,Instr.slice,Instr.sliceBounds,Instr.sliceBound,asIntOf,hv,v1,v2,eT]) ⟨ad,rfl⟩
   ·cases h
  ·rename_i rr kk b n hs;split at h
   ·rename_i l hh k h1 h2 eT;split at h
    ·rename_i Wm;split at h
     ·
      rename_i hc;simp only[aL]at hc;obtain⟨⟨⟨⟨z1,z2⟩,z3⟩,bj⟩,z5⟩:=hc;cases h
      have gV:=gV rd.nr (by simp);have aci:lo=none:=by cases lo with|none=>rfl|some _=>cases z1
      subst aci;obtain⟨y2,k2,e2,v2⟩:=(hzero _ z3).resolve_left (by intro e;rw[e]at z2;cases z2);subst e2;have DR:rd.ev x= .at (.vec rr):=by
       unfold aeR at z5;split at z5
       ·rename_i r' Ws;rw[Ws]at hs;have:=tX (x:= .vec r') hs;simp only[bq]at hs;split at hs
        ·split at hs
         ·cases hs;exact Ws
         ·cases hs
        ·cases hs
       ·cases z5
      rw[DR]at hx;obtain⟨hR,_⟩:=hx;have hkr:rd.row rr=some kk:=by rw[DR]at hs;exact tX (x:= .vec rr) hs
      have Yz:kk.hole=none:=by rw[DR]at hs;exact AD (x:= .vec rr) hs
      have hk:=cS.row _ _ hkr;obtain⟨v,xR,D,ad,m,cap,rfl,d0,h1,h2,h3,h4,_,_⟩:=g.rows _ _ hk;have P5:=xR;rw[hR]at xR;have Bf:a.eval x= .slice ad m cap:=xX xR;have eT:=cj (w:=w) eT;have dD:(execOp a.eval o).run P w= .ok (.value (.slice ad 0 cap)) w:=by simp[execOp,ho,Instr.sliceAt,run_underlying hu,Instr.slice,Instr.sliceBounds,Instr.sliceBound,asIntOf,Bf,v2,eT,Addr.add]
      have gg:=g.uf (w':=w) hk bj P5 (World.grownBy.refl _ _) (r':=rd.nr) (k':={kk with cont:= .nil}) bj Yz (D:=[]) (ad:=ad) (n:=0) (cap:=cap) (by simp[Ex.ev,Sc.er]) rfl (xA _) h3
       ((h4 bj).imp id fun h=>by
         have hw:=h.1.plain Yz;rcases hw.2 with⟨hv,hn⟩|⟨p,bM,cur,hv,a1,a2,a3,a4,a5,a6⟩
         ·cases hv
          exact⟨by simp[ag],.inl ⟨rfl,rfl⟩⟩
         ·cases hv
          exact⟨by simp[ag],.inr ⟨p,_,cur,rfl,a1,a2,xA _,a4,a5,by simp[ag]⟩⟩) (.inl (by cases ad<;>cases cap<;>rfl)) (.inl gV) (nofun)
      refine⟨_,w,_,{c with R:=fun i=>if i=rd.nr then some (.slice ad 0 cap)else c.R i},dD,.inl rfl,?_,fun _ _=>rfl,fun i hi=>by simp at hi;simp[hi],⟨by simp,ad,0,cap,rfl⟩,gg⟩;exact⟨rfl,rfl,fun _ _ e=>e,fun i u e=>by
       by_cases h:i=rd.nr
       ·subst h;rw[gV]at e;cases e
       ·simp[h,e]⟩
     cases h
     have n1:=hn (di .le (.i 0) l) (by simp);have n2:=hn (di .le l hh) (by simp);have n3:=hn (di .le hh n) (by simp);rw[aR]at n1 n2 n3;have n1:(0:Int)<=(l.ev c.ρ).int:=fv n1;have n2:(l.ev c.ρ).int<=(hh.ev c.ρ).int:=fv n2;have n3:(hh.ev c.ρ).int<=(n.ev c.ρ).int:=fv n3;obtain⟨ad,m,cap,hv,hl,Cq,hmc,oD,fm,rf⟩:=eM g cS.row hs hx;simp only at rf;obtain⟨_,hk,JO,bT,i8,Ta,hle,hL,DR,iQ,hcell⟩:=rf;obtain⟨D4,ad4,n4,abA,f1,f0,f2',f3,f4,_⟩:=g.read hk JO;have f2:=f2';rw[eU (dh f0)]at f2;have q1:(0:Int)<=(hh.ev c.ρ).int:=by omega
     have q3:(hh.ev c.ρ).int<=(cap:Int):=by omega
     have hh2:((hh.ev c.ρ).int.toNat:Int)=(hh.ev c.ρ).int:=by omega
     have dD:(execOp a.eval o).run P w= .ok (.value (sliced ad (l.ev c.ρ).int.toNat (hh.ev c.ρ).int.toNat cap k)) w:=by
      rcases Yl l h1 with⟨rfl,e1⟩|⟨y,k',rfl,e1⟩<;>rcases Yf _ hh h2 with⟨rfl,e2⟩|⟨y',k'',rfl,e2⟩
      ·subst e2;simp[execOp,ho,Instr.sliceAt,run_underlying hu,Instr.slice,Instr.sliceBounds,hv,e1,cj eT,sliced,hl]
      ·simp[execOp,ho,Instr.sliceAt,run_underlying hu,Instr.slice,Instr.sliceBounds,Instr.sliceBound,asIntOf,hv,e1,e2,q1,q3,cj eT,sliced]
      ·subst e2;have n4':(l.ev c.ρ).int<=(m:Int):=by omega
       simp[execOp,ho,Instr.sliceAt,run_underlying hu,Instr.slice,Instr.sliceBounds,Instr.sliceBound,asIntOf,hv,e1,n1,n4',cj eT,sliced,hl]
      ·simp[execOp,ho,Instr.sliceAt,run_underlying hu,Instr.slice,Instr.sliceBounds,Instr.sliceBound,asIntOf,hv,e1,e2,n1,q1,q3,hh2,n2,cj eT,sliced]
     have qD:((di (.sub .i64) hh l).ev c.ρ).int=(hh.ev c.ρ).int-(l.ev c.ρ).int:=by rw[aR];exact rJ (by omega) (by simp only[maxLen]at oD;omega)
     have key:∀(ix:Ex),(ix.ev c.ρ).int=(b.ev c.ρ).int+(l.ev c.ρ).int->(At.sl rr k ix (di (.sub .i64) hh l)).rel c (sliced ad (l.ev c.ρ).int.toNat (hh.ev c.ρ).int.toNat cap k):=by
      intro ix Va;refine⟨ad4,n4,abA,(if cap=(l.ev c.ρ).int.toNat then ad else ad.map (·.add ((l.ev c.ρ).int.toNat*k))),cap-(l.ev c.ρ).int.toNat,f1,?_,by rw[Va];omega,by rw[qD];omega,by rw[Va,qD];omega,by rw[qD];omega,by omega,fun hp=> ?_⟩
      ·rw[qD];show Value.slice _ _ _=_;congr 1;omega
      ·rw[qD]at hp;obtain⟨p,q,m',iZ,e1,e2,e3⟩:=iQ (by omega);rw[f1]at e1;cases e1;refine⟨p,q,rfl,?_⟩;have vP:¬(cap=(l.ev c.ρ).int.toNat):=by omega
       rw[aE vP,e3];simp only[Option.map_some,add_lit];rw[Va,toNat_add Cq n1,Ac,Wm,td]
     refine cd.quiet g dD ?_;rcases Ta with hf|⟨es,YC,O0,hf⟩
     ·obtain⟨hb0,_⟩:=DR hf;subst hb0;rw[hf];exact key l (by simp[Ex.ev])
     ·rw[hf];exact key (di (.add .i64) b l) (TM (c:=c) (lo:=b) (e:=l) (n:=m) (m:=n4) (by omega) Cq n1 (by omega) (by omega))
    ·cases h
   ·cases h
  ·cases h
 ·cases h
def Pv(g:av P B w0 σ c a w){row:iu}(dz:∀p k,row p=some k->σ.row p=some k){ty:TypeId}{x y:Operand}(ho:o.op= .store ty x y){rr:Nat}{ix:Ex}{off:Nat}{k:Rw}(hx:(At.J3 rr k.ks.length ix off).rel c (a.eval x))(hk:σ.row rr=some k)(bj:k.own=true)(JO:k.hole=none)(qv:bF k.agg k.ks=true){sv:SV}{xs:eO}(eT:gO P ty=some xs.length)(uL:sv.cells=some xs)(JR:xs.all At.known=true)(hy:sv.rel c (a.eval y)){e:Ex}{fr:cv}(he:uo P (fun q=>if Nat.beq q rr then none else row q) k.agg k.ks (k.elem ix) off xs=some (e,fr)):
 cd P B w0 σ c a w o ⟨[],none,.t [],[],fr++[(rr,some {k with cont:=xO .mu k.cont ix e})],[],[]⟩:=by
 obtain⟨bT,i8⟩:=dq qv
 have Cr:∀p k',(fun q=>if Nat.beq q rr then none else row q) p=some k'->σ.row p=some k'/\p≠rr:=fun p k' h=>by
  simp only at h;split at h
  ·cases h
  ·rename_i hq;exact⟨dz _ _ h,fun e=>hq (by rw[e];exact BK rr)⟩
 have DJ:=(zK he).1
 have Q5:rr∉fr.map (·.1):=fun hm=>by obtain⟨z,hz,ez⟩:=pB.1 hm;obtain⟨k',fK,_⟩:=DJ z.1 z.2 hz;exact(Cr _ _ fK).2 ez
 obtain⟨g1,hfz⟩:=oB g (fun p k' h=>(Cr p k' h).1) DJ
 have Tc:St.row {σ with rows:=ai σ.rows fr} rr=some k:=by
  obtain⟨_,h2⟩:=av.F2 g (fr:=fr) (fun q z hz=>by obtain⟨k',fK,xN,e'⟩:=DJ q z hz;exact⟨k',(Cr _ _ fK).1,xN,e'⟩)
  rw[h2 rr k hk,aE Q5]
 obtain⟨p,q,m,cap,hR,h0,bi,Bf⟩:=hx
 obtain⟨v,xR,D,ad,n,iZ,rfl,d0,h1,h2,h3,h4,_,h6⟩:=g1.rows rr k Tc
 rw[hR]at xR;cases xR
 have Mm:cap≠0:=by omega
 rcases h4 bj with hz|⟨hw,hbp⟩
 ·exact absurd hz Mm
 have hw:=hw.plain JO
 rcases hw.2 with⟨hv,_⟩|⟨p',bM,cur,hv,hb,lc,yA,oD,nP,Cu⟩
 ·cases hv
 cases hv
 have rQ:(k.elem ix).ev c.ρ=(k.cont.ev c.ρ).list.getD (ix.ev c.ρ).int.toNat (.i 0):=by unfold Rw.elem;rw[aR];rfl
 have hd0:(D.getD (ix.ev c.ρ).int.toNat (.i 0)).er=((k.elem ix).ev c.ρ).er:=by rw[rQ];exact FY (dh d0) _
 have ti:D.getD (ix.ev c.ρ).int.toNat (.i 0)∈D:=by rw[cE,cB (by omega)];exact BQ _
 obtain⟨us,F8,Wq⟩:=nF uL JR hy
 obtain⟨d,hd,QU,hdc,Mt⟩:=ED g1 he hfz Wq hd0 (h6 _ ti)
 have hul:=nw Wq
 generalize hi:(ix.ev c.ρ).int.toNat=i at*
 have hil:i<D.length:=by omega
 have fm:=cg bT (D.getD i (.i 0))
 have yx:=yq bT D i (D.getD i (.i 0)) hil
 have HN:D.set i (D.getD i (.i 0))=D:=by rw[cE,cB hil];simp
 rw[HN]at yx
 have QW:=yq bT D i d hil
 have ut:=aD bT D
 rw[h1]at ut
 have hi1:i*k.ks.length+k.ks.length<=m*k.ks.length:=by rw[<-succ_mul];exact fu _ (by omega)
 have XQ:((ag k.agg k.ks D).take (i*k.ks.length)).length=i*k.ks.length:=by rw[iW,ut];omega
 have YF:=Ln ((ag k.agg k.ks D).take (i*k.ks.length)) (bP k.agg k.ks (D.getD i (.i 0))) ((ag k.agg k.ks D).drop (i*k.ks.length+k.ks.length)) us off Mt
 rw[<-yx,XQ,<-hdc,<-QW]at YF
 have EN:cur.toList.length=cap*k.ks.length:=by simpa using nP
 have hmul:m*k.ks.length<=cap*k.ks.length:=fu _ h2
 have Q7:=Mz JR Wq
 have fC:=run_storeCells_at P p (i*k.ks.length+off) k.el us 0 cur w lc (by
  have:cur.size=cur.toList.length:=by simp
  rw[this,EN];rw[fm]at Mt;simp;omega) Q7
 simp only[pA]at fC
 have atZ:((xO .mu k.cont ix e).ev c.ρ).er= .l (dP (D.set i d)):=by rw[qE];show(Sc.l ((k.cont.ev c.ρ).list.set (ix.ev c.ρ).int.toNat (e.ev c.ρ))).er=_;rw[gh,FZ,hi,FZ,<-dh d0,hd]
 rw[fm]at Mt
 have gg:=g1.uf Tc bj hR (w':=w.setRow p (cur.toList.take (i*k.ks.length+off)++us++cur.toList.drop (i*k.ks.length+off+us.length)).toArray)
  ⟨rfl,rfl,rfl,by simp[World.setRow],fun j _ hj=>setRow_other w p j _ (fun e'=>hj (by rw[kr (by omega),e']))⟩ (r':=rr) (k':={k with cont:=xO .mu k.cont ix e}) bj JO (D:=D.set i d) (ad:=some ⟨p,0,none⟩) (n:=m) (cap:=cap) atZ (by rw[BO];exact h1) h2 h3
  (.inr ⟨by simp only;rw[aD bT,BO,h1],.inr ⟨p,cap,_,rfl,xA _,setRow_heap w p cur _ k.el _ lc,yA,oD,by
    simp only[Jq,fR,iW,tc,EN];omega,by
    simp only;rw[<-YF,<-Cu];have:=zu cur.toList us (i*k.ks.length+off) us.length (M:=m*k.ks.length) rfl (by omega) (by omega);rw[td]at this⊢;exact this⟩⟩) (.inl rfl) (.inr ⟨rfl,rfl⟩) (fun x hx=>by
     rcases Ke hx with hx|rfl
     ·exact h6 x hx
     ·exact QU)
 have hc:(fun i=>if i=rr then some (Value.slice (some ⟨p,0,none⟩) m cap)else c.R i)=c.R:=by
  funext i;by_cases h:i=rr
  ·subst h;simp[hR]
  ·simp[h]
 rw[hc]at gg
 simp only[oQ]at gg
 rw[<-wE]at gg
 refine⟨.skip,_,undef,c,?_,.inr ⟨rfl,rfl⟩,.refl c,fun _ _=>rfl,fun _ _=>rfl,⟨[],rfl,trivial⟩,gg⟩
 simp[execOp,ho,Instr.storeAt,Bf,Instr.sureAddr,storeVar,cj eT,F8,hul,fC]
def MS:∀{l:List SV}{bs:bH}{vs:aW},l.mapM (fun| .c (.a (.ptr p 0))=>some p|_=>none)=some bs->l.length=vs.length->(∀i(h1:i<l.length)(h2:i<vs.length),(l[i]).rel c (vs[i]))->∃ns:bH,bs.map c.β=ns.map some/\vs=ns.map fun n=>Value.pointer (some ⟨n,0,none⟩)
 |[],bs,[],h,_,_=>by simp at h;subst h;exact⟨[],rfl,rfl⟩
 |[],_,_::_,_,hl,_=>by simp at hl
 |_::_,_,[],_,hl,_=>by simp at hl
 |x::l,bs,v::vs,h,hl,hr=>by
  simp only[mapM_cons,Option.bind_eq_bind,Option.pure_def,AL]at h;obtain⟨p,h1,bs',h2,h3⟩:=h;cases h3
  obtain⟨ns,e1,e2⟩:=MS h2 (by simpa using hl) (fun i q1 q2=>by have:=hr (i+1) (by simp;omega) (by simp;omega);simpa using this)
  have h0:=hr 0 (by simp) (by simp);simp only[getElem_cons_zero]at h0;split at h1
  ·cases h1
   obtain⟨n,hb,rfl⟩:=h0;exact⟨n::ns,by simp[hb,e1],by simp[e2]⟩
  ·cases h1
def Vx(g:av P B w0 σ c a w){ty:TypeId}{x:Operand}(ho:o.op= .load ty x){rr:Nat}{ix:Ex}{off q:Nat}{k:Rw}(hx:(At.J3 rr k.ks.length ix off).rel c (a.eval x))(hk:σ.row rr=some k)(bT:bF k.agg k.ks=true)(bj:k.own=true)(JO:k.hole=some (ix,off,q))(Cj:i9 P ty=some false):cd P B w0 σ c a w o (dl.pure (.at (.vec q))):=by
 obtain⟨n,o',len,cap,e,h0,bi,hx⟩:=hx
 obtain⟨v,xR,D,ad,m,iZ,rfl,d0,h1,h2,h3,h4,_,_⟩:=g.rows _ _ hk
 rw[e]at xR;cases xR
 rcases h4 bj with h|⟨⟨H,hw,hr⟩,_⟩
 ·omega
 unfold kP at hr
 rw[JO]at hr
 obtain⟨u,hu,mi,_,_,DP,hH⟩:=hr
 rcases hw.2 with⟨hv,_⟩|⟨p,bM,cur,hv,_⟩
 ·cases hv
 cases hv
 have ut:=aD (dq bT).1 D
 have xM:(ix.ev c.ρ).int.toNat*k.ks.length+off<(ag k.agg k.ks D).length:=by
  rw[ut,h1];have:(ix.ev c.ρ).int.toNat*k.ks.length+k.ks.length<=len*k.ks.length:=by rw[<-succ_mul];exact fu _ (by omega)
  omega
 have hcell:=hw.cells (g:=n) rfl ((ix.ev c.ρ).int.toNat*k.ks.length+off) u (by rw[hH,getElem?_set_self xM])
 rw[add_lit,eG]at hcell
 rw[eG]at hx
 have dD:(loadVar ty ⟨n,(ix.ev c.ρ).int.toNat*k.ks.length+off,none⟩).run P w= .ok u w:=by simp[loadVar,jd Cj,load,Sem.run,hcell]
 exact cd.quiet g (v:=u) (by simp[execOp,ho,Instr.loadAt,hx,Instr.sureAddr,dD]) ⟨hu,mi⟩
def Mp(g:av P B w0 σ c a w){row:iu}(dz:∀p k,row p=some k->σ.row p=some k){ty:TypeId}{x y:Operand}(ho:o.op= .store ty x y){rr:Nat}{ix:Ex}{off:Nat}{k:Rw}(hx:(At.J3 rr k.ks.length ix off).rel c (a.eval x))(hk:σ.row rr=some k)(bj:k.own=true)(JO:k.hole=none)(qv:bF k.agg k.ks=true){sv:SV}{xs:eO}(eT:gO P ty=some xs.length)(uL:sv.cells=some xs)(JR:xs.all At.known=true)(hy:sv.rel c (a.eval y)){q:Nat}(hq:Q6 pl row rr k off xs=some q):cd P B w0 σ c a w o ⟨[],none,.t [],[],[(rr,some {k with hole:=some (ix,off,q)})],[],[]⟩:=by
 unfold Q6 at hq
 split at hq
 rotate_left
 ·cases hq
 rename_i q'
 split at hq
 rotate_left
 ·cases hq
 split at hq
 rotate_left
 ·cases hq
 rename_i kq el hkq rQ
 split at hq
 rotate_left
 ·cases hq
 rename_i hc
 cases hq
 simp only[aL,NC]at hc
 obtain⟨⟨⟨⟨_,_⟩,vP⟩,_⟩,DP⟩:=hc
 have DP:off<k.ks.length:=oo (by simpa[blt]using DP)
 obtain⟨bT,i8⟩:=dq qv
 obtain⟨us,F8,Wq⟩:=nF uL JR hy
 obtain⟨u,rfl⟩:∃u,us=[u]:=by
  match us,Wq with
  |[u],_=>exact⟨u,rfl⟩|[],h=>exact h.elim|_::_::_,h=>exact h.2.elim
 obtain⟨hRq,mi⟩:=Wq.1
 obtain⟨p,o',m,cap,hR,h0,bi,Bf⟩:=hx
 obtain⟨v,xR,D,ad,n,iZ,rfl,d0,h1,h2,h3,h4,_,h6⟩:=g.rows rr k hk
 rw[hR]at xR;cases xR
 rcases h4 bj with h|⟨hw,hbp⟩
 ·omega
 have hw:=hw.plain JO
 rcases hw.2 with⟨hv,_⟩|⟨p',bM,cur,hv,hb,lc,yA,oD,nP,Cu⟩
 ·cases hv
 cases hv
 generalize hi:(ix.ev c.ρ).int.toNat=i at*
 have ut:=aD bT D
 rw[h1]at ut
 have hi1:i*k.ks.length+k.ks.length<=m*k.ks.length:=by rw[<-succ_mul];exact fu _ (by omega)
 have EN:cur.toList.length=cap*k.ks.length:=by simpa using nP
 have hmul:m*k.ks.length<=cap*k.ks.length:=fu _ h2
 have Q7:=Mz JR Wq
 have fC:=run_storeCells_at P p (i*k.ks.length+off) k.el [u] 0 cur w lc (by
  have:cur.size=cur.toList.length:=by simp
  rw[this,EN];simp;omega) Q7
 simp only[pA]at fC
 have Ag:(ag k.agg k.ks D).set (i*k.ks.length+off) u=(ag k.agg k.ks D).take (i*k.ks.length+off)++[u]++(ag k.agg k.ks D).drop (i*k.ks.length+off+1):=by rw[set_eq_take_append_cons_drop,aA (by rw[ut];omega)];simp
 have hc:(fun i=>if i=rr then some (Value.slice (some ⟨p,0,none⟩) m cap)else c.R i)=c.R:=by
  funext i;by_cases h:i=rr
  ·subst h;simp[hR]
  ·simp[h]
 have gg:=g.PN hk bj hR (w':=w.setRow p (cur.toList.take (i*k.ks.length+off)++[u]++cur.toList.drop (i*k.ks.length+off+[u].length)).toArray)
  ⟨rfl,rfl,rfl,by simp[World.setRow],fun j _ hj=>setRow_other w p j _ (fun e'=>hj (by rw[kr (by omega),e']))⟩ (r':=rr) (k':={k with hole:=some (ix,off,q)}) bj (D:=D) (ad:=some ⟨p,0,none⟩) (n:=m) (cap:=cap) d0 h1 h2 h3
  (.inr ⟨(ag k.agg k.ks D).set (i*k.ks.length+off) u,⟨by rw[BO];exact ut,.inr ⟨p,cap,_,rfl,xA _,setRow_heap w p cur _ k.el _ lc,yA,oD,by
    simp only[Jq,fR,iW,tc,EN,AM,oe];omega,by
    simp only;rw[Ag,<-Cu];exact zu cur.toList [u] (i*k.ks.length+off) 1 (M:=m*k.ks.length) rfl (by omega) (by omega)⟩⟩,by
    rw[hc];exact⟨u,hRq,mi,h0,bi,DP,by rw[hi]⟩⟩) (.inl rfl) (.inr ⟨rfl,rfl⟩) h6
 rw[hc]at gg
 simp only[oQ]at gg
 refine⟨.skip,_,undef,c,?_,.inr ⟨rfl,rfl⟩,.refl c,fun _ _=>rfl,fun _ _=>rfl,⟨[],rfl,trivial⟩,gg⟩
 simp[execOp,ho,Instr.storeAt,Bf,Instr.sureAddr,storeVar,cj eT,F8,fC]
def acF(g:av P B w0 σ c a w)(cS:xz σ c a rd){x:Operand}(ho:o.op= .next x true){r:dl}(h:je P pl o rd=some r)(hn:∀e∈r.eZ,(e.ev c.ρ).bool=true):cd P B w0 σ c a w o r:=by
 unfold je at h;simp only[ho]at h;have hx:=cS.ev x;split at h;rotate_left
 ·cases h
 rename_i b h1;rw[h1]at hx;obtain⟨n,hβ,hv⟩:=hx;split at h;rotate_left
 ·cases h
 rename_i s p ty hb;cases h
 have hblk:=cS.blk _ _ hb;obtain⟨n',cs,e1,hB,lc,Vd⟩:=g.au _ _ hblk;rw[hβ]at e1;cases e1;obtain⟨v0,v1,rfl⟩:∃v0 v1,cs=[v0,v1]:=by
  match cs,Vd with
  |[v0,v1],_=>exact⟨v0,v1,rfl⟩|[],h=>exact h.elim|[_],h=>exact h.2.elim|_::_::_::_,h=>exact h.2.2.elim
 obtain⟨qb,wj,_⟩:=Vd;have qb:v0= .string (s.ev c.ρ).str:=qb;have wj:v1= .int .i64 (p.ev c.ρ).int:=wj;subst qb wj;have Ye:w.heap[n]? =some (.stringIter (s.ev c.ρ).str (p.ev c.ρ).int.toNat):=by rw[lc];rfl
 have n1:=hn (di .le (.i 0) p) (.head _);have n2:=hn (di .le (jW .iN s) (.i 9223372036854775806)) (.tail _ (.head _));have n3:=hn (di .or (jW .not (di .lt p (jW .iN s))) (di .lt (di .qG s p) (.i 128))) (.tail _ (.tail _ (.head _)));rw[aR]at n1 n2 n3;rw[eJ]at n2 n3;rw[aR,aR,eJ]at n3;have n1:(0:Int)<=(p.ev c.ρ).int:=fv n1;have n2:((s.ev c.ρ).str.size:Int)<=9223372036854775806:=fv n2;have bi:((di .lt p (jW .iN s)).ev c.ρ).bool=decide ((p.ev c.ρ).int<((s.ev c.ρ).str.size:Int)):=by rw[aR,eJ];rfl
 have QY:(execOp a.eval o).run P w=((Instr.next (.pointer (some ⟨n,0,none⟩)) true o.type).run P w).andThen fun u w'=> .ok (.value u) w':=by simp only[execOp,ho,hv,Sem.run_bind];cases Sem.run P (Instr.next (.pointer (some ⟨n,0,none⟩)) true o.type) w<;>simp[Result.andThen]
 have hgo:(getObj n).run P w= .ok (.stringIter (s.ev c.ρ).str (p.ev c.ρ).int.toNat) w:=by simp[getObj,Sem.run,Ye]
 by_cases hc:(p.ev c.ρ).int<((s.ev c.ρ).str.size:Int)
 ·have alH:((s.ev c.ρ).str.get! (p.ev c.ρ).int.toNat).toNat<128:=by have hb:∀x y:Sc,(U2.or.ev x y).bool=(x.bool||y.bool):=fun _ _=>rfl;have hl:∀x y:Sc,(U2.lt.ev x y).bool=decide (x.int<y.int):=fun _ _=>rfl;have hnn:∀x:Sc,(U1.not.ev x).bool= !x.bool:=fun _=>rfl;have mi:∀x:Sc,(U1.iN.ev x).int=(x.str.size:Int):=fun _=>rfl;have hsi:∀x y:Sc,(U2.qG.ev x y).int=((x.str.data.toList.getD y.int.toNat 0).toNat:Int):=fun _ _=>rfl;have asq:((Ex.i 128).ev c.ρ).int=128:=rfl;rw[hb,hnn,hl,hl,mi,aR,hsi,asq,lP hc]at n3;simp only[Bool.not_true,Bool.false_or,ei]at n3;rw[<-Lib.getD_get!'];omega
  have X9:Utf8.decode (s.ev c.ρ).str (p.ev c.ρ).int.toNat=(((s.ev c.ρ).str.get! (p.ev c.ρ).int.toNat).toNat,1):=by unfold Utf8.decode;simp only[pA];rw[aA alH]
  have iQ:(p.ev c.ρ).int.toNat<(s.ev c.ρ).str.size:=by omega
  have Ag:(setObj n (.stringIter (s.ev c.ρ).str ((p.ev c.ρ).int.toNat+1))).run P w= .ok () {w with heap:=w.heap.setIfInBounds n (.stringIter (s.ev c.ρ).str ((p.ev c.ρ).int.toNat+1))}:=by simp[setObj,Sem.run,Ye]
  have dD:(execOp a.eval o).run P w= .ok (.value (.tuple #[.bool true,.int .i64 (p.ev c.ρ).int,.int .i32 (((s.ev c.ρ).str.get! (p.ev c.ρ).int.toNat).toNat:Int)])) {w with heap:=w.heap.setIfInBounds n (.stringIter (s.ev c.ρ).str ((p.ev c.ρ).int.toNat+1))}:=by rw[QY];have alI:(((p.ev c.ρ).int.toNat:Nat):Int)=(p.ev c.ρ).int:=toNat_of_nonneg n1;simp only[Instr.next,Sem.run_bind,hgo,Result.andThen_ok,iQ,qO,X9,Ag,goInt,alI,Sem.run_pure]
  have hp1:((xO .ite (di .lt p (jW .iN s)) (di (.add .i64) p (.i 1)) p).ev c.ρ).int=(p.ev c.ρ).int+1:=by rw[qE];show(if _ then _ else _:Sc).int=_;rw[aA (by rw[bi];simpa using hc),aR];exact rJ (by simp[Ex.ev];omega) (by simp[Ex.ev];omega)
  have xM:=(iX.1 lc).1;have gg:=g.store hblk hβ (cells:=[.str s,.int .i64 (xO .ite (di .lt p (jW .iN s)) (di (.add .i64) p (.i 1)) p)]) (cs:=[.string (s.ev c.ρ).str,.int .i64 ((p.ev c.ρ).int+1)]) ⟨rfl,by show _=_;rw[hp1],trivial⟩ (ty:=ty) (kd:=2)
   (w':={w with heap:=w.heap.setIfInBounds n (.stringIter (s.ev c.ρ).str ((p.ev c.ρ).int.toNat+1))})
   ⟨g.below.os,g.below.tape,g.below.output,by simpa using g.below.size,fun j hj hx=>by
     show(w.heap.setIfInBounds n _)[j]? =_;rw[xC (fun e'=>by
      subst e';rcases hB with h|h
      ·omega
      ·exact hx h)]
     exact g.below.block j hj hx⟩ (by simp) (by show(w.heap.setIfInBounds n _)[n]? =_;rw[Array.getElem?_setIfInBounds_self_of_lt xM];show some (Obj.stringIter _ _)=some (Obj.stringIter _ ((p.ev c.ρ).int+1).toNat);rw[toNat_add n1 (by omega)];rfl) (fun m hm=>xC (Ne.symm hm))
  refine⟨_,_,_,c,dD,.inl rfl,.refl c,fun _ _=>rfl,fun _ _=>rfl,?_,gg⟩;show _=_;rw[aA (by rw[bi];simpa using hc),aR];simp only[U2.ev,Sc.KQ,<-Lib.getD_get!']
 ·have iQ:¬(p.ev c.ρ).int.toNat<(s.ev c.ρ).str.size:=by omega
  have dD:(execOp a.eval o).run P w= .ok (.value (.tuple #[.bool false])) w:=by rw[QY];simp[Instr.next,hgo,iQ]
  have hp1:((xO .ite (di .lt p (jW .iN s)) (di (.add .i64) p (.i 1)) p).ev c.ρ).int=(p.ev c.ρ).int:=by rw[qE];show(if _ then _ else _:Sc).int=_;rw[aE (by rw[bi];simpa using hc)]
  have gg:=g.store hblk hβ (cells:=[.str s,.int .i64 (xO .ite (di .lt p (jW .iN s)) (di (.add .i64) p (.i 1)) p)]) (cs:=[.string (s.ev c.ρ).str,.int .i64 (p.ev c.ρ).int]) ⟨rfl,by show _=_;rw[hp1],trivial⟩ (ty:=ty) (kd:=2)
   (w':=w) g.below rfl lc (fun _ _=>rfl)
  refine⟨_,_,_,c,dD,.inl rfl,.refl c,fun _ _=>rfl,fun _ _=>rfl,?_,gg⟩;show _=_;rw[aE (by rw[bi];simpa using hc)]
def abt(iQ:oU P pl)(g:av P B w0 σ c a w)(cS:xz σ c a rd){r:dl}(Jk:∀i∈r.nb,c.β i=none)(gV:∀i∈r.nr,c.R i=none)(h:je P pl o rd=some r)(hn:∀e∈r.eZ,(e.ev c.ρ).bool=true):cd P B w0 σ c a w o r:=by
 have h':=h
 unfold je at h
 split at h
 case h_1 x ho=>cases h;exact cd.quiet g (by simp[execOp,ho]) (cS.ev x)
 case h_2 x ho=>cases h;exact cd.quiet g (by simp[execOp,ho]) (cS.ev x)
 case h_3 cx x y ho=>
  have hc:=cS.ev cx;split at h
  ·rename_i h1;rw[h1]at hc;cases h;have hc:a.eval cx= .bool true:=hc;exact cd.quiet g (by simp[execOp,ho,hc,asBool]) (cS.ev x)
  ·rename_i h1;rw[h1]at hc;cases h;have hc:a.eval cx= .bool false:=hc;exact cd.quiet g (by simp[execOp,ho,hc,asBool]) (cS.ev y)
  ·rename_i e _ _ h1;rw[h1]at hc;have hc:a.eval cx= .bool (e.ev c.ρ).bool:=hc;have hx:=cS.ev x;have hy:=cS.ev y;split at h
   ·rename_i p q h2 h3;cases h
    rw[h2]at hx;rw[h3]at hy;have hx:a.eval x= .bool (p.ev c.ρ).bool:=hx;have hy:a.eval y= .bool (q.ev c.ρ).bool:=hy;exact cd.quiet g (v:=if(e.ev c.ρ).bool=true then .bool (p.ev c.ρ).bool else .bool (q.ev c.ρ).bool) (by cases hb:(e.ev c.ρ).bool<;>simp[execOp,ho,hc,hb,asBool,hx,hy]) (by show _=_;rw[qE];cases hb:(e.ev c.ρ).bool<;>simp[U3.ev,hb])
   ·rename_i k p k' q h2 h3;split at h
    ·rename_i hk;cases h;subst hk
     rw[h2]at hx;rw[h3]at hy;have hx:a.eval x= .int k (p.ev c.ρ).int:=hx;have hy:a.eval y= .int k (q.ev c.ρ).int:=hy;exact cd.quiet g (v:=if(e.ev c.ρ).bool=true then .int k (p.ev c.ρ).int else .int k (q.ev c.ρ).int) (by cases hb:(e.ev c.ρ).bool<;>simp[execOp,ho,hc,hb,asBool,hx,hy]) (by show _=_;rw[qE];cases hb:(e.ev c.ρ).bool<;>simp[U3.ev,hb])
    ·cases h
   ·cases h
  ·cases h
 case h_4 ty ho=>
  split at h
  ·rename_i v hz;split at h
   ·rename_i cs nP;split at h
    ·rename_i hk;cases h
     obtain⟨z,ux,nQ⟩:=AL.1 hz;obtain⟨vs,hv,hr⟩:=nF nP hk (C4 (c:=c) nQ);exact WS g (Jk _ (by simp)) hr (by simp[execOp,ho,Instr.alloc,Jg ux,newVar,newRow,hv])
    ·cases h
   ·cases h
  ·cases h
 case h_5 ty x ho=>
  split at h
  ·rename_i cs nP;split at h
   ·rename_i hk;cases h
    obtain⟨vs,hv,hr⟩:=nF nP hk (cS.ev x);exact WS g (Jk _ (by simp)) hr (by simp[execOp,ho,Instr.box,newVar,newRow,hv])
   ·cases h
  ·cases h
 case h_6 ty x ho=>
  have hx:=cS.ev x;split at h
  ·rename_i p off h1;rw[h1]at hx;split at h
   ·rename_i k hk;split at h
    ·rename_i JQ;simp only[nW]at h;obtain⟨sv,hs,rfl⟩:=h;exact Ze g ho hx (cS.blk _ _ hk) JQ hs
    ·cases h
   ·cases h
  ·rename_i rr es ix off h1;rw[h1]at hx;split at h
   ·rename_i k hk;split at h
    ·rename_i hc;obtain⟨rfl,bT⟩:=hc;split at h
     ·rename_i JO;split at h
      ·rename_i hs;cases h
       exact Zf g ho hx (cS.row _ _ hk) JO bT hs gV
      ·cases h
     ·rename_i jx o' q JO;split at h
      ·rename_i hcc;cases h
       simp only[aL]at hcc;obtain⟨⟨⟨bj,hjx⟩,DP⟩,Cj⟩:=hcc;exact Vx g ho hx (cS.row _ _ hk) bT bj (by rw[JO,Ex.aG hjx,fh DP]) (QF Cj)
      ·cases h
    ·cases h
   ·cases h
  ·cases h
 case h_7 ty x y ho=>
  have hx:=cS.ev x;have hy:=cS.ev y;split at h
  ·rename_i p off xs hd h1 h2;rw[h1]at hx;split at h
   ·rename_i k n hk eT;split at h
    ·rename_i hc;obtain⟨JQ,rfl,JR⟩:=hc;simp only[nW]at h;obtain⟨cs,nP,rfl⟩:=h;exact aak g ho hx (cS.blk _ _ hk) JQ h2 JR hy eT nP
    ·cases h
   ·cases h
  ·rename_i rr es ix off xs hd h1 h2;rw[h1]at hx;split at h
   ·rename_i k n hk eT;split at h
    ·rename_i hc;simp only[aL]at hc;obtain⟨⟨⟨⟨⟨bj,JO⟩,Tg⟩,Mn⟩,bT⟩,JR⟩:=hc;have JO:=dF JO;have Tg:=fh Tg;have Mn:=fh Mn;subst Tg;subst Mn;split at h
     ·rename_i q hq;cases h
      exact Mp g cS.row ho hx (cS.row _ _ hk) bj JO bT eT h2 JR hy hq
     split at h
     ·rename_i e fr he;cases h
      exact Pv g cS.row ho hx (cS.row _ _ hk) bj JO bT eT h2 JR hy he
     ·cases h
    ·cases h
   ·cases h
  ·cases h
 case h_8 x ho=>
  have hx:=cS.ev x;split at h
  ·rename_i p off h1;cases h
   rw[h1]at hx;have OJ:=hx;obtain⟨n,_,hv⟩:=OJ;exact cd.quiet g (by simp[execOp,ho,hv]) (hv▸hx)
  ·rename_i f cs h1;cases h
   rw[h1]at hx;have OJ:=hx;obtain⟨n,_,hv⟩:=OJ;exact cd.quiet g (by simp[execOp,ho,hv]) (hv▸hx)
  ·rename_i f m b h1;cases h
   rw[h1]at hx;have OJ:=hx;obtain⟨n,_,hv⟩:=OJ;exact cd.quiet g (by simp[execOp,ho,hv]) (hv▸hx)
  ·cases h
 case h_9 op ty x y yt ho=>
  obtain⟨hr,v,hv,fp⟩:=RY (w:=w) iQ h (cS.ev x) (cS.ev y) hn x y;rw[hr];exact cd.quiet g (v:=v) (by
   have:(execOp a.eval o).run P w=((do eqGuard op ty x y (a.eval x) (a.eval y);binOp op ty (a.eval x) (a.eval y):Sem Value).run P w).andThen fun u w'=> .ok (.value u) w':=by simp only[execOp,ho,Sem.run_bind];cases Sem.run P (eqGuard op ty x y (a.eval x) (a.eval y)) w<;>simp[Result.andThen]
   rw[this,hv];rfl) fp
 case h_10 op ty x ho=>
  have hx:=cS.ev x;split at h
  ·rename_i k e h1;cases h;rw[h1]at hx
   have hx:a.eval x= .int k (e.ev c.ρ).int:=hx;exact cd.quiet g (by simp[execOp,ho,hx,Op.unary,Op.intArith];rfl) (by show _=_;rw[aR];simp[U2.ev,Ex.ev])
  ·rename_i k e h1;cases h;rw[h1]at hx
   have hx:a.eval x= .int k (e.ev c.ρ).int:=hx;exact cd.quiet g (by simp only[execOp,ho,hx,Op.unary,Op.intBits];rfl) (by show _=_;rw[aR];rfl)
  ·rename_i e h1;cases h;rw[h1]at hx
   have hx:a.eval x= .bool (e.ev c.ρ).bool:=hx;exact cd.quiet g (by simp[execOp,ho,hx,Op.unary];rfl) (by show _=_;rw[eJ];rfl)
  ·cases h
 case h_11 src dst x ho=>
  have hx:=cS.ev x;split at h
  ·rename_i d k k' e h1 h2 h3;cases h;rw[h3]at hx
   have hx:a.eval x= .int k' (e.ev c.ρ).int:=hx;exact cd.quiet g (by simp[execOp,ho,hx,convert,run_underlying h1,run_underlying h2,Conv.intToInt];rfl) (by show _=_;rw[eJ];rfl)
  ·rename_i d e h1 h2 h3;cases h;rw[h3]at hx
   have hx:a.eval x= .string (e.ev c.ρ).str:=hx;exact cd.quiet g (by simp[execOp,ho,hx,convert,run_underlying h1,run_underlying h2]) rfl
  ·rename_i el e h1 h2 h3;split at h;rotate_left
   ·cases h
   rename_i he;cases h;rw[h3]at hx
   have hx:a.eval x= .string (e.ev c.ρ).str:=hx;have gV:=gV rd.nr (by simp);have n1:=hn (di .le (.u .iN e) (.i (maxLen:Nat))) (by simp);rw[aR]at n1;have n1:((e.ev c.ρ).str.size:Int)<=(maxLen:Nat):=fv n1;generalize hs:(e.ev c.ρ).str=s at*;have dD:=run_bytes_of_string (P:=P) w src dst el s h1 h2 he;have hg:(w.drew.alloc (.cells (bytesRow s (grownCap w s.size 0 el)) el ((bytesRow s (grownCap w s.size 0 el)).size,(bytesRow s (grownCap w s.size 0 el)).size+1))).heap[w.heap.size]? =some (.cells (bytesRow s (grownCap w s.size 0 el)) el ((bytesRow s (grownCap w s.size 0 el)).size,(bytesRow s (grownCap w s.size 0 el)).size+1)):=by show(w.heap.push _)[w.heap.size]? =_;simp
   have hbl:(jC s).length=s.size:=by simp[jC]
   have gg:=g.newRow (w':=w.drew.alloc (.cells (bytesRow s (grownCap w s.size 0 el)) el ((bytesRow s (grownCap w s.size 0 el)).size,(bytesRow s (grownCap w s.size 0 el)).size+1))) ((g.below.drew).alloc g.hB _) (by simp) (fun n hn=>Below.heap_alloc w.drew _ n hn) gV
    (k:=⟨el,[.int .u8],false,jW .bytes e,false,none⟩) rfl (D:=jC s) (ad:=some ⟨w.heap.size,0,none⟩) (n:=s.size) (cap:=grownCap w s.size 0 el)
    ?_ hbl (grownCap_ge w s.size 0 el) (grownCap_le_maxLen w s.size 0 el (by omega)) (fun h=>by cases h) (fun _ j u hj=>⟨w.heap.size,0,rfl,?_,⟨fun z hz=> ?_,.inl g.hB⟩⟩) (fun z hz=>Hq _ (fun _ h=>by cases h) z)
   ·refine⟨.value (.slice (some ⟨w.heap.size,0,none⟩) s.size (grownCap w s.size 0 el)),_,.slice (some ⟨w.heap.size,0,none⟩) s.size (grownCap w s.size 0 el),{c with R:=fun i=>if i=rd.nr then some (.slice (some ⟨w.heap.size,0,none⟩) s.size (grownCap w s.size 0 el))else c.R i},by simp[execOp,ho,hx,dD],.inl rfl,⟨rfl,rfl,fun _ _ e=>e,fun i u e=> ?_⟩,fun _ _=>rfl,fun i hi=>by simp at hi;simp[hi],⟨by simp,_,_,_,rfl⟩,gg⟩;by_cases h:i=rd.nr
    ·subst h;rw[gV]at e;cases e
    ·simp[h,e]
   ·rw[eJ];show(Sc.l (jC (e.ev c.ρ).str)).er=_;rw[hs,gh]
   ·rw[A7]at hj;simp only[World.cell?,hg,eG];unfold Lib.strCells at hj;have hjl:=(kK.1 hj).1;have hjs:j<s.size:=by simpa using hjl
    simp[bytesRow,Array.getElem?_append]at hj⊢;rw[aA hjs];simpa using hj
   ·have:=(g.iF hz).2;omega
  ·cases h
 case h_12 ty x f ho=>
  have hx:=cS.ev x;split at h
  ·rename_i fd p off h1 h2;split at h
   ·rename_i m eT;cases h;rw[h2]at hx
    obtain⟨fs,hu,hf⟩:=yo h1;obtain⟨n,hb,hv⟩:=hx;exact cd.quiet g (v:= .pointer (some ((⟨n,off,none⟩:Addr).add fd.offset))) (by simp[execOp,ho,Instr.fieldAt,run_underlying hu,hf,hv,Instr.sureAddr,fieldPlace,cj eT]) ⟨n,hb,by rw[add_lit]⟩
   ·cases h
  ·rename_i fd rr es ix off h1 h2;split at h
   ·rename_i m eT;cases h;rw[h2]at hx
    obtain⟨fs,hu,hf⟩:=yo h1;obtain⟨n,q,len,cap,e1,e2,e3,hv⟩:=hx;exact cd.quiet g (v:= .pointer (some ((⟨n,q+(ix.ev c.ρ).int.toNat*es+off,none⟩:Addr).add fd.offset))) (by simp[execOp,ho,Instr.fieldAt,run_underlying hu,hf,hv,Instr.sureAddr,fieldPlace,cj eT]) ⟨n,q,len,cap,e1,e2,e3,by rw[add_lit,td]⟩
   ·cases h
  ·cases h
 case h_13 ty x f ho=>
  have hx:=cS.ev x;split at h
  ·rename_i fd cs h1 h2;simp only[nW]at h;obtain⟨sv,hs,rfl⟩:=h;rw[h2]at hx;obtain⟨vs,hv,hr⟩:=hx;obtain⟨fs,hu,hf⟩:=yo h1;obtain⟨v,dD,fp⟩:=CM hs hr w;exact cd.quiet g (v:=v) (by simp[execOp,ho,Instr.field,run_underlying hu,hf,hv,asAgg,dD]) fp
  ·cases h
 case h_14 ty x i ho=>exact YN g cS ho h' hn
 case h_15 ty x i ho=>
  have hx:=cS.ev x;have hi:=cS.ev i;split at h
  ·rename_i len el k z cs h1 h2 h3;rw[h2]at hi;rw[h3]at hx;have hi:a.eval i= .int k z:=hi;obtain⟨vs,hv,hr⟩:=hx;split at h
   ·rename_i n eT;split at h
    ·rename_i hz;simp only[nW]at h;obtain⟨sv,hs,rfl⟩:=h;obtain⟨v,dD,fp⟩:=CM hs hr w;exact cd.quiet g (v:=v) (by simp[execOp,ho,Instr.index,asIntOf,hi,run_underlying h1,hv,hz,cj eT,dD]) fp
    ·cases h
   ·cases h
  ·rename_i k e s h1 h2 h3;cases h
   rw[h2]at hi;rw[h3]at hx;have hi:a.eval i= .int k (e.ev c.ρ).int:=hi;have hx:a.eval x= .string (s.ev c.ρ).str:=hx;have n1:=hn (di .le (.i 0) e) (by simp);have n2:=hn (di .lt e (jW .iN s)) (by simp);rw[aR]at n1 n2;rw[eJ]at n2;have n1:(0:Int)<=(e.ev c.ρ).int:=fv n1;have n2:(e.ev c.ρ).int<((s.ev c.ρ).str.size:Int):=fv n2;have bi:(e.ev c.ρ).int.toNat<(s.ev c.ρ).str.size:=by omega
   have QY:(s.ev c.ρ).str[(e.ev c.ρ).int.toNat]? =some ((s.ev c.ρ).str[(e.ev c.ρ).int.toNat]' bi):=by simp[bi]
   exact cd.quiet g (v:= .int .u8 ((s.ev c.ρ).str[(e.ev c.ρ).int.toNat]' bi).toNat) (by simp[execOp,ho,Instr.index,asIntOf,hi,run_underlying h1,hx,n1,QY]) (by
    show _=_;rw[aR];simp only[U2.ev,Sc.KQ];congr 2;have:(s.ev c.ρ).str.data.toList.length=(s.ev c.ρ).str.size:=by simp
    rw[cE,cB (by omega)];simp;rfl)
  ·cases h
 case h_16 x i ho=>
  have hx:=cS.ev x;split at h
  ·rename_i xs h1;simp only[nW]at h;obtain⟨s,hs,rfl⟩:=h;rw[h1]at hx;obtain⟨vs,hv,hr⟩:=hx;obtain⟨v,hg,fp⟩:=CY hr hs;exact cd.quiet g (v:=v) (by simp[execOp,ho,Instr.extract,hv,hg]) fp
  ·rename_i e p ch h1;rw[h1]at hx;have hx:a.eval x=if(e.ev c.ρ).bool=true then .tuple #[.bool true,.int .i64 (p.ev c.ρ).int,.int .i32 (ch.ev c.ρ).int]else .tuple #[.bool false]:=hx
   split at h
   ·cases h
    refine cd.quiet g (v:= .bool (e.ev c.ρ).bool) ?_ rfl;cases hb:(e.ev c.ρ).bool<;>rw[hb]at hx<;>simp[execOp,ho,Instr.extract,hx]
   ·cases h
    have he:=hn e (by simp);rw[aA he]at hx;exact cd.quiet g (v:= .int .i64 (p.ev c.ρ).int) (by simp[execOp,ho,Instr.extract,hx]) rfl
   ·cases h
    have he:=hn e (by simp);rw[aA he]at hx;exact cd.quiet g (v:= .int .i32 (ch.ev c.ρ).int) (by simp[execOp,ho,Instr.extract,hx]) rfl
   ·cases h
  ·cases h
 case h_17 ty ho=>
  split at h
  ·rename_i n key hm;cases h
   have Jk:=Jk rd.nb (by simp);have hle:c.le {c with β:=fun i=>if i=rd.nb then some w.heap.size else c.β i}:=⟨rfl,rfl,fun i n e=>by
    by_cases h:i=rd.nb
    ·subst h;rw[Jk]at e;cases e
    ·simp[h,e],fun _ _ e=>e⟩
   have gg:=g.alloc Jk (k:=⟨[.keys n .nil],ty,1⟩) (cs:=[.tuple #[]]) ⟨rfl,trivial⟩;exact⟨_,_,.map (some w.heap.size),_,by simp[execOp,ho,Instr.makeMap,np,eY,iA],.inl rfl,hle,fun i hi=>by simp at hi;simp[hi],fun _ _=>rfl,⟨_,by simp,rfl⟩,gg⟩
  ·cases h
 case h_18 ty x k ok ho=>
  split at h
  ·rename_i n key hm;split at h
   ·rename_i b e q h1 h2;cases h
    obtain⟨elem,hu,hk,hz⟩:=O7 hm;obtain⟨_,r,hv,_,_,hb⟩:=Ih g cS h1 (cS.ev x);have hq:=KU h2 (cS.ev k);have dD:=RH hu hk hz hb (q.ev c.ρ) ok;have mf:((di (.mem n) e q).ev c.ρ)= .b ((e.ev c.ρ).list.any fun k=>ef n k (q.ev c.ρ)):=by rw[aR];rfl
    cases ok
    ·exact cd.quiet g (v:= .bool ((e.ev c.ρ).list.any fun k=>ef n k (q.ev c.ρ))) (by simp[execOp,ho,hv,hq,dD]) (by show _=_;rw[mf];rfl)
    ·exact cd.quiet g (v:= .tuple #[.bool ((e.ev c.ρ).list.any fun k=>ef n k (q.ev c.ρ)),.bool ((e.ev c.ρ).list.any fun k=>ef n k (q.ev c.ρ))]) (by simp[execOp,ho,hv,hq,dD]) (by
      refine⟨_,rfl,?_,?_,trivial⟩
      ·show _=_;rw[mf];rfl
      ·show _=_;rw[mf];rfl)
   ·cases h
  ·cases h
 case h_19 ty x k v ho=>
  split at h
  ·rename_i n key hd hm hvv;split at h
   ·rename_i b e q h1 h2;cases h
    obtain⟨elem,hu,hk,hz⟩:=O7 hm;obtain⟨hblk,r,hv,hβ,hBr,hb⟩:=Ih g cS h1 (cS.ev x);have hq:=KU h2 (cS.ev k);have hval:=cS.ev v;rw[hvv]at hval;have hval:a.eval v= .bool true:=hval;have dD:=RI hu hk hb (q.ev c.ρ);have mf:((di (.BS n) e q).ev c.ρ)= .l (if((e.ev c.ρ).list.any fun k=>ef n k (q.ev c.ρ))=true then(e.ev c.ρ).list else(e.ev c.ρ).list++[q.ev c.ρ]):=by rw[aR];rfl
    have bi:=(iX.1 hb).1;have gg:=g.store (k:=⟨[.keys n e],ty,1⟩) hblk hβ (cells:=[.keys n (di (.BS n) e q)]) (cs:=[.tuple ((if((e.ev c.ρ).list.any fun k=>ef n k (q.ev c.ρ))=true then(e.ev c.ρ).list else(e.ev c.ρ).list++[q.ev c.ρ]).map (gp n)).toArray]) (by
     refine⟨?_,trivial⟩;show _=_;rw[mf];rfl) (ty:=ty) (kd:=1)
     (w':={w with heap:=w.heap.setIfInBounds r (.map (eY ((if((e.ev c.ρ).list.any fun k=>ef n k (q.ev c.ρ))=true then(e.ev c.ρ).list else(e.ev c.ρ).list++[q.ev c.ρ]).map (gp n))) (if((e.ev c.ρ).list.any fun k=>ef n k (q.ev c.ρ))=true then(e.ev c.ρ).list else(e.ev c.ρ).list++[q.ev c.ρ]).length)})
     ⟨g.below.os,g.below.tape,g.below.output,by simpa using g.below.size,fun j hj hx=>by
       show(w.heap.setIfInBounds r _)[j]? =_;rw[xC (fun e'=>by
        subst e';rcases hBr with h|h
        ·omega
        ·exact hx h)]
       exact g.below.block j hj hx⟩ (by simp) (by show(w.heap.setIfInBounds r _)[r]? =_;rw[Array.getElem?_setIfInBounds_self_of_lt bi];simp[np]) (fun m hm=>xC (Ne.symm hm))
    exact⟨.skip,_,undef,c,by simp[execOp,ho,hv,hq,hval,dD],.inr ⟨rfl,rfl⟩,.refl c,fun _ _=>rfl,fun _ _=>rfl,⟨[],rfl,trivial⟩,gg⟩
   ·cases h
  ·cases h
 case h_20 ty x ho=>
  split at h
  ·rename_i e hu hx;cases h
   have Bf:=cS.ev x;rw[hx]at Bf;have Bf:a.eval x= .string (e.ev c.ρ).str:=Bf;have Jk:=Jk rd.nb (by simp);have hle:c.le {c with β:=fun i=>if i=rd.nb then some w.heap.size else c.β i}:=⟨rfl,rfl,fun i n e=>by
    by_cases h:i=rd.nb
    ·subst h;rw[Jk]at e;cases e
    ·simp[h,e],fun _ _ e=>e⟩
   have gg:=g.alloc Jk (k:=⟨[.str e,.int .i64 (.i 0)],ty,2⟩) (cs:=[.string (e.ev c.ρ).str,.int .i64 0]) ⟨rfl,rfl,trivial⟩;exact⟨_,_,.pointer (some ⟨w.heap.size,0,none⟩),_,by simp[execOp,ho,Instr.range,run_underlying hu,Bf,np],.inl rfl,hle,fun i hi=>by simp at hi;simp[hi],fun _ _=>rfl,⟨_,by simp,rfl⟩,gg⟩
  ·cases h
 case h_21 x ho=>exact acF g cS ho h' hn
 case h_22 ty parts ho=>exact WT g cS ho h'
 case h_23 ty len parts ho=>exact Jt g cS ho Jk gV h'
 case h_24 ty x lo hi mx ho=>exact aad g cS ho gV h' hn
 case h_25 f first mE ho=>
  split at h
  ·rename_i bs hf hb;cases h
   obtain⟨ns,e1,e2⟩:=MS (c:=c) (vs:=mE.toList.map a.eval) hb (by simp) (fun i q1 q2=>by simpa using cS.ev _);have Be:first= #[]:=by rw[<-Ek (xs:=first),hf]
   have SZ:mE.map a.eval=(ns.map fun n=>Value.pointer (some ⟨n,0,none⟩)).toArray:=by rw[<-e2];apply Array.ext';simp
   exact cd.quiet g (v:= .func (.func f) #[] (ns.map fun n=>Value.pointer (some ⟨n,0,none⟩)).toArray) (by simp[execOp,ho,Instr.makeFunc,Be,SZ]) ⟨ns,e1,rfl⟩
  ·rename_i x hf hb;obtain⟨ns,e1,e2⟩:=MS (c:=c) (vs:=mE.toList.map a.eval) hb (by simp) (fun i q1 q2=>by simpa using cS.ev _);have Be:first= #[x]:=by rw[<-Ek (xs:=first),hf]
   have Jl:ns=[]:=by cases ns with|nil=>rfl|cons=>simp at e1
   subst Jl;have SZ:mE.map a.eval= #[]:=by
    have:(mE.map a.eval).toList=[]:=by rw[Array.toList_map,e2];rfl
    rw[<-Ek (xs:=mE.map a.eval),this]
   have hx:=cS.ev x;split at h
   ·rename_i b h1;cases h
    rw[h1]at hx;obtain⟨n,Wn,hv⟩:=hx;exact cd.quiet g (v:= .func (.func f) #[.pointer (some ⟨n,0,none⟩)] #[]) (by simp[execOp,ho,Instr.makeFunc,Be,SZ,hv]) ⟨n,Wn,rfl⟩
   ·rename_i b h1;cases h
    rw[h1]at hx;obtain⟨n,Wn,hv⟩:=hx;exact cd.quiet g (v:= .func (.func f) #[.map (some n)] #[]) (by simp[execOp,ho,Instr.makeFunc,Be,SZ,hv]) ⟨n,Wn,rfl⟩
   ·cases h
  ·cases h
 case h_26 ty x y ho=>exact ME g cS ho gV h' hn
 case h_27 ty x ho=>
  split at h
  ·rename_i cs h0 h1;cases h
   have hx:=cS.ev x;rw[h1]at hx;obtain⟨vs,hv,hr⟩:=hx;refine cd.quiet g (v:= .iface ty (.agg vs.toArray)) ?_ ⟨vs,rfl,hr⟩;unfold i9 at h0;split at h0
   ·rename_i fs hu;simp[execOp,ho,Instr.makeInterface,run_underlying hu,hv]
   ·rename_i n e hu;simp[execOp,ho,Instr.makeInterface,run_underlying hu,hv]
   ·cases h0
   ·cases h0
  ·cases h
 case h_28 x xt as ho=>
  split at h
  ·rename_i t cs h0 hz h1;have hx:=cS.ev x;rw[h1]at hx;obtain⟨vs,hv,hr⟩:=hx;obtain⟨z,hz⟩:=uh.1 hz;have hz:=Jg hz w;split at h
   ·rename_i ht;subst ht;cases h
    refine cd.quiet g (v:= .tuple #[.agg vs.toArray,.bool true]) ?_ ⟨[.agg vs.toArray,.bool true],rfl,⟨vs,rfl,hr⟩,rfl,trivial⟩;unfold i9 at h0;split at h0
    ·rename_i fs hu;simp[execOp,ho,Instr.typeAssert,run_underlying hu,hv]
    ·rename_i n e hu;simp[execOp,ho,Instr.typeAssert,run_underlying hu,hv]
    ·cases h0
    ·cases h0
   ·rename_i ht;cases h
    refine cd.quiet g (v:= .tuple #[z,.bool false]) ?_ ⟨[z,.bool false],rfl,trivial,rfl,trivial⟩;unfold i9 at h0;split at h0
    ·rename_i fs hu;simp[execOp,ho,Instr.typeAssert,run_underlying hu,hv,ht,hz]
    ·rename_i n e hu;simp[execOp,ho,Instr.typeAssert,run_underlying hu,hv,ht,hz]
    ·cases h0
    ·cases h0
  ·cases h
 case h_29=>cases h
def RZ{gl:List Wd}{q:Nat}{ty:TypeId}{rd:Rd}{r:dl}(h:PJ P gl q ty rd=some r):r.call=none:=by
 unfold PJ at h;split at h
 ·split at h
  ·split at h
   ·cases h;rfl
   ·cases h
  ·cases h
 ·cases h
def UY{w:World}{ok:dg}{ks:jj}(h:QG ks=true){agg:Bool}(x:Sc):dR P w ok agg ks x:=fun i k hk=>by
 unfold QG at h;have:=lO.1 h k (d9 hk);cases k with
 |int k=>exact .int k _|bool=>exact .bool _|str=>exact .str _|sl el=>cases this
def alp{gl:List Wd}(hgl:∀x∈gl,XP P B.lim w x)(g:av P B w0 σ c a w){q:Nat}{ty:TypeId}(ho:o.op= .load ty (.global q)){r:dl}(gV:∀i∈r.nr,c.R i=none)(h:PJ P gl q ty rd=some r):cd P B w0 σ c a w o r:=by
 unfold PJ at h;split at h
 ·rename_i x hx Cj;split at h
  ·rename_i agg ks hT;split at h
   ·rename_i ut;cases h
    unfold XO at hx;have hm:=mem_of_find?_eq_some hx;have hp:=find?_some hx;simp only[aL]at hp;have hg:=fh hp.1;obtain⟨D,ad,n,cap,h1,h2,h3,h4,h5,h6⟩:=hgl x hm;rw[hg]at h5;obtain⟨c',d1,d2,d3,d4,d5⟩:=ID g (ok:=B.lim) (fun p hp=>⟨fun y hy=>by
     rcases(g.iF hy).1 with h|h
     ·have:=B.hn p hp;omega
     ·exact B.hX p h hp,.inr (.inl (.inr hp))⟩) (e:=x.e) (nr:=rd.nr) (el:=x.el) (h1 c.ρ) h2 h3 h4 (h6 agg ks hT) (fun y _=>UY ut y) (gV rd.nr (by simp))
    have dD:(loadVar ty ⟨q,0,none⟩).run P w= .ok (.slice ad n cap) w:=by simp[loadVar,jd Cj,load,Sem.run,h5]
    exact⟨_,w,.slice ad n cap,c',by simp[execOp,ho,Instr.loadAt,Act.eval,Instr.sureAddr,dD],.inl rfl,d5.le,fun _ _=>by rw[d1],fun i hi=>d2 i (fun e=>hi (by simp[e])),d3,d4⟩
   ·cases h
  ·cases h
 ·cases h
def aeU{gl:List Wd}(hgl:∀x∈gl,XP P B.lim w x)(iQ:oU P pl){cons:ug}(g:av P B w0 σ c a w)(cS:xz σ c a rd){r:dl}(Jk:∀i∈r.nb,c.β i=none)(gV:∀i∈r.nr,c.R i=none)(h:PL P gl pl cons o rd=some r)(cC:r.call=none)(hn:∀e∈r.eZ,(e.ev c.ρ).bool=true):cd P B w0 σ c a w o r:=by
 unfold PL at h
 split at h
 ·rename_i cl ho;exact Qm g cS ho gV h cC hn
 ·rename_i ty q ho;exact alp hgl g ho gV h
 ·split at h
  ·rename_i r' hr;split at h
   ·cases h;exact abt iQ g cS Jk gV hr hn
   ·cases h
  ·cases h
end
def fe(P:Program)(w:World)(ok:dg):Nv->aW->ab->Prop
 |[],[],[]=>True|s::ss,v::vs,x::xs=>jk P w ok s v x/\fe P w ok ss vs xs|_,_,_=>False
def yd(P:Program)(w:World)(ok:dg):CS->Value->ab->Prop
 | .a s,v,l=>∃x,l=[x]/\jk P w ok s v x| .g ss,v,l=>∃vs,v= .agg vs.toArray/\fe P w ok ss vs l| .p _ _,_,_=>False| .f _ _,_,_=>False| .w _ _,_,_=>False
def sd(P:Program)(w:World)(ok:dg):sX->aW->ab->Prop
 |[],[],l=>l=[]|s::ss,v::vs,l=>∃l1 l2,l=l1++l2/\yd P w ok s v l1/\sd P w ok ss vs l2|_,_,_=>False
def ja(P:Program)(w:World)(ok:dg)(el:TypeId)(v:Value)(x:Sc):Prop:=
 ∃agg ks D ad n cap,eC P el=some (agg,ks)/\bF agg ks=true/\v= .slice ad n cap/\x.er= .l (dP D)/\D.length=n/\n<=cap/\cap<=maxLen/\(cap=0\/w.ownsRow 0 el ks.length v n (ag agg ks D))/\∀x∈D,dR P w ok agg ks x
def jB(P:Program)(w:World)(ok:dg)(n:Nat):m7->aW->aW->ab->aW->ab->Prop
 |[],[],[],xs,us,ys=>xs=[]/\us=[]/\ys=[]| .rd _::ss,v0::Ef,v::vs,xs,us,ys=>v=v0/\jB P w ok n ss Ef vs xs us ys| .fq::ss,v0::Ef,v::vs,xs,us,ys=>v=v0/\jB P w ok n ss Ef vs xs us ys| .ck k::ss,_::Ef,v::vs,xs,us,ys=>∃y Gw,ys=y::Gw/\jk P w ok (.ck k) v y/\jB P w ok n ss Ef vs xs us Gw| .own el::ss,_::Ef,v::vs,xs,us,ys=>∃x Se jO,xs=x::Se/\us=v::jO/\ja P w ok el v x/\jB P w ok n ss Ef vs Se jO ys| .sp::ss,_::Ef,v::vs,xs,us,ys=>(v= .pointer none\/v= .pointer (some ⟨n,0,none⟩))/\jB P w ok n ss Ef vs xs us ys|_,_,_,_,_,_=>False
def vD(P:Program)(w:World)(ok:dg):RS->Value->ab->aW->ab->Prop
 | .c s,v,xs,us,l=>xs=[]/\us=[]/\yd P w ok s v l| .t ss,v,xs,us,l=>xs=[]/\us=[]/\∃vs,v= .tuple vs.toArray/\sd P w ok ss vs l| .o el,v,xs,us,l=>l=[]/\∃x,xs=[x]/\us=[v]/\ja P w ok el v x| .ot el ss,v,xs,us,l=>∃x u vs,xs=[x]/\us=[u]/\v= .tuple (u::vs).toArray/\ja P w ok el u x/\sd P w ok ss vs l| .al ss _,v,xs,us,l=>acI ss=true/\∃Ef vs,v= .agg vs.toArray/\jB P w ok 0 ss Ef vs xs us l
def Dm:m7->bH->aW->aW->Prop
 | .fq::ss,j::js,cs,v::vs=>(∀u,cs[j]? =some u->v=u)/\Dm ss js cs vs|_::ss,_::js,cs,_::vs=>Dm ss js cs vs|_,_,_,_=>True
def WG(res:RS)(w:World)(ns:bH)(v:Value):Prop:=
 match res with
 | .al ss js=>∀n,ns.head? =some n->∀cs ty,w.heap[n]? =some (.cells cs.toArray ty (0,0))->∀vs,v= .agg vs.toArray->Dm ss js cs vs|_=>True
def CS.len:CS->Nat| .a _=>1| .g ss=>ss.length|_=>0
def WN(P:Program)(w:World)(ok:dg):CS->Value->ab->bH->Prop
 | .a s,v,l,ns=>ns=[]/\yd P w ok (.a s) v l| .g ss,v,l,ns=>ns=[]/\yd P w ok (.g ss) v l| .p _ _,v,l,ns=>l=[]/\∃n,ns=[n]/\v= .pointer (some ⟨n,0,none⟩)| .f g ls,v,l,ns=>l=[]/\ns.length=ls.length/\v= .func (.func g) #[] (ns.map fun n=>Value.pointer (some ⟨n,0,none⟩)).toArray| .w _ _,_,l,ns=>l=[]/\ns=[]
def aph(P:Program)(w:World)(ok:dg):CS->Value->ab->aW->Prop
 | .w el _,v,X,U=>∃x,X=[x]/\U=[v]/\ja P w ok el v x|_,_,X,U=>X=[]/\U=[]
def Dd(P:Program)(w:World)(ok:dg):sX->aW->ab->aW->Prop
 |[],[],X,U=>X=[]/\U=[]|s::ss,v::vs,X,U=>∃X1 U1 X2 U2,X=X1++X2/\U=U1++U2/\aph P w ok s v X1 U1/\Dd P w ok ss vs X2 U2|_,_,_,_=>False
def afX(P:Program)(w:World)(ok:dg):CS->Value->ab->aW->Prop
 | .w el true,v,X,U=>∃x,X=[x]/\U=[v]/\ja P w ok el v x|_,_,X,U=>X=[]/\U=[]
def nN(P:Program)(w:World)(ok:dg):sX->aW->ab->aW->Prop
 |[],[],X,U=>X=[]/\U=[]|s::ss,v::vs,X,U=>∃X1 U1 X2 U2,X=X1++X2/\U=U1++U2/\afX P w ok s v X1 U1/\nN P w ok ss vs X2 U2|_,_,_,_=>False
def qj(P:Program)(w:World)(ok:dg):sX->aW->ab->bH->Prop
 |[],[],l,ns=>l=[]/\ns=[]|s::ss,v::vs,l,ns=>∃l1 l2 n1 n2,l=l1++l2/\ns=n1++n2/\WN P w ok s v l1 n1/\qj P w ok ss vs l2 n2|_,_,_,_=>False
def Ao(P:Program)(w:World)(ok:dg)(n:Nat):m7->aW->ab->aW->ab->Prop
 |[],[],xs,us,ys=>xs=[]/\us=[]/\ys=[]| .rd k::ss,v::vs,xs,us,ys=>∃y Gw,ys=y::Gw/\jk P w ok (.ck k) v y/\Ao P w ok n ss vs xs us Gw| .ck k::ss,v::vs,xs,us,ys=>∃y Gw,ys=y::Gw/\jk P w ok (.ck k) v y/\Ao P w ok n ss vs xs us Gw| .own el::ss,v::vs,xs,us,ys=>∃x Se jO,xs=x::Se/\us=v::jO/\ja P w ok el v x/\Ao P w ok n ss vs Se jO ys| .sp::ss,v::vs,xs,us,ys=>(v= .pointer none\/v= .pointer (some ⟨n,0,none⟩))/\Ao P w ok n ss vs xs us ys| .fq::ss,v::vs,xs,us,ys=>(∃ad m cap,v= .slice ad m cap)/\Ao P w ok n ss vs xs us ys|_,_,_,_,_=>False
def GW(P:Program)(w:World)(ok:dg):List (TypeId×m7)->bH->ab->aW->ab->Prop
 |[],[],xs,us,ys=>xs=[]/\us=[]/\ys=[]|(ty,ss)::ls,n::ns,xs,us,ys=>∃cs x1 x2 u1 u2 y1 y2,xs=x1++x2/\us=u1++u2/\ys=y1++y2/\w.heap[n]? =some (.cells cs.toArray ty (0,0))/\Ao P w ok n ss cs x1 u1 y1/\GW P w ok ls ns x2 u2 y2|_,_,_,_,_=>False
def me(P:Program)(w0 w:World)(ok:dg):List (TypeId×m7)->bH->ab->aW->ab->Prop
 |[],[],xs,us,ys=>xs=[]/\us=[]/\ys=[]|(ty,ss)::ls,n::ns,xs,us,ys=>∃Jh cs x1 x2 u1 u2 y1 y2,xs=x1++x2/\us=u1++u2/\ys=y1++y2/\w0.heap[n]? =some (.cells Jh.toArray ty (0,0))/\w.heap[n]? =some (.cells cs.toArray ty (0,0))/\jB P w ok n ss Jh cs x1 u1 y1/\me P w0 w ok ls ns x2 u2 y2|_,_,_,_,_=>False
def Gz(P:Program)(f:FuncId)(vs:Array Value)(w:World)(R:Value->World->Prop):Prop:=
 ((callFunc f vs).run P w= .ok (.enter f vs) w/\Calls P f vs w fun e w'=>∃v,e= .returned v/\R v w')\/∃v w',(callFunc f vs).run P w= .ok (.value v) w'/\R v w'
class ol(P:Program) where
 gl:List Wd
 G:dg->World->Prop
 size:∀S w,G S w->∀p,S p->p<w.heap.size
 fq:∀S w w' X,G S w->(∀p,X p->¬S p)->f8 w.heap.size X w w'->G S w'
 tab:∀S w,G S w->∀x∈gl,XP P S w x
def Ww(s:Nat)(ok:dg)(o o':bH)(p:Nat):Prop:=(s<=p\/ok p\/p∈o)/\p∉o'
def bC(ns:bH)(us:aW):bH:=ns++us.filterMap aO
def tr.F6(P:Program)(bd:tr)(F:dK)(lim:dg)(w:World):Prop:=
 ∀(ok:dg)(vs:aW)(ns:bH)(xs xw:ab)(us uw:aW)(ys l rs:ab),qj P w ok bd.args vs l ns->GW P w ok (bf bd.args) ns xs us ys->Dd P w ok bd.args vs xw uw->(bC ns (us++uw)).Nodup->(∀p,lim p->ok p)->(∀p∈bC ns (us++uw),p<w.heap.size/\¬ok p)->F (xs++xw++ys++l)=some rs->
  Gz P bd.f vs.toArray w fun v w'=>f8 w.heap.size (·∈bC ns (us++uw)) w w'/\∃x1 xb x2 r Gw u1 ub u2,rs=x1++xb++x2++(r++Gw)/\(bC ns (u1++ub++u2)).Nodup/\(∀p∈bC ns (u1++ub++u2),p∈bC ns (us++uw)\/w.heap.size<=p)/\me P w w' (Ww w.heap.size ok (bC ns (us++uw)) (bC ns (u1++ub++u2))) (bf bd.args) ns x1 u1 Gw/\nN P w' (Ww w.heap.size ok (bC ns (us++uw)) (bC ns (u1++ub++u2))) bd.args vs xb ub/\vD P w' (Ww w.heap.size ok (bC ns (us++uw)) (bC ns (u1++ub++u2))) bd.res v x2 u2 r/\WG bd.res w ns v
def tr.holds(P:Program)[ol P](bd:tr)(F:dK):Prop:=∀(S:dg)(w:World),ol.G P S w->bd.F6 P F S w
section
variable{P:Program}
def Er{w w':World}{ok ok':dg}(h:∀p o u,ok p->w.cell? ⟨p,o,none⟩=some u->ok' p/\w'.cell? ⟨p,o,none⟩=some u):∀{s:Nv}{v:aW}{x:ab},fe P w ok s v x->fe P w' ok' s v x
 |[],[],[],_=>trivial|_::_,_::_,_::_,hr=>⟨vX h hr.1,Er h hr.2⟩|[],[],_::_,hr=>hr.elim|[],_::_,_,hr=>hr.elim|_::_,[],_,hr=>hr.elim|_::_,_::_,[],hr=>hr.elim
def G7{w w':World}{ok ok':dg}(h:∀p o u,ok p->w.cell? ⟨p,o,none⟩=some u->ok' p/\w'.cell? ⟨p,o,none⟩=some u){s:CS}{v:Value}{x:ab}(hr:yd P w ok s v x):yd P w' ok' s v x:=by
 cases s with
 |a s=>obtain⟨y,e,r⟩:=hr;exact⟨y,e,vX h r⟩
 |g ss=>obtain⟨y,e,r⟩:=hr;exact⟨y,e,Er h r⟩
 |p _ _=>exact hr|f _ _=>exact hr|w _ _=>exact hr
def yh{w w':World}{ok ok':dg}(h:∀p o u,ok p->w.cell? ⟨p,o,none⟩=some u->ok' p/\w'.cell? ⟨p,o,none⟩=some u):∀{s:sX}{v:aW}{x:ab},sd P w ok s v x->sd P w' ok' s v x
 |[],[],_,hr=>hr|_::_,_::_,_,⟨l1,l2,e,r1,r2⟩=>⟨l1,l2,e,G7 h r1,yh h r2⟩|[],_::_,_,hr=>hr.elim|_::_,[],_,hr=>hr.elim
def vW{w:World}{ok:dg}:∀{s:Nv}{v:aW}{x:ab},fe P w ok s v x->x.length=s.length
 |[],[],[],_=>rfl|_::_,_::_,_::_,hr=>by simp[vW hr.2]
 |[],[],_::_,hr=>hr.elim|[],_::_,_,hr=>hr.elim|_::_,[],_,hr=>hr.elim|_::_,_::_,[],hr=>hr.elim
def oA{w:World}{ok:dg}{s:CS}{v:Value}{l:ab}(hr:yd P w ok s v l):l.length=s.len:=by
 cases s with
 |a s=>obtain⟨y,rfl,r⟩:=hr;rfl
 |g ss=>obtain⟨y,e,r⟩:=hr;exact vW r
 |p _ _=>exact hr.elim|f _ _=>exact hr.elim|w _ _=>exact hr.elim
def ki{w w':World}{ok ok':dg}(h:∀p o u,ok p->w.cell? ⟨p,o,none⟩=some u->ok' p/\w'.cell? ⟨p,o,none⟩=some u){agg:Bool}{ks:jj}{x:Sc}(hf:dR P w ok agg ks x):dR P w' ok' agg ks x:=fun i k hk=>(hf i k hk).mono h
end
section
variable{P:Program}{B:fZ}{w0:World}{σ σ2:St}{c c2:Ct}{a:Act}{w w':World}{o:Oper}{rd:Rd}
def av.aeS(g:av P B w0 σ c a w)(O:dg)(hb:f8 w.heap.size O w w')(hOB:∀p,O p->p<w.heap.size->B.n<=p\/B.X p)(N:Bool×Nat->dg)(old:Bool×Nat->Prop)(hN1:∀x y p,N x p->N y p->x=y)(Wk:∀x p,N x p->O p\/w.heap.size<=p)(hNB:∀x p,N x p->B.n<=p\/B.X p)(hold:∀x p,old x->σ.owns c x p->¬O p)(hle:c.le c2)(mi:σ2.aC=σ.aC)(hblk:∀p k,σ2.blk p=some k->(σ.blk p=some k/\old (false,p)/\c2.β p=c.β p)\/∃n cs,c2.β p=some n/\N (false,p) n/\w'.heap[n]? =some (np k cs)/\cm c2 k.cells cs){ok':dg}(dz:∀r k,σ2.row r=some k->(σ.row r=some k/\(k.own=true->old (true,r))/\c2.R r=c.R r)\/(k.own=true/\k.hole=none/\∃D ad n cap,c2.R r=some (.slice ad n cap)/\(k.cont.ev c2.ρ).er= .l (dP D)/\D.length=n/\n<=cap/\cap<=maxLen/\(cap=0\/w'.ownsRow 0 k.el k.ks.length (.slice ad n cap) n (ag k.agg k.ks D))/\(∀p,aO (.slice ad n cap)=some p->N (true,r) p)/\∀x∈D,dR P w' ok' k.agg k.ks x))(amt:∀p,ok' p->(∀x,σ2.owns c2 x p->False)/\(B.n<=p\/(c.K p\/B.lim p)\/B.X p))(hOk:∀p,O p->(∃r k,σ.row r=some k)->¬cD B σ c p):av P B w0 σ2 c2 a w':=by
 have dN:∀x p,σ2.owns c2 x p->(old x/\σ.owns c x p)\/N x p:=by
  rintro⟨t,q⟩ p h;cases t
  ·obtain⟨⟨k,hk⟩,e⟩:=h;rcases hblk q k hk with⟨h1,h2,h3⟩|⟨n,cs,e1,e2,_⟩
   ·exact .inl ⟨h2,⟨k,h1⟩,by rw[<-h3];exact e⟩
   ·rw[e]at e1;cases e1;exact .inr e2
  ·obtain⟨⟨k,hk,ho⟩,v,hv,hp⟩:=h;rcases dz q k hk with⟨h1,h2,h3⟩|⟨_,_,D,ad,n,cap,e1,_,_,_,_,_,e2,_⟩
   ·exact .inl ⟨h2 ho,⟨k,h1,ho⟩,v,by rw[<-h3];exact hv,hp⟩
   ·rw[hv]at e1;cases e1;exact .inr (e2 p hp)
 have atB:∀(hr:∃r k,σ.row r=some k) p o u,cD B σ c p->w.cell? ⟨p,o,none⟩=some u->cD B σ2 c2 p/\w'.cell? ⟨p,o,none⟩=some u:=fun hr p o u hp hu=>by
  have bi:=World.block_lt_of_cell? w ⟨p,o,none⟩ hu;have hnO:¬O p:=fun h=>hOk p h hr hp;refine⟨⟨fun x hx=> ?_,by rw[hle.K];exact hp.2⟩,by rw[World.cell?_of_block (hb.block p bi hnO)];exact hu⟩;rcases dN x p hx with⟨_,h⟩|h
  ·exact hp.1 x h
  ·rcases Wk x p h with h|h
   ·exact hnO h
   ·simp at bi;omega
 refine⟨?_,bI g.hB hb.size,g.defers,by rw[mi];exact g.size,fun t=> ?_,fun p k hp=> ?_,fun r k hr=> ?_,fun x y p hx hy=> ?_⟩
 ·exact g.below.trans ⟨hb.os,hb.tape,hb.output,hb.size,fun j hj hx=>hb.block j (mC hj g.hB) (fun h=>by
   rcases hOB j h (mC hj g.hB)with h|h
   ·omega
   ·exact hx h)⟩
 ·have:σ2.slot t=σ.slot t:=by unfold St.slot;rw[mi]
  rw[this];exact SV.kv hle (g.aC t)
 ·rcases hblk p k hp with⟨h1,h2,h3⟩|⟨n,cs,e1,e2,e3,e4⟩
  ·obtain⟨n,cs,e,q1,q2,q3⟩:=g.au p k h1;refine⟨n,cs,by rw[h3];exact e,q1,?_,jb hle q3⟩;rw[hb.block n (iX.1 q2).1 (hold (false,p) n h2 ⟨⟨k,h1⟩,e⟩)];exact q2
  ·exact⟨n,cs,e1,hNB _ _ e2,e3,e4⟩
 ·rcases dz r k hr with⟨h1,h2,h3⟩|⟨ho,hh,D,ad,n,cap,e1,e2,e3,e4,e5,e6,e7,e8⟩
  ·obtain⟨v,e,q⟩:=g.rows r k h1;refine⟨v,by rw[h3];exact e,q.mono (atB ⟨r,k,h1⟩) (fun ho p hp bi=>hb.block p bi (hold (true,r) p (h2 ho) ⟨⟨k,h1,ho⟩,v,e,hp⟩)) (by rw[hle.ρ]) (fun _ _ _ h=>h.le hle)⟩
  ·refine⟨_,e1,D,ad,n,cap,rfl,e2,e3,e4,e5,fun _=>e6.imp id fun h=>⟨.of hh h,fun p hp=>hNB _ _ (e7 p hp)⟩,(fun h=>by rw[ho]at h;cases h),fun x hx=>ki (fun p o u hp hu=>⟨⟨fun x hx=>(amt p hp).1 x hx,by rw[hle.K];exact(amt p hp).2⟩,hu⟩) (e8 x hx)⟩
 ·rcases dN x p hx with⟨o1,h1⟩|h1<;>rcases dN y p hy with⟨o2,h2⟩|h2
  ·exact g.apart x y p h1 h2
  ·rcases Wk y p h2 with h|h
   ·exact(hold x p o1 h1 h).elim
   ·have:=(g.iF h1).2;omega
  ·rcases Wk x p h1 with h|h
   ·exact(hold y p o2 h2 h).elim
   ·have:=(g.iF h2).2;omega
  ·exact hN1 x y p h1 h2
def av.MW(g:av P B w0 σ c a w)(hs:σ2.aC=σ.aC)(hr:∀r,σ2.row r=σ.row r)(hb:∀p k2,σ2.blk p=some k2->∃k,σ.blk p=some k/\k2.ty=k.ty/\k2.kd=k.kd/\∀n cs,c.β p=some n->w.heap[n]? =some (np k cs)->cm c k.cells cs->cm c k2.cells cs):av P B w0 σ2 c a w:=by
 have dN:∀x p,σ2.owns c x p->σ.owns c x p:=by
  rintro⟨t,q⟩ p h;cases t
  ·obtain⟨⟨k,hk⟩,e⟩:=h;obtain⟨k',h1,_⟩:=hb q k hk;exact⟨⟨k',h1⟩,e⟩
  ·obtain⟨⟨k,hk,ho⟩,e⟩:=h;rw[hr]at hk;exact⟨⟨k,hk,ho⟩,e⟩
 refine⟨g.below,g.hB,g.defers,by rw[hs];exact g.size,fun t=>by have:σ2.slot t=σ.slot t:=by unfold St.slot;rw[hs]
                                                               rw[this];exact g.aC t,fun p k2 hp=> ?_,fun r k hk=> ?_,fun x y p hx hy=>g.apart x y p (dN x p hx) (dN y p hy)⟩
 ·obtain⟨k,h1,h2,h3,h4⟩:=hb p k2 hp;obtain⟨n,cs,e,q1,q2,q3⟩:=g.au p k h1;refine⟨n,cs,e,q1,?_,h4 n cs e q2 q3⟩;have:np k2 cs=np k cs:=by unfold np;rw[h2,h3]
  rw[this];exact q2
 ·rw[hr]at hk;obtain⟨v,e,q⟩:=g.rows r k hk;exact⟨v,e,q.mono (fun p o u hp hu=>⟨⟨fun x hx=>hp.1 x (dN x p hx),hp.2⟩,hu⟩) (fun _ _ _ _=>rfl) rfl (fun _ _ _ h=>h)⟩
end
section
variable{P:Program}{B:fZ}{w0:World}{σ:St}{c:Ct}{a:Act}{w:World}{o:Oper}{rd:Rd}
def NK{row:iu}{s:AS}{x:At}{e:Ex}{fr:cv}(h:Sn P row s x=some (e,fr)):lM row fr:=by
 cases s with|ck k=>exact rL h
def GN(g:av P B w0 σ c a w){row:iu}{s:AS}{x:At}{e:Ex}{fr:cv}(h:Sn P row s x=some (e,fr))(hfz:Fz row σ fr){v:Value}(hv:x.rel c v):jk P w (cD B σ c) s v (e.ev c.ρ):=by
 cases s with|ck k=>exact iP g h hfz hv
def Kj{row:iu}:∀{ss:Nv}{xs:eO}{es:bZ}{fr:cv},qi P row ss xs=some (es,fr)->lM row fr
 |[],[],es,fr,h=>by simp[qi]at h;obtain⟨rfl,rfl⟩:=h;exact .nil
 |s::ss,x::xs,es,fr,h=>by
  simp only[qi]at h;split at h
  ·rename_i h1 h2;cases h;exact(NK h1).append (Kj h2)
  ·cases h
 |[],_::_,_,_,h=>by simp[qi]at h
 |_::_,[],_,_,h=>by simp[qi]at h
def Eo(g:av P B w0 σ c a w){row:iu}:∀{ss:Nv}{xs:eO}{es:bZ}{fr:cv},qi P row ss xs=some (es,fr)->Fz row σ fr->∀{vs:aW},cm c xs vs->fe P w (cD B σ c) ss vs (es.map (Ex.ev c.ρ))
 |[],[],es,fr,h,_,vs,hv=>by
  simp[qi]at h;obtain⟨rfl,rfl⟩:=h;cases vs with
  |nil=>trivial|cons=>exact hv.elim
 |s::ss,x::xs,es,fr,h,hf,vs,hv=>by
  match vs,hv with
  |v::vs,hv=>
   simp only[qi]at h;split at h
   ·rename_i e r xQ rs h1 h2;cases h
    exact⟨GN g h1 hf.left hv.1,Eo g h2 hf.right hv.2⟩
   ·cases h
 |[],_::_,_,_,h,_,_,_=>by simp[qi]at h
 |_::_,[],_,_,h,_,_,_=>by simp[qi]at h
def LI{row:iu}{s:CS}{x:SV}{es:bZ}{fr:cv}(h:Qg P row s x=some (es,fr)):lM row fr:=by
 unfold Qg at h;split at h
 ·simp only[nW,iK]at h;obtain⟨⟨e,r⟩,h1,h2,rfl⟩:=h;exact NK h1
 ·exact Kj h
 ·cases h
def Dn(g:av P B w0 σ c a w){row:iu}{s:CS}{x:SV}{es:bZ}{fr:cv}(h:Qg P row s x=some (es,fr))(hf:Fz row σ fr){v:Value}(hv:x.rel c v):
 yd P w (cD B σ c) s v (es.map (Ex.ev c.ρ)):=by
 unfold Qg at h
 split at h
 ·simp only[nW,iK]at h;obtain⟨⟨e,r⟩,h1,h2,rfl⟩:=h;subst h2;exact⟨_,rfl,GN g h1 hf hv⟩
 ·obtain⟨vs,rfl,hr⟩:=hv;exact⟨vs,rfl,Eo g h hf hr⟩
 ·cases h
def GO{row:iu}:∀{ss:sX}{xs:List SV}{es:bZ}{fr:cv},tC P row ss xs=some (es,fr)->lM row fr
 |[],[],es,fr,h=>by simp[tC]at h;obtain⟨rfl,rfl⟩:=h;exact .nil
 |s::ss,x::xs,es,fr,h=>by
  simp only[tC]at h;split at h
  ·rename_i h1 h2;cases h;exact(LI h1).append (GO h2)
  ·cases h
 |[],_::_,_,_,h=>by simp[tC]at h
 |_::_,[],_,_,h=>by simp[tC]at h
def GP(g:av P B w0 σ c a w){row:iu}:∀{ss:sX}{xs:List SV}{es:bZ}{fr:cv},tC P row ss xs=some (es,fr)->Fz row σ fr->∀{vs:aW},xs.length=vs.length->(∀i(h1:i<xs.length)(h2:i<vs.length),(xs[i]).rel c (vs[i]))->sd P w (cD B σ c) ss vs (es.map (Ex.ev c.ρ))
 |[],[],es,fr,h,_,vs,hl,hv=>by
  simp[tC]at h;obtain⟨rfl,rfl⟩:=h;cases vs with
  |nil=>rfl|cons=>simp at hl
 |s::ss,x::xs,es,fr,h,hf,vs,hl,hv=>by
  cases vs with
  |nil=>simp at hl|cons v vs=>
   simp only[tC]at h;split at h
   ·rename_i e r xQ rs h1 h2;cases h
    refine⟨_,_,by simp,Dn g h1 hf.left (hv 0 (by simp) (by simp)),GP g h2 hf.right (vs:=vs) (by simpa using hl) (fun i h1 h2=>by have:=hv (i+1) (by simp;omega) (by simp;omega);simpa using this)⟩
   ·cases h
 |[],_::_,_,_,h,_,_,_,_=>by simp[tC]at h
 |_::_,[],_,_,h,_,_,_,_=>by simp[tC]at h
def agh{row:iu}{s:CS}{x:SV}{es:bZ}{fr:cv}{bs:bH}(h:avC P row s x=some (es,fr,bs)):lM row fr:=by
 unfold avC at h;split at h
 ·cases h;exact .nil
 ·cases h;exact .nil
 ·split at h
  ·cases h;exact .nil
  ·cases h
 ·simp only[nW,iK]at h;obtain⟨⟨e,r⟩,h1,rfl,rfl,_⟩:=h;exact LI h1
def WM(g:av P B w0 σ c a w){row:iu}{s:CS}{x:SV}{es:bZ}{fr:cv}{bs:bH}(h:avC P row s x=some (es,fr,bs))(hf:Fz row σ fr){v:Value}(hv:x.rel c v):
 ∃ns,WN P w (cD B σ c) s v (es.map (Ex.ev c.ρ)) ns/\bs.map c.β=ns.map some:=by
 unfold avC at h
 split at h
 ·cases h
  exact⟨[],⟨rfl,rfl⟩,rfl⟩
 ·cases h
  obtain⟨n,h1,h2⟩:=hv;exact⟨[n],⟨rfl,n,rfl,h2⟩,by simp[h1]⟩
 ·split at h
  ·rename_i hc;cases h
   simp only[aL]at hc;have h1:=fh hc.1;have h2:=fh hc.2;subst h1;obtain⟨ns,q1,q2⟩:=hv;refine⟨ns,⟨rfl,?_,q2⟩,q1⟩;have:=congrArg length q1;simp at this;omega
  ·cases h
 ·rename_i HI Wn P7;simp only[nW,iK]at h;obtain⟨⟨e,r⟩,h1,rfl,rfl,rfl⟩:=h;have:=Dn g h1 hf hv;cases s with
  |a s=>exact⟨[],⟨rfl,this⟩,rfl⟩|g ss=>exact⟨[],⟨rfl,this⟩,rfl⟩|p _ _=>exact this.elim|f _ _=>exact this.elim|w _ _=>exact this.elim
def Sq{row:iu}:∀{ss:sX}{xs:List SV}{es:bZ}{fr:cv}{bs:bH},BW P row ss xs=some (es,fr,bs)->lM row fr
 |[],[],es,fr,bs,h=>by simp[BW]at h;obtain⟨rfl,rfl,rfl⟩:=h;exact .nil
 |s::ss,x::xs,es,fr,bs,h=>by
  simp only[BW]at h;split at h
  ·rename_i h1 h2;cases h;exact(agh h1).append (Sq h2)
  ·cases h
 |[],_::_,_,_,_,h=>by simp[BW]at h
 |_::_,[],_,_,_,h=>by simp[BW]at h
def Kn(g:av P B w0 σ c a w){row:iu}:∀{ss:sX}{xs:List SV}{es:bZ}{fr:cv}{bs:bH},BW P row ss xs=some (es,fr,bs)->Fz row σ fr->∀{vs:aW},xs.length=vs.length->(∀i(h1:i<xs.length)(h2:i<vs.length),(xs[i]).rel c (vs[i]))->∃ns,qj P w (cD B σ c) ss vs (es.map (Ex.ev c.ρ)) ns/\bs.map c.β=ns.map some
 |[],[],es,fr,bs,h,_,vs,hl,hv=>by
  simp[BW]at h;obtain⟨rfl,rfl,rfl⟩:=h;cases vs with
  |nil=>exact⟨[],⟨rfl,rfl⟩,rfl⟩|cons=>simp at hl
 |s::ss,x::xs,es,fr,bs,h,hf,vs,hl,hv=>by
  cases vs with
  |nil=>simp at hl|cons v vs=>
   simp only[BW]at h;split at h
   ·rename_i e r b xQ rs bs' h1 h2;cases h
    obtain⟨n1,q1,q2⟩:=WM g h1 hf.left (hv 0 (by simp) (by simp));obtain⟨n2,q3,q4⟩:=Kn g h2 hf.right (vs:=vs) (by simpa using hl) (fun i h1 h2=>by have:=hv (i+1) (by simp;omega) (by simp;omega);simpa using this)
    exact⟨n1++n2,⟨_,_,n1,n2,by simp,rfl,q1,q3⟩,by simp[q2,q4]⟩
   ·cases h
 |[],_::_,_,_,_,h,_,_,_,_=>by simp[BW]at h
 |_::_,[],_,_,_,h,_,_,_,_=>by simp[BW]at h
def gv(σ:St)(c:Ct):bH->aW->Prop
 |[],[]=>True|r::rs,u::us=>(∃k,σ.row r=some k/\k.own=true)/\c.R r=some u/\gv σ c rs us|_,_=>False
def fM:∀{r1 r2:bH}{u1 u2:aW},gv σ c r1 u1->gv σ c r2 u2->gv σ c (r1++r2) (u1++u2)
 |[],_,[],_,_,h=>h|_::_,_,_::_,_,h,h2=>⟨h.1,h.2.1,fM h.2.2 h2⟩|[],_,_::_,_,h,_=>h.elim|_::_,_,[],_,h,_=>h.elim
def kw:∀{rs:bH}{us:aW},gv σ c rs us->∀p∈us.filterMap aO,∃r∈rs,σ.owns c (true,r) p
 |[],[],_,p,hp=>by cases hp
 |r::rs,u::us,h,p,hp=>by
  rw[AP]at hp;cases hu:aO u with
  |none=>
   rw[hu]at hp;obtain⟨r',h1,h2⟩:=kw h.2.2 p hp;exact⟨r',bB _ h1,h2⟩
  |some q=>
   rw[hu]at hp;rcases bX.1 hp with rfl|hp
   ·exact⟨r,fc ..,h.1,u,h.2.1,hu⟩
   ·obtain⟨r',h1,h2⟩:=kw h.2.2 p hp;exact⟨r',bB _ h1,h2⟩
 |[],_::_,h,_,_=>h.elim|_::_,[],h,_,_=>h.elim
def wM(g:av P B w0 σ c a w):∀{rs:bH}{us:aW},gv σ c rs us->rs.Nodup->(us.filterMap aO).Nodup
 |[],[],_,_=>nodup_nil|r::rs,u::us,h,hd=>by
  rw[xV]at hd;have ih:=wM g h.2.2 hd.2;rw[AP];cases hu:aO u with
  |none=>exact ih|some q=>
   refine xV.2 ⟨fun hq=> ?_,ih⟩;obtain⟨r',h1,h2⟩:=kw h.2.2 q hq;have:=g.apart (true,r') (true,r) q h2 ⟨h.1,u,h.2.1,hu⟩;cases this
   exact hd.1 h1
 |[],_::_,h,_=>h.elim|_::_,[],h,_=>h.elim
def fj.fz{row:iu}{x y:fj}(h:lM row x.fr)(k:lM row y.fr):lM row (x.app y).fr:=h.append k
def MR{row:iu}{b:Nat}{s:PS}{x:At}{l:fj}(h:Bo P row b s x=some l):lM row l.fr:=by
 unfold Bo at h;split at h
 ·obtain⟨⟨e,f⟩,h1,rfl⟩:=nW.1 h;exact rL h1
 ·obtain⟨⟨e,f⟩,h1,rfl⟩:=nW.1 h;exact rL h1
 ·split at h
  ·split at h
   ·cases h;exact .nil
   ·cases h
  ·cases h
 ·split at h
  ·split at h
   ·cases h;exact .nil
   ·cases h
  ·cases h
 ·split at h
  ·cases h;exact .nil
  ·cases h
 ·split at h
  ·cases h;exact .nil
  ·cases h
 ·cases h
def KX{row:iu}{b:Nat}:∀{ss:m7}{xs:eO}{l:fj},lF P row b ss xs=some l->lM row l.fr
 |[],[],l,h=>by simp[lF]at h;subst h;exact .nil
 |s::ss,x::xs,l,h=>by
  simp only[lF]at h;split at h
  ·rename_i h1 h2;cases h;exact(MR h1).append (KX h2)
  ·cases h
 |[],_::_,_,h=>by simp[lF]at h
 |_::_,[],_,h=>by simp[lF]at h
def H9{row:iu}{blk:Nat->Option Bk}:∀{ls:List (TypeId×m7)}{bs:bH}{l:fj},eL P row blk ls bs=some l->lM row l.fr
 |[],[],l,h=>by simp[eL]at h;subst h;exact .nil
 |(ty,ss)::ls,b::bs,l,h=>by
  simp only[eL]at h;split at h
  ·split at h
   ·split at h
    ·rename_i h1 h2;cases h;exact(KX h1).append (H9 h2)
    ·cases h
   ·cases h
  ·cases h
 |[],_::_,_,h=>by simp[eL]at h
 |_::_,[],_,h=>by simp[eL]at h
def MN(g:av P B w0 σ c a w){r:Nat}{k:Rw}(hk:σ.row r=some k)(bj:k.own=true){el:TypeId}{agg:Bool}{ks:jj}(hT:eC P el=some (agg,ks))(qv:bF agg ks=true)(gj:gP el ks agg (some (r,k))=true):
 ∃v,c.R r=some v/\ja P w (cD B σ c) el v (k.cont.ev c.ρ):=by
 simp only[gP,aL,AO,ei]at gj
 obtain⟨⟨⟨rQ,Mo⟩,Cj⟩,iQ⟩:=gj
 have iQ:=dF iQ
 subst rQ Mo Cj
 obtain⟨v,e,D,ad,n,cap,rfl,h0,h1,h2,h3,h4,h5,h6⟩:=g.rows r k hk
 exact⟨_,e,k.agg,k.ks,D,ad,n,cap,hT,qv,rfl,h0,h1,h2,h3,(h4 bj).imp id (·.1.plain iQ),h6⟩
def PD{b n:Nat}(hb:c.β b=some n){x:At}(h:spB b x=true){v:Value}(hv:x.rel c v):v= .pointer none\/v= .pointer (some ⟨n,0,none⟩):=by
 unfold spB at h;split at h
 ·exact .inl hv
 ·have:=fh h;subst this;obtain⟨m,e,h2⟩:=hv;rw[hb]at e;cases e;exact .inr h2
 ·have:=fh h;subst this;rcases hv with h2|⟨m,e,h2⟩
  ·exact .inl h2
  ·rw[hb]at e;cases e;exact .inr h2
 ·cases h
def Vq{x:At}{v:Value}(h:ahw x=true)(hv:x.rel c v):∃ad n cap,v= .slice ad n cap:=by
 unfold ahw at h;split at h
 ·exact hv.2
 ·obtain⟨_,_,_,a',iZ,_,e,_⟩:=hv;exact⟨_,_,_,e⟩
 ·obtain⟨ad,e⟩:=hv;exact⟨_,_,_,e⟩
 ·cases h
def ES(g:av P B w0 σ c a w){row:iu}{b n:Nat}(hb:c.β b=some n):∀{ss:m7}{xs:eO}{l:fj},lF P row b ss xs=some l->Fz row σ l.fr->(∀r∈l.rs,∀k,row r=some k->σ.row r=some k)->∀{vs:aW},cm c xs vs->∃us jO,Ao P w (cD B σ c) n ss vs (l.os.map (Ex.ev c.ρ)) us (l.es.map (Ex.ev c.ρ))/\us.filterMap aO=jO.filterMap aO/\gv σ c l.rs jO
 |[],[],l,h,_,_,vs,hv=>by
  simp[lF]at h;subst h;cases vs with
  |nil=>exact⟨[],[],⟨rfl,rfl,rfl⟩,rfl,trivial⟩|cons=>exact hv.elim
 |s::ss,x::xs,l,h,hf,yB,vs,hv=>by
  match vs,hv with
  |v::vs,hv=>
   simp only[lF]at h;split at h;rotate_left
   ·cases h
   rename_i y ys h1 h2;cases h
   obtain⟨us,jO,i1,i2,i3⟩:=ES g hb h2 hf.right (fun r hr=>yB r (cz _ hr)) hv.2;unfold Bo at h1;split at h1
   ·obtain⟨⟨e,f⟩,q1,rfl⟩:=nW.1 h1;exact⟨us,jO,⟨_,_,rfl,iP g q1 hf.left hv.1,i1⟩,i2,i3⟩
   ·obtain⟨⟨e,f⟩,q1,rfl⟩:=nW.1 h1;exact⟨us,jO,⟨_,_,rfl,iP g q1 hf.left hv.1,i1⟩,i2,i3⟩
   ·rename_i el r hv;split at h1
    ·rename_i k agg ks hk hT;split at h1
     ·rename_i hc;cases h1
      simp only[aL]at hc;have fK:=yB r (by simp[fj.app]) k hk;obtain⟨u,e,q⟩:=MN g fK hc.1.1 hT hc.2 hc.1.2;have e2:c.R r=some v:=hv.1.1;rw[e]at e2;cases e2;exact⟨v::us,v::jO,⟨_,_,_,rfl,rfl,q,i1⟩,by rw[AP,AP,i2],⟨⟨k,fK,hc.1.1⟩,e,i3⟩⟩
     ·cases h1
    ·cases h1
   ·rename_i el;split at h1
    ·rename_i agg ks hT;split at h1
     ·rename_i qv;cases h1
      obtain⟨ad,rfl⟩:=hv.1;have Dh:aO (.slice ad 0 0)=none:=by cases ad<;>rfl
      exact⟨.slice ad 0 0::us,jO,⟨_,_,_,rfl,rfl,⟨agg,ks,[],ad,0,0,hT,qv,rfl,by simp[Ex.ev,Sc.er],rfl,aX _,xA _,.inl rfl,nofun⟩,i1⟩,by rw[AP,Dh,i2],i3⟩
     ·cases h1
    ·cases h1
   ·split at h1
    ·rename_i F7;cases h1
     exact⟨us,jO,⟨PD hb F7 hv.1,i1⟩,i2,i3⟩
    ·cases h1
   ·split at h1
    ·rename_i mi;cases h1
     exact⟨us,jO,⟨Vq mi hv.1,i1⟩,i2,i3⟩
    ·cases h1
   ·cases h1
 |[],_::_,_,h,_,_,_,_=>by simp[lF]at h
 |_::_,[],_,h,_,_,_,_=>by simp[lF]at h
def CB(g:av P B w0 σ c a w){row:iu}{blk:Nat->Option Bk}(hblk:∀b k,blk b=some k->σ.blk b=some k):∀{ls:List (TypeId×m7)}{bs ns:bH}{l:fj},eL P row blk ls bs=some l->bs.map c.β=ns.map some->Fz row σ l.fr->(∀r∈l.rs,∀k,row r=some k->σ.row r=some k)->∃us jO,GW P w (cD B σ c) ls ns (l.os.map (Ex.ev c.ρ)) us (l.es.map (Ex.ev c.ρ))/\us.filterMap aO=jO.filterMap aO/\gv σ c l.rs jO
 |[],[],ns,l,h,hn,_,_=>by
  simp[eL]at h;subst h;cases ns with
  |nil=>exact⟨[],[],⟨rfl,rfl,rfl⟩,rfl,trivial⟩|cons=>simp at hn
 |(ty,ss)::ls,b::bs,ns,l,h,hn,hf,yB=>by
  cases ns with
  |nil=>simp at hn|cons n ns=>
   simp only[jQ,uQ]at hn;simp only[eL]at h;split at h;rotate_left
   ·cases h
   rename_i k hk;split at h;rotate_left
   ·cases h
   rename_i hc;simp only[aL]at hc;split at h;rotate_left
   ·cases h
   rename_i y ys h1 h2;cases h
   have Rb:=fh hc.1;have JQ:=fh hc.2;obtain⟨m,cs,e,_,q2,q3⟩:=g.au b k (hblk b k hk);rw[hn.1]at e;cases e;rw[dJ JQ,Rb]at q2;obtain⟨u1,u1',i1,i2,i3⟩:=ES g hn.1 h1 hf.left (fun r hr=>yB r (iv _ hr)) q3;obtain⟨u2,u2',j1,j2,j3⟩:=CB g hblk h2 hn.2 hf.right (fun r hr=>yB r (cz _ hr));exact⟨u1++u2,u1'++u2',⟨cs,_,_,u1,u2,_,_,by simp[fj.app],rfl,by simp[fj.app],q2,i1,j1⟩,by rw[qN,qN,i2,j2],fM i3 j3⟩
 |[],_::_,_,_,h,_,_,_=>by simp[eL]at h
 |_::_,[],_,_,h,_,_,_=>by simp[eL]at h
def nM{ok:dg}{ρ:ab}:∀{ss:Nv}{nv:Nat}{vs:aW}{ys:ab},(∀i,i<ys.length->ρ.getD (nv+i) (.i 0)=ys.getD i (.i 0))->fe P w ok ss vs ys->lB P w ok ρ (bv nv ss) vs
 |[],nv,[],[],_,_=>trivial|s::ss,nv,v::vs,y::ys,hy,hr=>by
  refine⟨?_,nM (nv:=nv+1) (fun i hi=>by have:=hy (i+1) (by simp;omega);rw[show nv+1+i=nv+(i+1)by omega];simpa using this) hr.2⟩
  have h0:=hy 0 (by simp);simp only[pA,LD]at h0;show jk P w ok s v (ρ.getD nv (.i 0));rw[h0];exact hr.1
 |[],_,[],_::_,_,hr=>hr.elim|[],_,_::_,_,_,hr=>hr.elim|_::_,_,[],_,_,hr=>hr.elim|_::_,_,_::_,[],_,hr=>hr.elim
def rT(s:CS)(nv nr:Nat):nr<=(lG P nv nr s).2.2.2/\∀i,i∈(lG P nv nr s).2.1.map (·.1)↔nr<=i/\i<(lG P nv nr s).2.2.2:=by
 cases s with|a s=>exact wC nr _ s|g ss=>exact kp _ nr|p _ _=>exact⟨aX _,fun i=>by first|(simp[lG];omega)|simp[lG]⟩|f _ _=>exact⟨aX _,fun i=>by first|(simp[lG];omega)|simp[lG]⟩|w _ _=>exact⟨aX _,fun i=>by first|(simp[lG];omega)|simp[lG]⟩
def wJ:∀(ss:sX)(nv nr:Nat),nr<=(mW P nv nr ss).2.2.2/\∀i,i∈(mW P nv nr ss).2.1.map (·.1)↔nr<=i/\i<(mW P nv nr ss).2.2.2
 |[],_,nr=>⟨aX _,fun i=>by simp[mW]⟩|s::ss,nv,nr=>by have h1:=rT (P:=P) s nv nr;have h2:=wJ ss (lG P nv nr s).2.2.1 (lG P nv nr s).2.2.2;refine⟨bI h1.1 h2.1,fun i=> ?_⟩;show i∈((lG P nv nr s).2.1++(mW P (lG P nv nr s).2.2.1 (lG P nv nr s).2.2.2 ss).2.1).map (·.1)↔nr<=i/\i<(mW P (lG P nv nr s).2.2.1 (lG P nv nr s).2.2.2 ss).2.2.2;rw[BP,ic,h1.2,h2.2];have:=h1.1;have:=h2.1;omega
def VL(s:RS)(nv nr q:Nat):nr<=(wK P nv nr q s).2.2.2/\∀i,i∈(wK P nv nr q s).2.1.map (·.1)↔nr<=i/\i<(wK P nv nr q s).2.2.2:=by
 cases s with|c s=>exact rT s nv nr|t ss=>exact wJ ss nv nr|o _=>exact⟨aX _,fun i=>by first|(simp[wK];omega)|simp[wK]⟩|ot _ ss=>exact wJ ss nv nr|al ss _=>exact kp (P:=P) (bv nv ((ss.filterMap PS.FD).map AS.ck)) nr
def M3(s:CS)(nv nr:Nat):(lG P nv nr s).2.2.1=nv+s.len:=by
 cases s with|a s=>rfl|g ss=>rfl|p _ _=>rfl|f _ _=>rfl|w _ _=>rfl
def zW{s:CS}{nv nr:Nat}{v:Value}{ys:ab}{ok:dg}(g:av P B w0 σ c a w)(bT:∀p,ok p->cD B σ c p)(hy:∀i,i<ys.length->c.ρ.getD (nv+i) (.i 0)=ys.getD i (.i 0))(hr:yd P w ok s v ys)(hR:∀i,nr<=i->i<(lG P nv nr s).2.2.2->c.R i=none):
 ∃c',c'.β=c.β/\(∀i,i<nr\/(lG P nv nr s).2.2.2<=i->c'.R i=c.R i)/\(lG P nv nr s).1.rel c' v/\
  av P B w0 {σ with rows:=ai σ.rows (lG P nv nr s).2.1} c' a w/\Ext σ {σ with rows:=ai σ.rows (lG P nv nr s).2.1} c c':=by
 cases s with
 |a s=>
  obtain⟨y,rfl,hr⟩:=hr;have h0:=hy 0 (by simp);simp only[pA,LD]at h0;exact wD (e:= .v nv) g bT (by show jk P w ok s v (c.ρ.getD nv (.i 0));rw[h0];exact hr) hR
 |g ss=>
  obtain⟨vs,rfl,hr⟩:=hr;obtain⟨c',d1,d2,d3,d4,d5⟩:=oM (ps:=bv nv ss) (nr:=nr) g bT (nM hy hr) hR;exact⟨c',d1,d2,⟨vs,rfl,d3⟩,d4,d5⟩
 |p _ _=>exact hr.elim|f _ _=>exact hr.elim|w _ _=>exact hr.elim
def Br:∀{ss:sX}{σ:St}{c:Ct}{nv nr:Nat}{vs:aW}{ys:ab}{ok:dg},av P B w0 σ c a w->(∀p,ok p->cD B σ c p)->(∀i,i<ys.length->c.ρ.getD (nv+i) (.i 0)=ys.getD i (.i 0))->sd P w ok ss vs ys->(∀i,nr<=i->i<(mW P nv nr ss).2.2.2->c.R i=none)->
 ∃c',c'.β=c.β/\(∀i,i<nr\/(mW P nv nr ss).2.2.2<=i->c'.R i=c.R i)/\wH c' (mW P nv nr ss).1 vs/\av P B w0 {σ with rows:=ai σ.rows (mW P nv nr ss).2.1} c' a w/\Ext σ {σ with rows:=ai σ.rows (mW P nv nr ss).2.1} c c'
 |[],σ,c,nv,nr,[],ys,ok,g,_,_,_,_=>⟨c,rfl,fun _ _=>rfl,trivial,g,.refl c,fun _ _ h=>h⟩|s::ss,σ,c,nv,nr,v::vs,ys,ok,g,bT,hy,hr,hR=>by
  obtain⟨l1,l2,rfl,r1,r2⟩:=hr;have m1:=(rT (P:=P) s nv nr).1;have m2:=(wJ (P:=P) ss (lG P nv nr s).2.2.1 (lG P nv nr s).2.2.2).1;have hlen:=oA r1;have xR:∀i,nr<=i->i<(mW P (lG P nv nr s).2.2.1 (lG P nv nr s).2.2.2 ss).2.2.2->c.R i=none:=hR;obtain⟨c1,a1,a2,a5,a6,a7⟩:=zW (nv:=nv) (nr:=nr) g bT (fun i hi=>by have:=hy i (by simp;omega);rw[this];exact aZ _ _ _ _ hi) r1 (fun i h1 h2=>xR i h1 (by omega))
  obtain⟨c2,d1,d2,d4,d5,d6⟩:=Br (ss:=ss) (nv:=(lG P nv nr s).2.2.1) (nr:=(lG P nv nr s).2.2.2) (vs:=vs) (ys:=l2) (ok:=ok) a6
   (fun p hp=>⟨fun x hx=>(bT p hp).1 x (a7.owns x p hx),by rw[a7.le.K];exact(bT p hp).2⟩) (fun i hi=>by have:=hy (l1.length+i) (by simp;omega);rw[a7.le.ρ,M3,<-hlen,td,this];rw[cE,lR (by omega),ta,<-cE]) r2 (fun i h1 h2=>by rw[a2 i (.inr h1)];exact xR i (by omega) h2)
  refine⟨c2,d1.trans a1,fun i hi=> ?_,⟨SC.kv d6.le a5,d4⟩,?_,a7.le.trans d6.le,fun x p h=>a7.owns x p (d6.owns x p ?_)⟩
  ·have EO:i<nr\/(mW P (lG P nv nr s).2.2.1 (lG P nv nr s).2.2.2 ss).2.2.2<=i:=hi;rw[d2 i (by omega),a2 i (by omega)]
  ·simp only[mW];rw[bg];exact d5
  ·simp only[mW]at h;rw[bg]at h;exact h
 |[],_,_,_,_,_::_,_,_,_,_,_,hr,_=>hr.elim|_::_,_,_,_,_,[],_,_,_,_,_,hr,_=>hr.elim
def D8:∀(ss:sX)(nv nr:Nat),(mW P nv nr ss).2.2.1=nv+(ss.map CS.len).sum
 |[],_,_=>rfl|s::ss,nv,nr=>by simp only[mW];rw[D8 ss,M3];simp;omega
def yg{w:World}{ok:dg}:∀{s:sX}{v:aW}{l:ab},sd P w ok s v l->l.length=(s.map CS.len).sum/\v.length=s.length
 |[],[],_,h=>by have h:_=[]:=h;subst h;exact⟨rfl,rfl⟩
 |_::_,_::_,_,⟨l1,l2,e,r1,r2⟩=>by obtain⟨i1,i2⟩:=yg r2;subst e;exact⟨by simp[oA r1,i1],by simp[i2]⟩
 |[],_::_,_,h=>h.elim|_::_,[],_,h=>h.elim
def kR{w:World}{ok:dg}{el:TypeId}{v:Value}{x:Sc}(h:ja P w ok el v x):∃ad n cap,v= .slice ad n cap:=by obtain⟨_,_,_,ad,n,cap,_,_,e,_⟩:=h;exact⟨ad,n,cap,e⟩
def Bi{row:iu}{σ1:St}(g1:av P B w0 σ1 c a w){el:TypeId}{x:At}{l:fj}(h:Bo P row 0 (.own el) x=some l)(yB:∀r∈l.rs,∀k,row r=some k->σ1.row r=some k){v:Value}(hv:x.rel c v):
 ∃y jO,l.os.map (Ex.ev c.ρ)=[y]/\ja P w (cD B σ1 c) el v y/\[v].filterMap aO=jO.filterMap aO/\gv σ1 c l.rs jO:=by
 unfold Bo at h
 split at h
 ·rename_i hh;cases hh
 ·rename_i hh;cases hh
 ·rename_i JY r rQ;cases rQ
  split at h
  ·rename_i k agg ks hk hT;split at h
   ·rename_i hc;cases h
    simp only[aL]at hc;have fK:=yB r (by simp) k hk;obtain⟨u,e,q⟩:=MN g1 fK hc.1.1 hT hc.2 hc.1.2;have e2:c.R r=some v:=hv.1;rw[e]at e2;cases e2;exact⟨_,[v],rfl,q,rfl,⟨k,fK,hc.1.1⟩,e,trivial⟩
   ·cases h
  ·cases h
 ·rename_i JY rQ;cases rQ
  split at h
  ·rename_i agg ks hT;split at h
   ·rename_i qv;cases h
    obtain⟨ad,rfl⟩:=hv;have Dh:aO (.slice ad 0 0)=none:=by cases ad<;>rfl
    exact⟨_,[],rfl,⟨agg,ks,[],ad,0,0,hT,qv,rfl,by simp[Ex.ev,Sc.er],rfl,aX _,xA _,.inl rfl,nofun⟩,by rw[AP,Dh],trivial⟩
   ·cases h
  ·cases h
 ·rename_i hh;cases hh
 ·rename_i hh;cases hh
 ·cases h
def ait{row:iu}{s:CS}{x:SV}{l:fj}(h:wIn P row s x=some l):lM row l.fr:=by
 unfold wIn at h;split at h
 ·exact MR h
 ·cases h
 ·cases h;exact .nil
def Ut{row:iu}:∀{ss:sX}{xs:List SV}{l:fj},rK P row ss xs=some l->lM row l.fr
 |[],[],l,h=>by simp[rK]at h;subst h;exact .nil
 |s::ss,x::xs,l,h=>by
  simp only[rK]at h;split at h
  ·rename_i h1 h2;cases h;exact(ait h1).append (Ut h2)
  ·cases h
 |[],_::_,_,h=>by simp[rK]at h
 |_::_,[],_,h=>by simp[rK]at h
def Us{row:iu}:∀{ss:sX}{xs:List SV}{l:fj},rK P row ss xs=some l->l.es=[]
 |[],[],l,h=>by simp[rK]at h;subst h;rfl
 |s::ss,x::xs,l,h=>by
  simp only[rK]at h;split at h
  ·rename_i y ys h1 h2;cases h
   have h3:=Us h2;have h4:y.es=[]:=by
    unfold wIn at h1;split at h1
    ·unfold Bo at h1;split at h1
     ·rename_i hh;cases hh
     ·rename_i hh;cases hh
     ·repeat' (split at h1)
      all_goals(first|(cases h1;done)|(cases h1;rfl))
     ·repeat' (split at h1)
      all_goals(first|(cases h1;done)|(cases h1;rfl))
     ·rename_i hh;cases hh
     ·rename_i hh;cases hh
     ·cases h1
    ·cases h1
    ·cases h1;rfl
   simp[fj.app,h3,h4]
  ·cases h
 |[],_::_,_,h=>by simp[rK]at h
 |_::_,[],_,h=>by simp[rK]at h
def Lv(g:av P B w0 σ c a w){row:iu}:∀{ss:sX}{xs:List SV}{l:fj},rK P row ss xs=some l->(∀r∈l.rs,∀k,row r=some k->σ.row r=some k)->∀{vs:aW},xs.length=vs.length->(∀i(h1:i<xs.length)(h2:i<vs.length),(xs[i]).rel c (vs[i]))->∃us jO,Dd P w (cD B σ c) ss vs (l.os.map (Ex.ev c.ρ)) us/\us.filterMap aO=jO.filterMap aO/\gv σ c l.rs jO
 |[],[],l,h,_,vs,hl,_=>by
  simp[rK]at h;subst h;cases vs with
  |nil=>exact⟨[],[],⟨rfl,rfl⟩,rfl,trivial⟩|cons=>simp at hl
 |s::ss,x::xs,l,h,yB,vs,hl,hv=>by
  cases vs with
  |nil=>simp at hl|cons v vs=>
   simp only[rK]at h;split at h;rotate_left
   ·cases h
   rename_i y ys h1 h2;cases h
   obtain⟨us,jO,i1,i2,i3⟩:=Lv g h2 (fun r hr=>yB r (cz _ hr)) (vs:=vs) (by simpa using hl) (fun i h1 h2=>by have:=hv (i+1) (by simp;omega) (by simp;omega);simpa using this)
   have Fy:x.rel c v:=hv 0 (by simp) (by simp);have key:∃us0 PR,aph P w (cD B σ c) s v (y.os.map (Ex.ev c.ρ)) us0/\us0.filterMap aO=PR.filterMap aO/\gv σ c y.rs PR:=by
    unfold wIn at h1;split at h1
    ·rename_i el b x;obtain⟨z,PR,q1,q2,q3,q4⟩:=Bi g h1 (fun r hr=>yB r (iv _ hr)) Fy;exact⟨[v],PR,⟨z,q1,rfl,q2⟩,q3,q4⟩
    ·cases h1
    ·rename_i Wn P7;cases h1
     refine⟨[],[],?_,rfl,trivial⟩;cases s with
     |w el b=>first|exact(P7 el b rfl).elim|exact(Wn el b rfl).elim
     |_=>exact⟨rfl,rfl⟩
   obtain⟨us0,PR,k1,k2,k3⟩:=key;exact⟨us0++us,PR++jO,⟨_,us0,_,us,by simp[fj.app],rfl,k1,i1⟩,by rw[qN,qN,k2,i2],fM k3 i3⟩
 |[],_::_,_,h,_,_,_,_=>by simp[rK]at h
 |_::_,[],_,h,_,_,_,_=>by simp[rK]at h
end
section
variable{P:Program}{B:fZ}{w0:World}{σ:St}{c:Ct}{a:Act}{w w':World}{o:Oper}{rd:Rd}
def gL(P:Program)(w:World)(ok:dg):ip->aW->ab->Prop
 |[],[],[]=>True|el::lK,u::us,x::xs=>ja P w ok el u x/\gL P w ok lK us xs|_,_,_=>False
def dV{ok:dg}:∀{e1 e2:ip}{u1 u2:aW}{x1 x2:ab},gL P w ok e1 u1 x1->gL P w ok e2 u2 x2->gL P w ok (e1++e2) (u1++u2) (x1++x2)
 |[],_,[],_,[],_,_,h=>h|_::_,_,_::_,_,_::_,_,h,k=>⟨h.1,dV h.2 k⟩|[],_,_::_,_,_,_,h,_=>h.elim|[],_,[],_,_::_,_,h,_=>h.elim|_::_,_,[],_,_,_,h,_=>h.elim|_::_,_,_::_,_,[],_,h,_=>h.elim
def mV{ok:dg}:∀{e:ip}{u:aW}{x:ab},gL P w ok e u x->u.length=e.length/\x.length=e.length
 |[],[],[],_=>⟨rfl,rfl⟩|_::_,_::_,_::_,h=>by obtain⟨i,j⟩:=mV h.2;exact⟨by simp[i],by simp[j]⟩
 |[],_::_,_,h=>h.elim|[],[],_::_,h=>h.elim|_::_,[],_,h=>h.elim|_::_,_::_,[],h=>h.elim
def yM{ok:dg}:∀{e:ip}{u:aW}{x:ab}{j:Nat}{el:TypeId},gL P w ok e u x->e[j]? =some el->∃v y,u[j]? =some v/\x[j]? =some y/\ja P w ok el v y
 |_::_,v::_,y::_,0,_,h,e=>by simp at e;subst e;exact⟨v,y,rfl,rfl,h.1⟩
 |_::_,_::_,_::_,j+1,_,h,e=>by simpa using yM (j:=j) h.2 (by simpa using e)
 |[],_,_,_,_,_,e=>by simp at e
 |_::_,[],_,_,_,h,_=>h.elim|_::_,_::_,[],_,_,h,_=>h.elim
def tN{ok:dg}:∀{lK:ip}{us:aW}{xs:ab}(nv nr:Nat)(l:List (Option Rw))(r:Nat),gL P w ok lK us xs->(∃j el agg ks,r=nr+j/\lK[j]? =some el/\eC P el=some (agg,ks)/\(ai l (bR P nv nr lK)).getD r none=some ⟨el,ks,agg,.v (nv+j),true,none⟩)\/((r<nr\/nr+lK.length<=r)/\(ai l (bR P nv nr lK)).getD r none=l.getD r none)
 |[],[],[],nv,nr,l,r,_=> .inr ⟨xU r nr,rfl⟩|el::lK,u::us,x::xs,nv,nr,l,r,h=>by
  obtain⟨agg,ks,D,ad,n,cap,hT,_⟩:=h.1;have e:bR P nv nr (el::lK)=(nr,some ⟨el,ks,agg,.v nv,true,none⟩)::bR P (nv+1) (nr+1) lK:=by simp only[bR,hT];rfl
  rw[e];simp only[ai];rcases tN (nv+1) (nr+1) (bU none l nr (some ⟨el,ks,agg,.v nv,true,none⟩)) r h.2 with⟨j,JY,Jr,Wu,h1,h2,h3,h4⟩|⟨h1,h2⟩
  ·exact .inl ⟨j+1,JY,Jr,Wu,by omega,by simpa using h2,h3,by rw[h4,show nv+1+j=nv+(j+1)by omega]⟩
  ·by_cases hr:r=nr
   ·subst hr;exact .inl ⟨0,el,agg,ks,rfl,rfl,hT,by rw[h2,ik,aA rfl];rfl⟩
   ·refine .inr ⟨by simp;omega,?_⟩;rw[h2,ik,aE hr]
 |[],_::_,_,_,_,_,_,h=>h.elim|[],[],_::_,_,_,_,_,h=>h.elim|_::_,[],_,_,_,_,_,h=>h.elim|_::_,_::_,[],_,_,_,_,h=>h.elim
def nt{ok:dg}:∀{lK:ip}{us:aW}{xs:ab}(nv nr i:Nat),gL P w ok lK us xs->(i∈(bR P nv nr lK).map (·.1)↔nr<=i/\i<nr+lK.length)
 |[],[],[],nv,nr,i,_=>by refine⟨fun h=>(by cases h),fun h=> ?_⟩;have:=h.2;simp at this;omega
 |el::lK,u::us,x::xs,nv,nr,i,h=>by
  obtain⟨agg,ks,D,ad,n,cap,hT,_⟩:=h.1;have e:bR P nv nr (el::lK)=(nr,some ⟨el,ks,agg,.v nv,true,none⟩)::bR P (nv+1) (nr+1) lK:=by simp only[bR,hT];rfl
  rw[e,jQ,bX,nt (nv+1) (nr+1) i h.2];simp;omega
 |[],_::_,_,_,_,_,h=>h.elim|[],[],_::_,_,_,_,h=>h.elim|_::_,[],_,_,_,_,h=>h.elim|_::_,_::_,[],_,_,_,h=>h.elim
def D7:∀{us:aW},(us.filterMap aO).Nodup->∀{i j:Nat}{u v:Value}{p:Nat},us[i]? =some u->us[j]? =some v->aO u=some p->aO v=some p->i=j
 |[],_,_,_,_,_,_,h,_,_,_=>by simp at h
 |x::us,hd,i,j,u,v,p,h1,h2,h3,h4=>by
  rw[AP]at hd;have ti:∀{k:Nat}{z:Value},us[k]? =some z->aO z=some p->p∈us.filterMap aO:=fun h h'=>LF.2 ⟨_,d9 h,h'⟩;cases i with
  |zero=>
   cases j with
   |zero=>rfl|succ j=>
    simp at h1 h2;subst h1;rw[h3]at hd;exact((xV.1 hd).1 (ti h2 h4)).elim
  |succ i=>
   cases j with
   |zero=>
    simp at h1 h2;subst h2;rw[h4]at hd;exact((xV.1 hd).1 (ti h1 h3)).elim
   |succ j=>
    simp at h1 h2;congr 1;refine D7 ?_ h1 h2 h3 h4;cases hx:aO x with
    |none=>rw[hx]at hd;exact hd|some q=>rw[hx]at hd;exact(xV.1 hd).2
def iR:∀(r:List (Nat×Option Bk))(l:List (Option Bk))(p:Nat),(∀x∈r,x.1≠p)->(bG l r).getD p none=l.getD p none
 |[],_,_,_=>rfl|(i,v)::r,l,p,h=>by rw[bG,iR r _ p (fun x hx=>h x (bB _ hx)),dw,aE (fun e=>h (i,v) (fc ..) e.symm)]
def fL:∀(r:cv)(l:List (Option Rw))(p:Nat),(∀x∈r,x.1≠p)->(ai l r).getD p none=l.getD p none
 |[],_,_,_=>rfl|(i,v)::r,l,p,h=>by rw[ai,fL r _ p (fun x hx=>h x (bB _ hx)),dw,aE (fun e=>h (i,v) (fc ..) e.symm)]
def mJ:∀(r:List (Nat×Option Bk))(l:List (Option Bk))(p:Nat),(∃x∈r,x.1=p)->∃v,(p,v)∈r/\(bG l r).getD p none=v
 |[],_,_,⟨_,h,_⟩=>by cases h
 |(i,v)::r,l,p,h=>by
  by_cases hr:∃x∈r,x.1=p
  ·obtain⟨v',h1,h2⟩:=mJ r (bU none l i v) p hr;exact⟨v',bB _ h1,h2⟩
  ·have hp:p=i:=by
    obtain⟨x,hx,e⟩:=h;rcases bX.1 hx with rfl|hx
    ·exact e.symm
    ·exact(hr ⟨x,hx,e⟩).elim
   subst hp;refine⟨v,fc ..,?_⟩;rw[bG,iR r _ p (fun x hx e=>hr ⟨x,hx,e⟩),dw,aA rfl]
def CT:∀(rs:bH)(l:List (Option Rw))(q:Nat)(k:Rw),(ai l (rs.map fun r=>(r,none))).getD q none=some k->q∉rs/\l.getD q none=some k
 |[],_,_,_,h=>⟨fun h=>(by cases h),h⟩|r::rs,l,q,k,h=>by
  obtain⟨h1,h2⟩:=CT rs (bU none l r none) q k h;rw[ik]at h2;by_cases hq:q=r
  ·rw[aA hq]at h2;cases h2
  ·rw[aE hq]at h2;exact⟨fun hm=>(bX.1 hm).elim hq h1,h2⟩
def mS:∀{l:bH},EA l=true->l.Nodup
 |[],_=>nodup_nil|x::xs,h=>by
  simp only[EA,aL,NC]at h;refine xV.2 ⟨fun hm=> ?_,mS h.2⟩;have:iC xs x=true:=by unfold iC;exact fS.2 ⟨x,hm,BK x⟩
  rw[this]at h;cases h.1
def zT:m7->aW->aW
 | .ck _::ss,v::vs=>v::zT ss vs|_::ss,_::vs=>zT ss vs|_,_=>[]
def mD{ok:dg}{n:Nat}:∀{ss:m7}{c0 cs:aW}{xs:ab}{us:aW}{ys:ab},jB P w ok n ss c0 cs xs us ys->c0.length=ss.length/\cs.length=ss.length
 |[],[],[],_,_,_,_=>⟨rfl,rfl⟩| .rd _::ss,_::_,_::_,_,_,_,h=>by obtain⟨i,j⟩:=mD h.2;exact⟨by simp[i],by simp[j]⟩
 | .fq::ss,_::_,_::_,_,_,_,h=>by obtain⟨i,j⟩:=mD h.2;exact⟨by simp[i],by simp[j]⟩
 | .ck _::ss,_::_,_::_,_,_,_,⟨_,_,_,_,h⟩=>by obtain⟨i,j⟩:=mD h;exact⟨by simp[i],by simp[j]⟩
 | .own _::ss,_::_,_::_,_,_,_,⟨_,_,_,_,_,_,h⟩=>by obtain⟨i,j⟩:=mD h;exact⟨by simp[i],by simp[j]⟩
 | .sp::ss,_::_,_::_,_,_,_,h=>by obtain⟨i,j⟩:=mD h.2;exact⟨by simp[i],by simp[j]⟩
 |[],_::_,_,_,_,_,h=>h.elim|[],[],_::_,_,_,_,h=>h.elim| .rd _::_,[],_,_,_,_,h=>h.elim| .fq::_,[],_,_,_,_,h=>h.elim| .rd _::_,_::_,[],_,_,_,h=>h.elim| .fq::_,_::_,[],_,_,_,h=>h.elim| .ck _::_,[],_,_,_,_,h=>h.elim| .ck _::_,_::_,[],_,_,_,h=>h.elim| .own _::_,[],_,_,_,_,h=>h.elim| .own _::_,_::_,[],_,_,_,h=>h.elim| .sp::_,[],_,_,_,_,h=>h.elim| .sp::_,_::_,[],_,_,_,h=>h.elim
def uj{ok:dg}:∀{s1 s2:Nv}{v1 v2:aW}{l1 l2:ab},fe P w ok s1 v1 l1->fe P w ok s2 v2 l2->fe P w ok (s1++s2) (v1++v2) (l1++l2)
 |[],_,[],_,[],_,_,h=>h|_::_,_,_::_,_,_::_,_,h,k=>⟨h.1,uj h.2 k⟩|[],_,_::_,_,_,_,h,_=>h.elim|[],_,[],_,_::_,_,h,_=>h.elim|_::_,_,[],_,_,_,h,_=>h.elim|_::_,_,_::_,_,[],_,h,_=>h.elim
def fw{ok:dg}{n:Nat}:∀{ss:m7}{c0 cs:aW}{xs:ab}{us:aW}{ys:ab},jB P w ok n ss c0 cs xs us ys->gL P w ok (ss.filterMap PS.yL) us xs/\fe P w ok ((ss.filterMap PS.FD).map AS.ck) (zT ss cs) ys
 |[],[],[],_,_,_,⟨rfl,rfl,rfl⟩=>⟨trivial,trivial⟩| .rd _::ss,_::_,_::_,_,_,_,h=>fw (ss:=ss) h.2| .fq::ss,_::_,_::_,_,_,_,h=>fw (ss:=ss) h.2| .ck _::ss,_::_,_::_,_,_,_,⟨_,_,rfl,h0,h⟩=>by obtain⟨i,j⟩:=fw h;exact⟨i,h0,j⟩
 | .own _::ss,_::_,_::_,_,_,_,⟨_,_,_,rfl,rfl,h0,h⟩=>by obtain⟨i,j⟩:=fw h;exact⟨⟨h0,i⟩,j⟩
 | .sp::ss,_::_,_::_,_,_,_,h=>fw (ss:=ss) h.2|[],_::_,_,_,_,_,h=>h.elim|[],[],_::_,_,_,_,h=>h.elim| .rd _::_,[],_,_,_,_,h=>h.elim| .fq::_,[],_,_,_,_,h=>h.elim| .rd _::_,_::_,[],_,_,_,h=>h.elim| .fq::_,_::_,[],_,_,_,h=>h.elim| .ck _::_,[],_,_,_,_,h=>h.elim| .ck _::_,_::_,[],_,_,_,h=>h.elim| .own _::_,[],_,_,_,_,h=>h.elim| .own _::_,_::_,[],_,_,_,h=>h.elim| .sp::_,[],_,_,_,_,h=>h.elim| .sp::_,_::_,[],_,_,_,h=>h.elim
def mN{b:Nat}:∀{ss:m7}{nr:Nat}{xs ys:eO},(aQ true b nr ss xs ys []).2.2.2=[]
 |[],_,_,_=>rfl| .rd _::ss,nr,xs,ys=>mN (ss:=ss)| .ck _::ss,nr,xs,ys=>mN (ss:=ss)| .own _::ss,nr,xs,ys=>mN (ss:=ss)| .sp::ss,nr,xs,ys=>mN (ss:=ss)| .fq::ss,nr,xs,ys=>mN (ss:=ss)
def gS{ok:dg}{n b:Nat}:∀{ss:m7}{c0 cs:aW}{xs:ab}{us:aW}{ys:ab}{cells:eO}{Y:eO}{V:aW}{nr:Nat},(.sp∈ss->c.β b=some n)->jB P w ok n ss c0 cs xs us ys->cm c cells c0->(∀j u,us[j]? =some u->c.R (nr+j)=some u)->cm c Y (zT ss cs++V)->cm c (aQ true b nr ss cells Y []).1 cs/\(aQ true b nr ss cells Y []).2.1=nr+us.length/\cm c (aQ true b nr ss cells Y []).2.2.1 V
 |[],[],[],_,_,_,cells,Y,V,nr,hb,⟨rfl,rfl,rfl⟩,_,_,hY=>⟨trivial,rfl,hY⟩| .rd _::ss,v0::c0,v::cs,xs,us,ys,x::cells,Y,V,nr,hb,h,hc,hR,hY=>by obtain⟨i,j,k⟩:=gS (fun h=>hb (bB _ h)) h.2 hc.2 hR hY;exact⟨⟨h.1▸hc.1,i⟩,j,k⟩
 | .fq::ss,v0::c0,v::cs,xs,us,ys,x::cells,Y,V,nr,hb,h,hc,hR,hY=>by obtain⟨i,j,k⟩:=gS (fun h=>hb (bB _ h)) h.2 hc.2 hR hY;exact⟨⟨h.1▸hc.1,i⟩,j,k⟩
 | .ck _::ss,v0::c0,v::cs,_,_,_,x::cells,y::Y,V,nr,hb,⟨_,_,rfl,_,h⟩,hc,hR,hY=>by obtain⟨i,j,k⟩:=gS (V:=V) (fun h=>hb (bB _ h)) h hc.2 hR hY.2;exact⟨⟨hY.1,i⟩,j,k⟩
 | .own _::ss,v0::c0,v::cs,_,_,_,x::cells,Y,V,nr,hb,⟨_,_,us,rfl,rfl,ho,h⟩,hc,hR,hY=>by obtain⟨i,j,k⟩:=gS (nr:=nr+1) (fun h=>hb (bB _ h)) h hc.2 (fun j u hj=>by have:=hR (j+1) u (by simpa using hj);rw[show nr+1+j=nr+(j+1)by omega];exact this) hY;exact⟨⟨⟨by simpa using hR 0 v rfl,kR ho⟩,i⟩,by rw[show(aQ true b nr (.own _::ss) (x::cells) Y []).2.1=(aQ true b (nr+1) ss cells Y []).2.1 from rfl,j];simp;omega,k⟩
 | .sp::ss,v0::c0,v::cs,xs,us,ys,x::cells,Y,V,nr,hb,h,hc,hR,hY=>by obtain⟨i,j,k⟩:=gS (fun h=>hb (bB _ h)) h.2 hc.2 hR hY;exact⟨⟨h.1.imp id fun e=>⟨n,hb (fc ..),e⟩,i⟩,j,k⟩
 | .ck _::ss,v0::c0,v::cs,xs,us,ys,x::cells,[],V,nr,_,_,_,_,hY=>hY.elim|_::_,_::_,_::_,_,_,_,[],_,_,_,_,_,hc,_,_=>hc.elim|[],_::_,_,_,_,_,_,_,_,_,_,h,_,_,_=>h.elim|[],[],_::_,_,_,_,_,_,_,_,_,h,_,_,_=>h.elim| .rd _::_,[],_,_,_,_,_,_,_,_,_,h,_,_,_=>h.elim| .fq::_,[],_,_,_,_,_,_,_,_,_,h,_,_,_=>h.elim| .rd _::_,_::_,[],_,_,_,_,_,_,_,_,h,_,_,_=>h.elim| .fq::_,_::_,[],_,_,_,_,_,_,_,_,h,_,_,_=>h.elim| .ck _::_,[],_,_,_,_,_,_,_,_,_,h,_,_,_=>h.elim| .ck _::_,_::_,[],_,_,_,_,_,_,_,_,h,_,_,_=>h.elim| .own _::_,[],_,_,_,_,_,_,_,_,_,h,_,_,_=>h.elim| .own _::_,_::_,[],_,_,_,_,_,_,_,_,h,_,_,_=>h.elim| .sp::_,[],_,_,_,_,_,_,_,_,_,h,_,_,_=>h.elim| .sp::_,_::_,[],_,_,_,_,_,_,_,_,h,_,_,_=>h.elim
def yK:List (TypeId×m7)->List aW->aW
 |(_,ss)::ls,cs::Qu=>zT ss cs++yK ls Qu|_,_=>[]
def G1(w:World):List (TypeId×m7)->bH->List aW->Prop
 |[],[],[]=>True|(ty,_)::ls,n::ns,cs::Qu=>w.heap[n]? =some (.cells cs.toArray ty (0,0))/\G1 w ls ns Qu|_,_,_=>False
def lS{ok:dg}:∀{ls:List (TypeId×m7)}{ns:bH}{xs:ab}{us:aW}{ys:ab},me P w w' ok ls ns xs us ys->gL P w' ok (dO ls) us xs/\∃Qu,G1 w' ls ns Qu/\fe P w' ok ((gK ls).map AS.ck) (yK ls Qu) ys
 |[],[],_,_,_,⟨rfl,rfl,rfl⟩=>⟨trivial,[],trivial,trivial⟩|(ty,ss)::ls,n::ns,_,_,_,⟨c0,cs,x1,x2,u1,u2,y1,y2,rfl,rfl,rfl,_,h2,h3,h4⟩=>by
  obtain⟨i,j⟩:=fw h3;obtain⟨k,Qu,l,m⟩:=lS h4;exact⟨dV i k,cs::Qu,⟨h2,l⟩,by
   show fe P w' ok ((ss.filterMap PS.FD++gK ls).map AS.ck) _ _;rw[BP];exact uj j m⟩
 |[],_::_,_,_,_,h=>h.elim|_::_,[],_,_,_,h=>h.elim
def mQ{x y:aW}{ty ty':Nat}(h:(some (Obj.cells x.toArray ty (0,0)):Option Obj)=some (.cells y.toArray ty' (0,0))):x=y/\ty=ty':=by simp at h;exact h
def BX{ok:dg}{blk:Nat->Option Bk}:∀{ls:List (TypeId×m7)}{bs ns:bH}{xs:ab}{us:aW}{ys:ab}{Qu:List aW}{Y:eO}{V:aW}{nr:Nat},me P w w' ok ls ns xs us ys->bs.map c.β=ns.map some->(∀b∈bs,∃k n cs,blk b=some k/\c.β b=some n/\w.heap[n]? =some (.cells cs.toArray k.ty (0,0))/\cm c k.cells cs)->G1 w' ls ns Qu->(∀j u,us[j]? =some u->c.R (nr+j)=some u)->cm c Y (yK ls Qu++V)->
 (bV true blk nr ls bs Y []).map (·.1)=bs/\∀b k2,(b,k2)∈bV true blk nr ls bs Y []->∃k n cs,k2=some k/\k.kd=0/\c.β b=some n/\w'.heap[n]? =some (.cells cs.toArray k.ty (0,0))/\cm c k.cells cs
 |[],[],[],_,_,_,Qu,Y,V,nr,_,_,_,_,_,_=>⟨rfl,nofun⟩|(ty,ss)::ls,b::bs,n::ns,_,_,_,cs::Qu,Y,V,nr,⟨c0,Ap,x1,x2,u1,u2,y1,y2,rfl,rfl,rfl,h1,h2,h3,h4⟩,hn,Np,hc,hR,hY=>by
  simp only[jQ,uQ]at hn;obtain⟨k,n',c0',hk,e1,e2,e3⟩:=Np b (fc ..);rw[hn.1]at e1;cases e1;rw[h1]at e2;obtain⟨rfl,Rb⟩:=mQ e2;have e4:=hc.1;rw[h2]at e4;obtain⟨rfl,_⟩:=mQ e4;simp only[yK,eh]at hY;obtain⟨i,j,l⟩:=gS (V:=yK ls Qu++V) (fun _=>hn.1) h3 e3 (fun j u hj=>hR j u (by rw[gA (kK.1 hj).1];exact hj)) hY;obtain⟨p,q⟩:=BX (nr:=nr+u1.length) h4 hn.2 (fun b hb=>Np b (bB _ hb)) hc.2 (fun j u hj=>by have:=hR (u1.length+j) u (by rw[lR (by omega),ta];exact hj);rw[td];exact this) l
  have hB:bV true blk nr ((ty,ss)::ls) (b::bs) Y []=(b,some ⟨(aQ true b nr ss k.cells Y []).1,ty,0⟩)::bV true blk (nr+u1.length) ls bs (aQ true b nr ss k.cells Y []).2.2.1 []:=by simp only[bV,hk,j,mN]
  rw[hB];refine⟨by rw[jQ,p],fun b' k2 hm=> ?_⟩;rcases bX.1 hm with e|hm
  ·cases e
   exact⟨_,n,_,rfl,rfl,hn.1,h2,i⟩
  ·exact q b' k2 hm
 |[],[],_::_,_,_,_,_,_,_,_,h,_,_,_,_,_=>h.elim|[],_::_,[],_,_,_,_,_,_,_,_,hn,_,_,_,_=>by simp at hn
 |[],_::_,_::_,_,_,_,_,_,_,_,h,_,_,_,_,_=>h.elim|_::_,_,[],_,_,_,_,_,_,_,h,_,_,_,_,_=>h.elim|_::_,[],_::_,_,_,_,_,_,_,_,_,hn,_,_,_,_=>by simp at hn
 |_::_,_::_,_::_,_,_,_,[],_,_,_,_,_,_,hc,_,_=>hc.elim
def B5{ok:dg}{blk:Nat->Option Bk}:∀{ls:List (TypeId×m7)}{bs ns:bH}{xs:ab}{us:aW}{ys:ab},me P w w' ok ls ns xs us ys->bs.map c.β=ns.map some->(∀b∈bs,∃(k:Bk)(n:Nat)(cs:aW),blk b=some k/\c.β b=some n/\w.heap[n]? =some (.cells cs.toArray k.ty (0,0))/\cm c k.cells cs)->∀b∈bs,∃(k:Bk)(n:Nat)(cs:aW),blk b=some k/\c.β b=some n/\n∈ns/\w'.heap[n]? =some (.cells cs.toArray k.ty (0,0))/\cs.length=k.cells.length
 |[],[],[],_,_,_,_,_,_,b,hb=>by cases hb
 |(ty,ss)::ls,b::bs,n::ns,_,_,_,⟨c0,Ap,x1,x2,u1,u2,y1,y2,rfl,rfl,rfl,h1,h2,h3,h4⟩,hn,Np,b',Ml=>by
  simp only[jQ,uQ]at hn;rcases bX.1 Ml with rfl|Ml
  ·obtain⟨k,n',c0',hk,e1,e2,e3⟩:=Np b' (fc ..);rw[hn.1]at e1;cases e1;rw[h1]at e2;obtain⟨rfl,Rb⟩:=mQ e2;obtain⟨l1,l2⟩:=mD h3;exact⟨k,n,Ap,hk,hn.1,fc ..,by rw[h2,Rb],by rw[l2,<-l1,nw e3]⟩
  ·obtain⟨k,n',cs,q1,q2,q3,q4⟩:=B5 h4 hn.2 (fun b hb=>Np b (bB _ hb)) b' Ml;exact⟨k,n',cs,q1,q2,bB _ q3,q4⟩
 |[],[],_::_,_,_,_,h,_,_,_,_=>h.elim|[],_::_,[],_,_,_,_,hn,_,_,_=>by simp at hn
 |[],_::_,_::_,_,_,_,h,_,_,_,_=>h.elim|_::_,_,[],_,_,_,h,_,_,_,_=>h.elim|_::_,[],_::_,_,_,_,_,hn,_,_,_=>by simp at hn
def VU{ok:dg}{s:RS}{v:Value}{xs:ab}{us:aW}{l:ab}(h:vD P w ok s v xs us l):gL P w ok s.yL us xs:=by
 cases s with
 |c s=>obtain⟨rfl,rfl,_⟩:=h;trivial
 |t ss=>obtain⟨rfl,rfl,_⟩:=h;trivial
 |o el=>obtain⟨_,x,rfl,rfl,h⟩:=h;exact⟨h,trivial⟩
 |ot el ss=>obtain⟨x,u,vs,rfl,rfl,_,h,_⟩:=h;exact⟨h,trivial⟩
 |al ss js=>obtain⟨_,_,vs,_,h⟩:=h;exact(fw h).1
def Ps:∀(ss:m7)(vs:aW),vs.length=ss.length->cm c (ss.map fun _=>At.top) vs
 |[],[],_=>trivial|_::ss,_::vs,h=>⟨trivial,Ps ss vs (by simpa using h)⟩|[],_::_,h=>by simp at h
 |_::_,[],h=>by simp at h
def acX{s:RS}{w:World}{ok:dg}{v:Value}{xs:ab}{us:aW}{l:ab}(hr:vD P w ok s v xs us l)(nv nr q:Nat):(wK P nv nr q s).2.2.1=nv+l.length:=by
 cases s with
 |c s=>obtain⟨_,_,hr⟩:=hr;simp only[wK];rw[M3,oA hr]
 |t ss=>obtain⟨_,_,vs,_,hr⟩:=hr;simp only[wK];rw[D8,(yg hr).1]
 |o el=>obtain⟨rfl,_⟩:=hr;rfl
 |ot el ss=>obtain⟨_,_,vs,_,_,_,_,hr⟩:=hr;simp only[wK];rw[D8,(yg hr).1]
 |al ss js=>obtain⟨_,_,vs,_,hr⟩:=hr;simp only[wK];rw[vW (fw hr).2];simp
def VM{s:RS}{nv nr q:Nat}{v:Value}{xs:ab}{us:aW}{ys:ab}{ok:dg}(g:av P B w0 σ c a w)(bT:∀p,ok p->cD B σ c p)(hy:∀i,i<ys.length->c.ρ.getD (nv+i) (.i 0)=ys.getD i (.i 0))(hr:vD P w ok s v xs us ys)(hq:∀j u,us[j]? =some u->c.R (q+j)=some u)(hR:∀i,nr<=i->i<(wK P nv nr q s).2.2.2->c.R i=none):
 ∃c',c'.β=c.β/\(∀i,i<nr\/(wK P nv nr q s).2.2.2<=i->c'.R i=c.R i)/\(wK P nv nr q s).1.rel c' v/\
  av P B w0 {σ with rows:=ai σ.rows (wK P nv nr q s).2.1} c' a w/\Ext σ {σ with rows:=ai σ.rows (wK P nv nr q s).2.1} c c':=by
 cases s with
 |c s=>
  obtain⟨_,_,hr⟩:=hr;exact zW (nv:=nv) (nr:=nr) g bT hy hr hR
 |t ss=>
  obtain⟨_,_,vs,rfl,hr⟩:=hr;obtain⟨c',d1,d2,d3,d4,d5⟩:=Br (nv:=nv) (nr:=nr) g bT hy hr hR;exact⟨c',d1,d2,⟨vs,rfl,d3⟩,d4,d5⟩
 |o el=>
  obtain⟨_,x,rfl,rfl,hr⟩:=hr;exact⟨c,rfl,fun _ _=>rfl,⟨hq 0 _ rfl,kR hr⟩,g,⟨.refl c,fun _ _ h=>h⟩⟩
 |ot el ss=>
  obtain⟨x,u,vs,rfl,rfl,rfl,ho,hr⟩:=hr;obtain⟨c',d1,d2,d3,d4,d5⟩:=Br (nv:=nv) (nr:=nr) g bT hy hr hR;exact⟨c',d1,d2,⟨u::vs,rfl,⟨d5.le.R _ _ (hq 0 _ rfl),kR ho⟩,d3⟩,d4,d5⟩
 |al ss js=>
  obtain⟨F7,Ef,vs,rfl,hr⟩:=hr;obtain⟨p1,p2⟩:=fw hr;obtain⟨c',d1,d2,d3,d4,d5⟩:=oM (ps:=bv nv ((ss.filterMap PS.FD).map AS.ck)) (nr:=nr) (vs:=zT ss vs) (ok:=ok) g bT (nM (nv:=nv) hy p2) hR;obtain⟨e1,_,_⟩:=gS (n:=0) (c:=c') (b:=0) (ss:=ss) (c0:=Ef) (cs:=vs) (cells:=ss.map fun _=>At.top) (Y:=(de P nr (bv nv ((ss.filterMap PS.FD).map AS.ck))).1) (V:=[]) (nr:=q) (fun h=>by have:=lO.1 F7 _ h;cases this) hr (Ps ss Ef (mD hr).1) (fun j u hj=>d5.le.R _ _ (hq j u hj)) (by rw[uP];exact d3);exact⟨c',d1,d2,⟨vs,rfl,e1⟩,d4,d5⟩
end
section
variable{P:Program}{B:fZ}{w0:World}{σ:St}{c:Ct}{a:Act}{w w':World}{o:Oper}{rd:Rd}
def EH{gg:Nat}{xs:List SV}:∀{Xc:ug}{bd:tr}{es:bZ}{fr:cv}{bs:bH}{l:fj},yp P rd gg xs Xc=some (bd,es,fr,bs,l)->bd∈Xc/\bd.f=gg/\BW P rd.row bd.args xs=some (es,fr,bs)/\∃l0 wl,l=l0.app wl/\eL P rd.row rd.blk (bf bd.args) bs=some l0/\rK P rd.row bd.args xs=some wl
 |[],_,_,_,_,_,h=>by simp[yp]at h
 |x::Xc,bd,es,fr,bs,l,h=>by
  unfold yp at h;have ih:yp P rd gg xs Xc=some (bd,es,fr,bs,l)->bd∈x::Xc/\bd.f=gg/\BW P rd.row bd.args xs=some (es,fr,bs)/\∃l0 wl,l=l0.app wl/\eL P rd.row rd.blk (bf bd.args) bs=some l0/\rK P rd.row bd.args xs=some wl:=fun h=>by obtain⟨i,j⟩:=EH h;exact⟨bB _ i,j⟩
  split at h
  ·rename_i hf;split at h
   ·split at h
    ·rename_i h1 _ _ _ _ h2 h3;cases h
     exact⟨fc ..,fh hf,h1,_,_,rfl,h2,h3⟩
    ·exact ih h
   ·exact ih h
  ·exact ih h
def CA{row:iu}{blk:Nat->Option Bk}:∀{ls:List (TypeId×m7)}{bs:bH}{l:fj},eL P row blk ls bs=some l->∀b∈bs,∃k,blk b=some k/\k.kd=0
 |[],[],_,_,b,hb=>by cases hb
 |(ty,ss)::ls,b::bs,l,h,b',Ml=>by
  simp only[eL]at h;split at h
  ·rename_i k hk;split at h
   ·rename_i hc;simp only[aL]at hc;split at h
    ·rename_i h1 h2;rcases bX.1 Ml with rfl|Ml
     ·exact⟨k,hk,fh hc.2⟩
     ·exact CA h2 b' Ml
    ·cases h
   ·cases h
  ·cases h
 |[],_::_,_,h,_,_=>by simp[eL]at h
 |_::_,[],_,_,_,hb=>by cases hb
def Ip:∀{bs ns:bH},bs.map c.β=ns.map some->∀p∈ns,∃b∈bs,c.β b=some p
 |[],[],_,p,hp=>by cases hp
 |b::bs,n::ns,h,p,hp=>by
  simp only[jQ,uQ]at h;rcases bX.1 hp with rfl|hp
  ·exact⟨b,fc ..,h.1⟩
  ·obtain⟨b',h1,h2⟩:=Ip h.2 p hp;exact⟨b',bB _ h1,h2⟩
 |[],_::_,h,_,_=>by simp at h
 |_::_,[],h,_,_=>by simp at h
def Pb(g:av P B w0 σ c a w):∀{bs ns:bH},bs.map c.β=ns.map some->bs.Nodup->(∀b∈bs,∃k,σ.blk b=some k)->ns.Nodup
 |[],[],_,_,_=>nodup_nil|b::bs,n::ns,h,hd,hb=>by
  simp only[jQ,uQ]at h;rw[xV]at hd;refine xV.2 ⟨fun hm=> ?_,Pb g h.2 hd.2 (fun b Ml=>hb b (bB _ Ml))⟩;obtain⟨b',h1,h2⟩:=Ip h.2 n hm;have:=g.apart (false,b') (false,b) n ⟨hb b' (bB _ h1),h2⟩ ⟨hb b (fc ..),h.1⟩;cases this
  exact hd.1 h1
 |[],_::_,h,_,_=>by simp at h
 |_::_,[],h,_,_=>by simp at h
def T5:∀(xs:eO)(vs:aW),vs.length=xs.length->cm c (xs.map fun _=>At.top) vs
 |[],[],_=>trivial|_::xs,_::vs,h=>⟨trivial,T5 xs vs (by simpa using h)⟩|[],_::_,h=>by simp at h
 |_::_,[],h=>by simp at h
def Gz.mono{f:FuncId}{vs:Array Value}{R R':Value->World->Prop}(h:Gz P f vs w R)(hr:∀v w',R v w'->R' v w'):Gz P f vs w R':=by
 rcases h with⟨h1,h2⟩|⟨v,w',h1,h2⟩
 ·exact .inl ⟨h1,h2.mono fun e w' ⟨v,e1,e2⟩=>⟨v,e1,hr v w' e2⟩⟩
 ·exact .inr ⟨v,w',h1,hr v w' h2⟩
def AW{ok ok':dg}{k:CK}(hk:k.flat=true){v:Value}{x:Sc}(h:jk P w ok (.ck k) v x):jk P w ok' (.ck k) v x:=by
 obtain⟨d,e,e2,hf⟩:=h;refine⟨d,e,e2,?_⟩;cases k with
 |int k=>exact .int k _|bool=>exact .bool _|str=>exact .str _|sl el=>cases hk
def Ep{ok ok':dg}:∀{s:Nv}{v:aW}{x:ab},(s.all fun| .ck k=>k.flat)=true->fe P w ok s v x->fe P w ok' s v x
 |[],[],[],_,_=>trivial| .ck k::s,v::vs,x::xs,hk,h=>by simp only[wZ,aL]at hk;exact⟨AW hk.1 h.1,Ep hk.2 h.2⟩
 |[],[],_::_,_,h=>h.elim|[],_::_,_,_,h=>h.elim|_::_,[],_,_,h=>h.elim|_::_,_::_,[],_,h=>h.elim
def G6{ok ok':dg}{s:CS}(hs:s.flat=true){v:Value}{x:ab}(h:yd P w ok s v x):yd P w ok' s v x:=by
 cases s with
 |a s=>cases s with|ck k=>obtain⟨y,e,r⟩:=h;exact⟨y,e,AW hs r⟩
 |g ss=>obtain⟨y,e,r⟩:=h;exact⟨y,e,Ep hs r⟩
 |p _ _=>cases hs
 |f _ _=>cases hs
 |w _ _=>cases hs
def yf{ok ok':dg}:∀{s:sX}{v:aW}{x:ab},s.all CS.flat=true->sd P w ok s v x->sd P w ok' s v x
 |[],[],_,_,h=>h|s::ss,v::vs,_,hk,⟨l1,l2,e,r1,r2⟩=>by simp only[wZ,aL]at hk;exact⟨l1,l2,e,G6 hk.1 r1,yf hk.2 r2⟩
 |[],_::_,_,_,h=>h.elim|_::_,[],_,_,h=>h.elim
def tL{ok ok':dg}{el:TypeId}(hs:qt P el=true){v:Value}{x:Sc}(h:ja P w ok el v x):ja P w ok' el v x:=by
 obtain⟨agg,ks,D,ad,n,cap,q1,q2,q3,q4,q5,q6,q7,q8,q9⟩:=h;refine⟨agg,ks,D,ad,n,cap,q1,q2,q3,q4,q5,q6,q7,q8,fun x hx i k hk=> ?_⟩;unfold qt at hs;rw[q1]at hs;have hf:=lO.1 hs k (d9 hk);cases k with
 |int k=>exact .int k _|bool=>exact .bool _|str=>exact .str _|sl el=>cases hf
def j9{ok ok':dg}{n:Nat}:∀{ss:m7}{c0 cs:aW}{xs:ab}{us:aW}{ys:ab},(ss.filterMap PS.yL).all (qt P)=true->(ss.filterMap PS.FD).all CK.flat=true->jB P w ok n ss c0 cs xs us ys->jB P w ok' n ss c0 cs xs us ys
 |[],[],[],_,_,_,_,_,hr=>hr| .rd _::ss,_::_,_::_,_,_,_,h1,h2,hr=>⟨hr.1,j9 (ss:=ss) h1 h2 hr.2⟩| .fq::ss,_::_,_::_,_,_,_,h1,h2,hr=>⟨hr.1,j9 (ss:=ss) h1 h2 hr.2⟩| .ck k::ss,_::_,_::_,_,_,_,h1,h2,⟨y,Gw,e,h0,hr⟩=>by have h2:(k::ss.filterMap PS.FD).all CK.flat=true:=h2;simp only[wZ,aL]at h2;exact⟨y,Gw,e,AW h2.1 h0,j9 (ss:=ss) h1 h2.2 hr⟩
 | .own el::ss,_::_,_::_,_,_,_,h1,h2,⟨x,Se,jO,e1,e2,h0,hr⟩=>by have h1:(el::ss.filterMap PS.yL).all (qt P)=true:=h1;simp only[wZ,aL]at h1;exact⟨x,Se,jO,e1,e2,tL h1.1 h0,j9 (ss:=ss) h1.2 h2 hr⟩
 | .sp::ss,_::_,_::_,_,_,_,h1,h2,hr=>⟨hr.1,j9 (ss:=ss) h1 h2 hr.2⟩|[],_::_,_,_,_,_,_,_,h=>h.elim|[],[],_::_,_,_,_,_,_,h=>h.elim| .rd _::_,[],_,_,_,_,_,_,h=>h.elim| .rd _::_,_::_,[],_,_,_,_,_,h=>h.elim| .fq::_,[],_,_,_,_,_,_,h=>h.elim| .fq::_,_::_,[],_,_,_,_,_,h=>h.elim| .ck _::_,[],_,_,_,_,_,_,h=>h.elim| .ck _::_,_::_,[],_,_,_,_,_,h=>h.elim| .own _::_,[],_,_,_,_,_,_,h=>h.elim| .own _::_,_::_,[],_,_,_,_,_,h=>h.elim| .sp::_,[],_,_,_,_,_,_,h=>h.elim| .sp::_,_::_,[],_,_,_,_,_,h=>h.elim
def RD{ok ok':dg}{s:RS}(hs:s.flat P=true){v:Value}{xs:ab}{us:aW}{l:ab}(h:vD P w ok s v xs us l):vD P w ok' s v xs us l:=by
 cases s with
 |c s=>exact⟨h.1,h.2.1,G6 hs h.2.2⟩|t ss=>obtain⟨e1,e2,vs,e3,r⟩:=h;exact⟨e1,e2,vs,e3,yf hs r⟩
 |o el=>obtain⟨e1,x,e2,e3,r⟩:=h;exact⟨e1,x,e2,e3,tL hs r⟩
 |ot el ss=>
  obtain⟨x,u,vs,e1,e2,e3,r1,r2⟩:=h;simp only[RS.flat,aL]at hs;exact⟨x,u,vs,e1,e2,e3,tL hs.1 r1,yf hs.2 r2⟩
 |al ss js=>
  obtain⟨F7,Ef,vs,e,r⟩:=h;simp only[RS.flat,aL]at hs;exact⟨F7,Ef,vs,e,j9 hs.1 hs.2 r⟩
def B3{ok ok':dg}{w1:World}:∀{ls:List (TypeId×m7)}{ns:bH}{xs:ab}{us:aW}{ys:ab},(dO ls).all (qt P)=true->(gK ls).all CK.flat=true->me P w1 w ok ls ns xs us ys->me P w1 w ok' ls ns xs us ys
 |[],[],_,_,_,_,_,hr=>hr|(ty,ss)::ls,n::ns,_,_,_,ha,hb,⟨c0,cs,x1,x2,u1,u2,y1,y2,e1,e2,e3,h1,h2,h3,h4⟩=>by have ha:(ss.filterMap PS.yL++dO ls).all (qt P)=true:=ha;have hb:(ss.filterMap PS.FD++gK ls).all CK.flat=true:=hb;simp only[all_append,aL]at ha hb;exact⟨c0,cs,x1,x2,u1,u2,y1,y2,e1,e2,e3,h1,h2,j9 ha.1 hb.1 h3,B3 ha.2 hb.2 h4⟩
 |[],_::_,_,_,_,_,_,h=>h.elim|_::_,[],_,_,_,_,_,h=>h.elim
def E5{ok ok':dg}:∀{ss:sX}{vs:aW}{X:ab}{U:aW},(Gu ss).all (qt P)=true->nN P w ok ss vs X U->nN P w ok' ss vs X U
 |[],[],_,_,_,h=>h|s::ss,v::vs,_,_,hf,⟨X1,U1,X2,U2,e1,e2,h1,h2⟩=>by
  have hf:(s.back? ++Gu ss).all (qt P)=true:=hf;simp only[all_append,aL]at hf;refine⟨X1,U1,X2,U2,e1,e2,?_,E5 hf.2 h2⟩;cases s with
  |w el b=>
   cases b with
   |true=>
    obtain⟨x,q1,q2,q3⟩:=h1;exact⟨x,q1,q2,tL (by simpa[CS.back?]using hf.1) q3⟩
   |false=>exact h1
  |_=>exact h1
 |[],_::_,_,_,_,h=>h.elim|_::_,[],_,_,_,h=>h.elim
def BF{ok:dg}:∀{ss:sX}{vs:aW}{X:ab}{U:aW},nN P w ok ss vs X U->gL P w ok (Gu ss) U X
 |[],[],_,_,⟨rfl,rfl⟩=>trivial|s::ss,v::vs,_,_,⟨X1,U1,X2,U2,rfl,rfl,h1,h2⟩=>by
  show gL P w ok (s.back? ++Gu ss) (U1++U2) (X1++X2);refine dV ?_ (BF h2);cases s with
  |w el b=>
   cases b with
   |true=>obtain⟨x,rfl,rfl,q3⟩:=h1;exact⟨q3,trivial⟩
   |false=>obtain⟨rfl,rfl⟩:=h1;trivial
  |_=>obtain⟨rfl,rfl⟩:=h1;trivial
 |[],_::_,_,_,h=>h.elim|_::_,[],_,_,h=>h.elim
def Pw:∀{rs:bH}{us:aW},gv σ c rs us->∀r∈rs,∃u,c.R r=some u
 |[],[],_,_,h=>by cases h
 |r::rs,u::us,h,q,hq=>by
  rcases bX.1 hq with rfl|hq
  ·exact⟨u,h.2.1⟩
  ·exact Pw h.2.2 q hq
 |[],_::_,h,_,_=>h.elim|_::_,[],h,_,_=>h.elim
def av.acC(g:av P B w0 σ c a w){q r:Nat}{k:Rw}(hq:σ.row q=some k)(hr:σ.row r=none)(hR:c.R r=c.R q):av P B w0 {σ with rows:=bU none (bU none σ.rows q none) r (some k)} c a w:=by
 have vP:r≠q:=fun e=>by rw[e,hq]at hr;cases hr
 have dz:∀p k',St.row {σ with rows:=bU none (bU none σ.rows q none) r (some k)} p=some k'->(p=r/\k'=k)\/(p≠r/\p≠q/\σ.row p=some k'):=fun p k' h=>by
  have h:(bU none (bU none σ.rows q none) r (some k)).getD p none=some k':=h;rw[ik,ik]at h;by_cases h1:p=r
  ·rw[aA h1]at h;cases h;exact .inl ⟨h1,rfl⟩
  ·rw[aE h1]at h;by_cases h2:p=q
   ·rw[aA h2]at h;cases h
   ·rw[aE h2]at h;exact .inr ⟨h1,h2,h⟩
 have dN:∀x p,St.owns {σ with rows:=bU none (bU none σ.rows q none) r (some k)} c x p->(x=(true,r)/\σ.owns c (true,q) p)\/(x≠(true,r)/\x≠(true,q)/\σ.owns c x p):=by
  rintro⟨t,y⟩ p h;cases t
  ·exact .inr ⟨by simp,by simp,h⟩
  ·obtain⟨⟨k',fK,ho⟩,v,hv,hp⟩:=h;rcases dz y k' fK with⟨rfl,rfl⟩|⟨h1,h2,h3⟩
   ·exact .inl ⟨rfl,⟨k',hq,ho⟩,v,by rw[<-hR];exact hv,hp⟩
   ·exact .inr ⟨by simpa using h1,by simpa using h2,⟨k',h3,ho⟩,v,hv,hp⟩
 have bT:∀p,cD B σ c p->cD B {σ with rows:=bU none (bU none σ.rows q none) r (some k)} c p:=fun p hp=>⟨fun x hx=>by
  rcases dN x p hx with⟨_,h⟩|⟨_,_,h⟩
  ·exact hp.1 _ h
  ·exact hp.1 _ h,hp.2⟩
 refine⟨g.below,g.hB,g.defers,g.size,g.aC,g.au,fun p k' fK=> ?_,fun x y p hx hy=> ?_⟩
 ·have key:∀y,σ.row y=some k'->c.R p=c.R y->∃v,c.R p=some v/\Pu P B {σ with rows:=bU none (bU none σ.rows q none) r (some k)} c w k' v:=fun y hy e=>by obtain⟨v,h1,h2⟩:=g.rows y k' hy;exact⟨v,by rw[e];exact h1,h2.mono (fun p o u hp hu=>⟨bT p hp,hu⟩) (fun _ _ _ _=>rfl) rfl (fun _ _ _ h=>h)⟩
  rcases dz p k' fK with⟨rfl,rfl⟩|⟨_,_,h3⟩
  ·exact key q hq hR
  ·exact key p h3 rfl
 ·rcases dN x p hx with⟨rfl,h1⟩|⟨a1,a2,h1⟩<;>rcases dN y p hy with⟨rfl,h2⟩|⟨b1,b2,h2⟩
  ·rfl
  ·exact(b2 (g.apart _ _ p h2 h1)).elim
  ·exact(a2 (g.apart _ _ p h1 h2)).elim
  ·exact g.apart _ _ p h1 h2
def zB:sX->List SV->bH
 | .w _ true::ss,.c (.a (.vec r))::xs=>r::zB ss xs|_::ss,_::xs=>zB ss xs|_,_=>[]
def Eg{row:iu}:∀{ss:sX}{xs:List SV}{l:fj},rK P row ss xs=some l->(zB ss xs).Sublist l.rs
 |[],[],l,h=>by simp[rK]at h;subst h;exact .slnil
 |s::ss,x::xs,l,h=>by
  simp only[rK]at h;split at h;rotate_left
  ·cases h
  rename_i y ys h1 h2;cases h
  have ih:=Eg h2;show(zB (s::ss) (x::xs)).Sublist (y.rs++ys.rs);unfold zB;split
  ·rename_i el ss' r Se e1 e2;cases e1;cases e2
   unfold wIn Bo at h1;simp only at h1;split at h1
   ·split at h1
    ·cases h1;exact ih.cons_cons _
    ·cases h1
   ·cases h1
  ·rename_i e1 e2;cases e1;cases e2;exact ih.trans (sublist_append_right _ _)
  ·rename_i Wn P7;exact(P7 _ _ _ _ rfl rfl).elim
 |[],_::_,_,h=>by simp[rK]at h
 |_::_,[],_,h=>by simp[rK]at h
def E0:∀(r:cv)(l:List (Option Rw))(p:Nat),(∃x∈r,x.1=p)->∃v,(p,v)∈r/\(ai l r).getD p none=v
 |[],_,_,⟨_,h,_⟩=>by cases h
 |(i,v)::r,l,p,h=>by
  by_cases hr:∃x∈r,x.1=p
  ·obtain⟨v',h1,h2⟩:=E0 r (bU none l i v) p hr;exact⟨v',bB _ h1,h2⟩
  ·obtain⟨x,hx,rfl⟩:=h;rcases bX.1 hx with rfl|hx
   ·refine⟨v,fc ..,?_⟩;rw[ai,fL r _ _ (fun x hx e=>hr ⟨x,hx,e⟩),dw,aA rfl]
   ·exact(hr ⟨x,hx,rfl⟩).elim
def Im{w':World}{ok:dg}:∀{ss:sX}{xs:List SV}{vs:aW}{X:ab}{U:aW}{nv q:Nat}{σ:St},av P B w0 σ c a w->nN P w' ok ss vs X U->xs.length=vs.length->(∀i(h1:i<xs.length)(h2:i<vs.length),(xs[i]).rel c (vs[i]))->(∀j u,U[j]? =some u->c.R (q+j)=some u)->(∀j el,(Gu ss)[j]? =some el->∃agg ks,eC P el=some (agg,ks)/\σ.row (q+j)=some ⟨el,ks,agg,.v (nv+j),true,none⟩)->(∀r∈zB ss xs,σ.row r=none/\∀j,j<(Gu ss).length->r≠q+j)->(zB ss xs).Nodup->av P B w0 {σ with rows:=ai σ.rows (Jd P nv q ss xs)} c a w
 |[],[],_,_,_,_,_,_,g,_,_,_,_,_,_,_=>g|s::ss,x::xs,v::vs,_,_,nv,q,σ,g,⟨X1,U1,X2,U2,rfl,rfl,h1,h2⟩,hl,hv,hR,dz,DR,hnd=>by
  have Fy:x.rel c v:=hv 0 (by simp) (by simp);have hvr:∀i(h1:i<xs.length)(h2:i<vs.length),(xs[i]).rel c (vs[i]):=fun i h1 h2=>by have:=hv (i+1) (by simp;omega) (by simp;omega);simpa using this
  have hwB:Gu (s::ss)=s.back? ++Gu ss:=rfl;show av P B w0 {σ with rows:=ai σ.rows (Ls P nv q s x++Jd P (nv+s.back?.length) (q+s.back?.length) ss xs)} c a w;rw[bg];have hUl:U1.length=s.back?.length:=by
   cases s with
   |w el b=>
    cases b with
    |true=>obtain⟨_,_,rfl,_⟩:=h1;rfl
    |false=>obtain⟨_,rfl⟩:=h1;rfl
   |_=>obtain⟨_,rfl⟩:=h1;rfl
  have P5:∀j u,U2[j]? =some u->c.R (q+s.back?.length+j)=some u:=fun j u hj=>by have:=hR (U1.length+j) u (by rw[lR (by omega),ta];exact hj);rw[td,<-hUl];exact this
  by_cases hmv:∃el r,s= .w el true/\x= .c (.a (.vec r))
  ·obtain⟨el,r,rfl,rfl⟩:=hmv;obtain⟨agg,ks,hT,hrq⟩:=dz 0 el rfl;rw[pA,pA]at hrq;obtain⟨z,rfl,rfl,_⟩:=h1;have hm:Ls P nv q (.w el true) (.c (.a (.vec r)))=[(q,none),(r,some ⟨el,ks,agg,.v nv,true,none⟩)]:=by simp only[Ls,hT]
   rw[hm];have YH:∀p∈r::zB ss xs,σ.row p=none/\∀j,j<(Gu (.w el true::ss)).length->p≠q+j:=DR;have DL:(r::zB ss xs).Nodup:=hnd;rw[xV]at DL;have g1:=g.acC hrq (YH r (fc ..)).1 (by rw[Fy.1];have:=hR 0 v rfl;rw[pA]at this;exact this.symm);have QY:∀p,St.row {σ with rows:=bU none (bU none σ.rows q none) r (some ⟨el,ks,agg,.v nv,true,none⟩)} p=if p=r then some ⟨el,ks,agg,.v nv,true,none⟩else if p=q then none else σ.row p:=fun p=>by show(bU none (bU none σ.rows q none) r (some ⟨el,ks,agg,.v nv,true,none⟩)).getD p none=_;rw[ik,ik];rfl
   refine Im (ss:=ss) (xs:=xs) (nv:=nv+1) (q:=q+1) g1 h2 (by simpa using hl) hvr P5 (fun j JY hj=> ?_) (fun p hp=> ?_) DL.2
   ·obtain⟨Jr,Wu,q1,q2⟩:=dz (j+1) JY (by rw[hwB];exact hj);refine⟨Jr,Wu,q1,?_⟩;have bi:j<(Gu ss).length:=(kK.1 hj).1;have vP:=(YH r (fc ..)).2 (j+1) (by rw[hwB];simp[CS.back?];omega);rw[QY,aE (by omega),aE (by omega),show q+1+j=q+(j+1)by omega,show nv+1+j=nv+(j+1)by omega];exact q2
   ·obtain⟨q1,q2⟩:=YH p (bB _ hp);refine⟨?_,fun j hj=> ?_⟩
    ·rw[QY,aE (fun e=>DL.1 (by rw[<-e];exact hp))];split
     ·rfl
     ·exact q1
    ·have:=q2 (j+1) (by rw[hwB];simp[CS.back?];omega);omega
  ·have hm:Ls P nv q s x=[]:=by
    unfold Ls;split
    ·rename_i el r;exact(hmv ⟨el,r,rfl,rfl⟩).elim
    ·rfl
   have hvv:zB (s::ss) (x::xs)=zB ss xs:=by
    cases s with
    |w el b=>
     cases b with
     |false=>rfl|true=>
      match x,hmv with
      | .c (.a y),hmv=>cases y<;>first|rfl|exact(hmv ⟨_,_,rfl,rfl⟩).elim
      | .c (.g _),_=>rfl| .t _,_=>rfl| .nx _ _ _,_=>rfl| .JU _ _,_=>rfl
    |_=>rfl
   rw[hm];rw[hvv]at DR hnd;refine Im (ss:=ss) (xs:=xs) g h2 (by simpa using hl) hvr P5 (fun j JY hj=> ?_) (fun p hp=>⟨(DR p hp).1,fun j hj=> ?_⟩) hnd
   ·have:=dz (s.back?.length+j) JY (by rw[hwB,lR (by omega),ta];exact hj);rw[<-td,<-td]at this;exact this
   ·have:=(DR p hp).2 (s.back?.length+j) (by rw[hwB,fR];omega);omega
 |[],_::_,[],_,_,_,_,_,_,_,hl,_,_,_,_,_=>by simp at hl
 |[],_,_::_,_,_,_,_,_,_,h,_,_,_,_,_,_=>h.elim|_::_,_,[],_,_,_,_,_,_,h,_,_,_,_,_,_=>h.elim|_::_,[],_::_,_,_,_,_,_,_,_,hl,_,_,_,_,_=>by simp at hl
def C3{σ':St}:∀{rs:bH}{us:aW},gv σ c rs us->(∀r∈rs,∀k,σ.row r=some k->σ'.row r=some k)->gv σ' c rs us
 |[],[],_,_=>trivial|r::rs,u::us,⟨⟨k,h1,h2⟩,h3,h4⟩,h=>⟨⟨k,h r (fc ..) k h1,h2⟩,h3,C3 h4 (fun q hq=>h q (bB _ hq))⟩|[],_::_,h,_=>h.elim|_::_,[],h,_=>h.elim
def H8{row:iu}{b:Nat}:∀{ss:m7}{xs:eO}{l:fj},lF P row b ss xs=some l->xs.length=ss.length
 |[],[],_,_=>rfl|s::ss,x::xs,l,h=>by
  simp only[lF]at h;split at h
  ·rename_i h1 h2;simp[H8 h2]
  ·cases h
 |[],_::_,_,h=>by simp[lF]at h
 |_::_,[],_,h=>by simp[lF]at h
def qk{b:Nat}:∀{ss:m7}{nr:Nat}{xs ys zs:eO},ss.all PS.still=true->xs.length=ss.length->(aQ true b nr ss xs ys zs).1=xs
 |[],_,[],_,_,_,_=>rfl| .rd _::ss,nr,x::xs,ys,zs,h,hl=>by have:=qk (b:=b) (ss:=ss) (nr:=nr) (xs:=xs) (ys:=ys) (zs:=zs) (by simpa[PS.still]using h) (by simpa using hl);show x::(aQ true b nr ss xs ys zs).1=_;rw[this]
 | .fq::ss,nr,x::xs,ys,zs,h,hl=>by have:=qk (b:=b) (ss:=ss) (nr:=nr) (xs:=xs) (ys:=ys) (zs:=zs) (by simpa[PS.still]using h) (by simpa using hl);show x::(aQ true b nr ss xs ys zs).1=_;rw[this]
 | .ck _::_,_,_,_,_,h,_=>by simp[PS.still]at h
 | .own _::_,_,_,_,_,h,_=>by simp[PS.still]at h
 | .sp::_,_,_,_,_,h,_=>by simp[PS.still]at h
 |[],_,_::_,_,_,_,h=>by simp at h
 |_::_,_,[],_,_,_,h=>by simp at h
def ya{row:iu}{blk:Nat->Option Bk}:∀{ls:List (TypeId×m7)}{bs:bH}{l:fj}{nr:Nat}{ys zs:eO},(ls.all fun x=>x.2.all PS.still)=true->eL P row blk ls bs=some l->∀b v,(b,v)∈bV true blk nr ls bs ys zs->v=blk b
 |[],[],_,_,_,_,_,_,b,v,h=>by cases h
 |(ty,ss)::ls,b::bs,l,nr,ys,zs,hs,h,b',v,hm=>by
  simp only[wZ,aL]at hs;simp only[eL]at h;split at h;rotate_left
  ·cases h
  rename_i k hk;split at h;rotate_left
  ·cases h
  rename_i hc;simp only[aL]at hc;split at h;rotate_left
  ·cases h
  rename_i y z h1 h2;have hB:bV true blk nr ((ty,ss)::ls) (b::bs) ys zs=(b,some ⟨(aQ true b nr ss k.cells ys zs).1,ty,0⟩)::bV true blk (aQ true b nr ss k.cells ys zs).2.1 ls bs (aQ true b nr ss k.cells ys zs).2.2.1 (aQ true b nr ss k.cells ys zs).2.2.2:=by simp only[bV,hk]
  rw[hB]at hm;rcases bX.1 hm with e|hm
  ·cases e
   rw[hk,qk hs.1 (H8 h1),<-fh hc.1,<-fh hc.2]
  ·exact ya hs.2 h2 b' v hm
 |[],_::_,_,_,_,_,_,h,_,_,_=>by simp[eL]at h
 |_::_,[],_,_,_,_,_,h,_,_,_=>by simp[eL]at h
def uR:∀(ss:m7)(js:bH)(vs:aW),Dm ss js [] vs
 | .fq::ss,j::js,v::vs=>⟨fun u h=>by simp at h,uR ss js vs⟩| .rd _::ss,_::js,_::vs=>uR ss js vs| .ck _::ss,_::js,_::vs=>uR ss js vs| .own _::ss,_::js,_::vs=>uR ss js vs| .sp::ss,_::js,_::vs=>uR ss js vs|[],_,_=>by simp[Dm]
 |s::_,[],_=>by cases s<;>simp[Dm]
 |s::_,_::_,[]=>by cases s<;>simp[Dm]
def oq:∀{ss:m7}{js:bH}{cells:eO}{cs:aW}{ys:eO}{vs:aW},Dm ss js cs vs->cm c cells cs->cm c ys vs->cm c (GJ ss js cells ys) vs
 | .fq::ss,j::js,cells,cs,y::ys,v::vs,ha,hc,hy=>by
   refine⟨?_,oq ha.2 hc hy.2⟩;cases hj:cells[j]? with
   |none=>simpa[hj]using hy.1|some x=>
    obtain⟨u,e,q⟩:=vB hc hj;rw[ha.1 u e];simpa[hj]using q
 | .rd _::ss,_::js,cells,cs,y::ys,v::vs,ha,hc,hy=>⟨hy.1,oq (ss:=ss) (js:=js) ha hc hy.2⟩| .ck _::ss,_::js,cells,cs,y::ys,v::vs,ha,hc,hy=>⟨hy.1,oq (ss:=ss) (js:=js) ha hc hy.2⟩| .own _::ss,_::js,cells,cs,y::ys,v::vs,ha,hc,hy=>⟨hy.1,oq (ss:=ss) (js:=js) ha hc hy.2⟩| .sp::ss,_::js,cells,cs,y::ys,v::vs,ha,hc,hy=>⟨hy.1,oq (ss:=ss) (js:=js) ha hc hy.2⟩|[],_,_,_,_,_,_,_,hy=>by simpa[GJ]using hy
 |s::_,[],_,_,_,_,_,_,hy=>by cases s<;>simpa[GJ]using hy
 |s::_,_::_,_,_,[],vs,_,_,hy=>by cases s<;>simpa[GJ]using hy
 |_::_,_::_,_,_,_::_,[],_,_,hy=>hy.elim
def NE{res:RS}{ns:bH}{cells:eO}{vv:SV}{v:Value}(h:WG res w ns v)(hv:vv.rel c v)(hc:cells=[]\/∃n cs ty,ns.head? =some n/\w.heap[n]? =some (.cells cs.toArray ty (0,0))/\cm c cells cs):(FP res cells vv).rel c v:=by
 unfold FP;split
 ·rename_i ss js ys;obtain⟨vs,rfl,hr⟩:=hv;rcases hc with rfl|⟨n,cs,ty,h1,h2,h3⟩
  ·refine⟨vs,rfl,oq (cs:=[]) (uR ss js vs) trivial hr⟩
  ·exact⟨vs,rfl,oq (h n h1 cs ty h2 vs rfl) h3 hr⟩
 ·exact hv
def Qt(g:av P B w0 σ c a w)(cS:xz σ c a rd){cons:ug}{Γ:Nat->dK}(hΓ:∀bd∈cons,∀w,f8 B.n B.X w0 w->bd.F6 P (Γ bd.key) B.lim w){gg:Nat}{xs:List SV}{r:dl}(h:tF P cons rd gg xs=some r){f:Nat}{es:bZ}{n:Nat}(hc:r.call=some (f,es,n)){rs:ab}(hF:Γ f (es.map (Ex.ev c.ρ))=some rs)(hρ:∀i,i<rs.length->c.ρ.getD (rd.nv+i) (.i 0)=rs.getD i (.i 0))(hR:∀i,i∈r.nr->c.R i=none){vs:aW}(Wt:xs.length=vs.length)(Bf:∀i(h1:i<xs.length)(h2:i<vs.length),(xs[i]).rel c (vs[i])):
 Gz P gg vs.toArray w fun v w'=>∃c',c.le c'/\c'.β=c.β/\(∀i,i∉r.nr->c'.R i=c.R i)/\r.val.rel c' v/\av P B w0 {σ with au:=bG σ.au r.au,rows:=ai σ.rows r.rows} c' a w':=by
 unfold tF at h
 split at h
 rotate_left
 ·cases h
 rename_i bd es0 fr bs l gj
 split at h
 rotate_left
 ·cases h
 rename_i eQ
 simp only[aL,lO]at eQ
 obtain⟨⟨hdb,hdr⟩,hnf⟩:=eQ
 have hdb:=mS hdb
 have hdr:=mS hdr
 simp only[eF]at h
 subst h
 simp only[eF,iK]at hc
 obtain⟨rfl,rfl,_⟩:=hc
 obtain⟨ti,hcf,hav,l0,wl,hl,Tf,hws⟩:=EH gj
 have Ym:l.rs=l0.rs++wl.rs:=by rw[hl];rfl
 have amo:l.fr=l0.fr++wl.fr:=by rw[hl];rfl
 have Bd:=hΓ bd ti w g.below
 obtain⟨ga,hFz⟩:=oB g cS.row (fr:=fr++l.fr) ((Sq hav).append (by rw[amo];exact(H9 Tf).append (Ut hws)))
 obtain⟨ns,asT,Jl⟩:=Kn ga hav hFz.left (vs:=vs) Wt Bf
 have Ve:∀r∈l.rs,∀k,rd.row r=some k->St.row {σ with rows:=ai σ.rows (fr++l.fr)} r=some k:=fun r hr k hk=>by
  show(ai σ.rows (fr++l.fr)).getD r none=some k;rw[fL _ _ _ (fun x hx e=>by have:=hnf r hr x hx;rw[e,BK]at this;cases this)]
  exact cS.row _ _ hk
 obtain⟨usL,avk,mZ,ate,atS⟩:=CB ga (fun b k hb=>cS.blk b k hb) Tf Jl (fun q k h1 h2=>hFz.right q k h1 (h2.imp id (fun hm=>by rw[amo];exact iv _ hm))) (fun r hr=>Ve r (by rw[Ym];exact iv _ hr))
 obtain⟨uw,uw',DT,atf,atT⟩:=Lv ga hws (fun r hr=>Ve r (by rw[Ym];exact cz _ hr)) (vs:=vs) Wt Bf
 obtain⟨us,jO,F8,hfm,ahh⟩:∃us jO,us=usL++uw/\us.filterMap aO=jO.filterMap aO/\gv {σ with rows:=ai σ.rows (fr++l.fr)} c l.rs jO:=
  ⟨_,avk++uw',rfl,by rw[qN,qN,ate,atf],by rw[Ym];exact fM atS atT⟩
 have Np:∀b∈bs,∃k,σ.blk b=some k/\rd.blk b=some k/\k.kd=0:=fun b hb=>by obtain⟨k,h1,h2⟩:=CA Tf b hb;exact⟨k,cS.blk b k h1,h1,h2⟩
 have hFF:∃FF,cond (bd.flat P) [] (fr++l.fr)=FF/\av P B w0 {σ with rows:=ai σ.rows FF} c a w/\gv {σ with rows:=ai σ.rows FF} c l.rs jO/\(bd.flat P=false->FF=fr++l.fr):=by
  cases bd.flat P with
  |false=>exact⟨_,rfl,ga,ahh,fun _=>rfl⟩|true=>exact⟨[],rfl,g,C3 ahh (fun r hr k hk=>by
    have hk:(ai σ.rows (fr++l.fr)).getD r none=some k:=hk;rw[fL _ _ _ (fun x hx e=>by have:=hnf r hr x hx;rw[e,BK]at this;cases this)]at hk
    exact hk),nofun⟩
 obtain⟨FF,hFd,g1,hro,hFn⟩:=hFF
 rw[hFd]at hR⊢
 generalize amU:({σ with rows:=ai σ.rows (fr++l.fr)}:St)=σa at*
 generalize ahr:({σ with rows:=ai σ.rows FF}:St)=σ1 at*
 have SX:σ1.au=σ.au:=by rw[<-ahr]
 have XX:∀p,σ1.blk p=σ.blk p:=fun p=>by unfold St.blk;rw[SX]
 have uu:∀p∈bC ns us,∃x:Bool×Nat,((x.1=false/\x.2∈bs)\/(x.1=true/\x.2∈l.rs))/\σ1.owns c x p:=fun p hp=>by
  rcases ic.1 hp with hp|hp
  ·obtain⟨b,h1,h2⟩:=Ip Jl p hp;obtain⟨k,h3,_⟩:=Np b h1;exact⟨(false,b),.inl ⟨rfl,h1⟩,⟨k,by rw[XX];exact h3⟩,h2⟩
  ·rw[hfm]at hp;obtain⟨r,h1,h2⟩:=kw hro p hp;exact⟨(true,r),.inr ⟨rfl,h1⟩,h2⟩
 have aty:(bC ns us).Nodup:=by unfold bC;rw[hfm];refine Kh.2 ⟨Pb g1 Jl hdb (fun b hb=>by obtain⟨k,h1,_⟩:=Np b hb;exact⟨k,by rw[XX];exact h1⟩),wM g1 hro hdr,fun x hx y hy e=> ?_⟩;subst e;obtain⟨b,h1,h2⟩:=Ip Jl x hx;obtain⟨k,h3,_⟩:=Np b h1;obtain⟨r,h4,h5⟩:=kw hro x hy;have:=g1.apart (false,b) (true,r) x ⟨⟨k,by rw[XX];exact h3⟩,h2⟩ h5;cases this
 have amx:∀p∈bC ns us,∃x:Bool×Nat,σa.owns c x p:=fun p hp=>by
  rcases ic.1 hp with hp|hp
  ·obtain⟨b,h1,h2⟩:=Ip Jl p hp;obtain⟨k,h3,_⟩:=Np b h1;exact⟨(false,b),⟨k,by rw[<-amU];exact h3⟩,h2⟩
  ·rw[hfm]at hp;obtain⟨r,h1,h2⟩:=kw ahh p hp;exact⟨(true,r),h2⟩
 have re:∀p∈bC ns us,p<w.heap.size/\¬cD B σa c p:=fun p hp=>by obtain⟨x,_,hx⟩:=uu p hp;obtain⟨y,hy⟩:=amx p hp;exact⟨(g1.iF hx).2,fun h=>h.1 y hy⟩
 have Cq:∀p,B.lim p->cD B σa c p:=fun p hp=>⟨fun x hx=>by
  rcases(ga.iF hx).1 with h|h
  ·have:=B.hn p hp;omega
  ·exact B.hX p h hp,.inr (.inl (.inr hp))⟩
 have hFe:l0.os.map (Ex.ev c.ρ)++wl.os.map (Ex.ev c.ρ)++l0.es.map (Ex.ev c.ρ)++es0.map (Ex.ev c.ρ)=(l.os++l.es++es0).map (Ex.ev c.ρ):=by rw[hl];simp[fj.app,Us hws]
 have DK:=Bd _ vs ns _ _ usL uw _ _ rs asT mZ DT (by rw[<-F8];exact aty) Cq (by rw[<-F8];exact re) (by rw[hFe];exact hF)
 rw[<-F8]at DK
 rw[hcf]at DK
 refine DK.mono ?_
 rintro v w' ⟨asV,x1,xb,x2,rr,Gw,u1,ub,u2,yB,hnd,qD,aeq,XV,aev,SU⟩
 have aha:∃okR:dg,(∀p,okR p->bd.flat P=false/\Ww w.heap.size (cD B σa c) (bC ns us) (bC ns (u1++ub++u2)) p)/\me P w w' okR (bf bd.args) ns x1 u1 Gw/\nN P w' okR bd.args vs xb ub/\vD P w' okR bd.res v x2 u2 rr:=by
  cases ut:bd.flat P with
  |false=>exact⟨_,fun p hp=>⟨rfl,hp⟩,aeq,XV,aev⟩|true=>
   have U9:=ut;unfold tr.flat at U9;simp only[aL,all_append]at U9;exact⟨fun _=>False,fun p hp=>hp.elim,B3 U9.1.2.1 U9.2 aeq,E5 U9.1.2.2 XV,RD U9.1.1 aev⟩
 obtain⟨okR,aha,Vc,KK,JS⟩:=aha
 have bj:=dV (dV (lS Vc).1 (BF KK)) (VU JS)
 obtain⟨_,Qu,as3,amu⟩:=lS Vc
 have hlen:=mV bj
 generalize agR:dO (bf bd.args)++Gu bd.args++bd.res.yL=lK at*
 generalize hU:u1++ub++u2=U at*
 generalize hX:x1++xb++x2=X at*
 obtain⟨hUl,hXl⟩:=hlen
 simp only[]at hR
 have HG:∀i,rd.nr<=i->i<rd.nr+lK.length->c.R i=none:=fun i h1 h2=>hR i (by rw[BP,BP];exact iv _ (iv _ ((nt rd.nv rd.nr i bj).2 ⟨h1,h2⟩)))
 let c2:Ct:={c with R:=fun i=>if rd.nr<=i/\i<rd.nr+lK.length then U[i-rd.nr]? else c.R i}
 have HH:c.le c2:=⟨rfl,rfl,fun _ _ e=>e,fun i u e=>by show(if rd.nr<=i/\i<rd.nr+lK.length then U[i-rd.nr]? else c.R i)=some u;rw[aE (fun h=>by rw[HG i h.1 h.2]at e;cases e)];exact e⟩
 have P5:∀i,¬(rd.nr<=i/\i<rd.nr+lK.length)->c2.R i=c.R i:=fun i h=>aE h
 have hRU:∀j u,U[j]? =some u->c2.R (rd.nr+j)=some u:=fun j u h=>by have hj:=(kK.1 h).1;show(if rd.nr<=rd.nr+j/\rd.nr+j<rd.nr+lK.length then U[rd.nr+j-rd.nr]? else c.R (rd.nr+j))=some u;rw[aA (by omega),ta];exact h
 let C9:List (Nat×Option Bk):=bs.map fun b=>(b,(rd.blk b).map fun k=>⟨k.cells.map fun _=>At.top,k.ty,0⟩)
 let σ2:St:={σ1 with au:=bG σ1.au C9,rows:=ai (ai σ1.rows (l.rs.map fun r=>(r,none))) (bR P rd.nv rd.nr lK)}
 have To:∀p,(∃x∈C9,x.1=p)↔p∈bs:=fun p=>by
  constructor
  ·rintro⟨x,hx,rfl⟩;obtain⟨b,hb,rfl⟩:=pB.1 hx;exact hb
  ·intro h;exact⟨_,NB h,rfl⟩
 have Yt:∀b∈bs,∃k n cs,rd.blk b=some k/\c.β b=some n/\w.heap[n]? =some (.cells cs.toArray k.ty (0,0))/\cm c k.cells cs:=fun b hb=>by obtain⟨k,h1,h2,h3⟩:=Np b hb;obtain⟨n,cs,e,_,q2,q3⟩:=g.au b k h1;rw[dJ h3]at q2;exact⟨k,n,cs,h2,e,q2,q3⟩
 have Tp:=B5 Vc Jl Yt
 have aec:∀p k,σ2.blk p=some k->(σ1.blk p=some k/\p∉bs)\/(p∈bs/\∃n cs,c.β p=some n/\n∈ns/\w'.heap[n]? =some (np k cs)/\cm c2 k.cells cs):=fun p k hk=>by
  have hk:(bG σ1.au C9).getD p none=some k:=hk;by_cases hp:p∈bs
  ·obtain⟨v',h1,h2⟩:=mJ C9 σ1.au p ((To p).2 hp);rw[h2]at hk;subst hk;obtain⟨b,hb,e⟩:=pB.1 h1;simp only[iK]at e;obtain⟨rfl,e⟩:=e;obtain⟨kk,n,cs,q1,q2,q3,q4,q5⟩:=Tp b hb;rw[q1]at e;simp only[Option.map_some,eF]at e;subst e;exact .inr ⟨hb,n,cs,q2,q3,by rw[dJ rfl];exact q4,T5 _ _ q5⟩
  ·rw[iR C9 _ p (fun x hx e=>hp ((To p).1 ⟨x,hx,e⟩))]at hk;exact .inl ⟨hk,hp⟩
 have Cs:∀r k,σ2.row r=some k->(σ1.row r=some k/\r∉l.rs/\¬(rd.nr<=r/\r<rd.nr+lK.length))\/
  (k.own=true/\k.hole=none/\∃j u,r=rd.nr+j/\U[j]? =some u/\∃D ad n cap,u= .slice ad n cap/\(k.cont.ev c2.ρ).er= .l (dP D)/\D.length=n/\n<=cap/\cap<=maxLen/\(cap=0\/w'.ownsRow 0 k.el k.ks.length (.slice ad n cap) n (ag k.agg k.ks D))/\∀x∈D,dR P w' okR k.agg k.ks x):=fun r k hk=>by
  have hk:(ai (ai σ1.rows (l.rs.map fun r=>(r,none))) (bR P rd.nv rd.nr lK)).getD r none=some k:=hk
  rcases tN rd.nv rd.nr (ai σ1.rows (l.rs.map fun r=>(r,none))) r bj with⟨j,el,agg,ks,rfl,h2,h3,h4⟩|⟨h1,h2⟩
  ·rw[h4]at hk;cases hk
   obtain⟨u,y,q1,q2,Jr,Wu,D,ad,n,cap,p1,p2,rfl,p4,p5,p6,p7,p8,p9⟩:=yM bj h2;rw[h3]at p1;cases p1;refine .inr ⟨rfl,rfl,j,_,rfl,q1,D,ad,n,cap,rfl,?_,p5,p6,p7,p8,p9⟩;show(c.ρ.getD (rd.nv+j) (.i 0)).er=_;have hjX:=(kK.1 q2).1;rw[hρ j (by rw[yB];simp;omega),yB,aZ _ _ _ _ hjX,cE,q2];exact p4
  ·rw[h2]at hk;obtain⟨q1,q2⟩:=CT _ _ _ _ hk;exact .inl ⟨q2,q1,by omega⟩
 have ahd:∀x p,σ2.owns c2 x p->(σ1.owns c x p/\¬((x.1=false/\x.2∈bs)\/(x.1=true/\x.2∈l.rs)))\/p∈bC ns U:=by
  rintro⟨t,q⟩ p h;cases t
  ·obtain⟨⟨k,hk⟩,e⟩:=h;rcases aec q k hk with⟨h1,h2⟩|⟨h1,n,cs,h2,h3,_⟩
   ·exact .inl ⟨⟨⟨k,h1⟩,e⟩,by simp[h2]⟩
   ·have e:c.β q=some p:=e;rw[h2]at e;cases e;exact .inr (iv _ h3)
  ·obtain⟨⟨k,hk,ho⟩,v',hv',hp⟩:=h;rcases Cs q k hk with⟨h1,h2,h3⟩|⟨_,_,j,u,rfl,hu,_⟩
   ·rw[P5 q h3]at hv';exact .inl ⟨⟨⟨k,h1,ho⟩,v',hv',hp⟩,by simp[h2]⟩
   ·rw[hRU j u hu]at hv';cases hv';exact .inr (cz _ (LF.2 ⟨_,d9 hu,hp⟩))
 have Ys:∀p,okR p->cD B σ2 c2 p:=fun p hp=>by
  obtain⟨ut,hp⟩:=aha p hp;have auc:σa=σ1:=by rw[<-amU,<-ahr,hFn ut]
  rw[auc]at hp;refine⟨fun x hx=> ?_,?_⟩
  ·rcases ahd x p hx with⟨h1,h2⟩|h
   ·rcases hp.1 with h|h|h
    ·have:=(g1.iF h1).2;omega
    ·exact h.1 x h1
    ·obtain⟨y,OK,YI⟩:=uu p h;have:=g1.apart x y p h1 YI;subst this;exact h2 OK
   ·exact hp.2 h
  ·rcases hp.1 with h|h|h
   ·exact .inl (bI g1.hB h)
   ·exact h.2
   ·obtain⟨y,_,YI⟩:=uu p h;rcases(g1.iF YI).1 with h|h
    ·exact .inl h
    ·exact .inr (.inr h)
 have hnB:∀p∈bC ns U,B.n<=p\/B.X p:=fun p hp=>by
  rcases qD p hp with h|h
  ·obtain⟨y,_,YI⟩:=uu p h;exact(g1.iF YI).1
  ·exact .inl (bI g1.hB h)
 have DL:=Kh.1 hnd
 have g2:av P B w0 σ2 c2 a w':=by
  refine g1.aeS (σ2:=σ2) (c2:=c2) (fun p=>p∈bC ns us) asV (fun p hp _=>by
   obtain⟨y,_,YI⟩:=uu p hp;exact(g1.iF YI).1) (fun x p=>(x.1=false/\x.2∈bs/\c.β x.2=some p/\p∈ns)\/(∃j u,x=(true,rd.nr+j)/\U[j]? =some u/\aO u=some p)) (fun x=>¬((x.1=false/\x.2∈bs)\/(x.1=true/\x.2∈l.rs))) ?_ ?_ ?_ ?_ HH rfl ?_ (ok':=okR) ?_ (fun p hp=>⟨fun x hx=>(Ys p hp).1 x hx,(Ys p hp).2⟩) (fun p hp _ hk=>by obtain⟨y,_,YI⟩:=uu p hp;exact hk.1 y YI)
  ·rintro x y p (⟨a1,a2,a3,a4⟩|⟨j,u,rfl,hu,hp⟩) (⟨b1,b2,b3,b4⟩|⟨j',u',rfl,hu',xN⟩)
   ·obtain⟨k,h1,_⟩:=Np x.2 a2;obtain⟨k',DC,_⟩:=Np y.2 b2;obtain⟨t,q⟩:=x;obtain⟨t',q'⟩:=y;simp only at a1 b1;subst a1;subst b1;exact g.apart (false,q) (false,q') p ⟨⟨k,h1⟩,a3⟩ ⟨⟨k',DC⟩,b3⟩
   ·exact(DL.2.2 p a4 p (LF.2 ⟨u',d9 hu',xN⟩) rfl).elim
   ·exact(DL.2.2 p b4 p (LF.2 ⟨u,d9 hu,hp⟩) rfl).elim
   ·rw[D7 DL.2.1 hu hu' hp xN]
  ·rintro x p (⟨a1,a2,a3,a4⟩|⟨j,u,rfl,hu,hp⟩)
   ·exact .inl (iv _ a4)
   ·exact qD p (cz _ (LF.2 ⟨u,d9 hu,hp⟩))
  ·rintro x p (⟨a1,a2,a3,a4⟩|⟨j,u,rfl,hu,hp⟩)
   ·exact hnB p (iv _ a4)
   ·exact hnB p (cz _ (LF.2 ⟨u,d9 hu,hp⟩))
  ·intro x p hx h1 hp;obtain⟨y,OK,YI⟩:=uu p hp;have:=g1.apart x y p h1 YI;subst this;exact hx OK
  ·intro p k hk;rcases aec p k hk with⟨h1,h2⟩|⟨h1,n,cs,h2,h3,h4,h5⟩
   ·exact .inl ⟨h1,by simp[h2],rfl⟩
   ·exact .inr ⟨n,cs,h2,.inl ⟨rfl,h1,h2,h3⟩,h4,h5⟩
  ·intro r k hk;rcases Cs r k hk with⟨h1,h2,h3⟩|⟨h1,h2,j,u,rfl,hu,D,ad,n,cap,rfl,h3,h4,h5,h6,h7,h8⟩
   ·exact .inl ⟨h1,fun _=>by simp[h2],P5 r h3⟩
   ·exact .inr ⟨h1,h2,D,ad,n,cap,hRU j _ hu,h3,h4,h5,h6,h7,fun p hp=> .inr ⟨j,_,rfl,hu,hp⟩,h8⟩
 have Vd:rs.length=lK.length+(rr.length+Gw.length):=by rw[yB];simp[hXl]
 have wj:=VL (P:=P) bd.res (rd.nv+lK.length) (rd.nr+lK.length) (rd.nr+(dO (bf bd.args)++Gu bd.args).length)
 have oa:=kp (P:=P) (bv (wK P (rd.nv+lK.length) (rd.nr+lK.length) (rd.nr+(dO (bf bd.args)++Gu bd.args).length) bd.res).2.2.1 ((gK (bf bd.args)).map AS.ck)) (wK P (rd.nv+lK.length) (rd.nr+lK.length) (rd.nr+(dO (bf bd.args)++Gu bd.args).length) bd.res).2.2.2
 have Oz:=acX JS (rd.nv+lK.length) (rd.nr+lK.length) (rd.nr+(dO (bf bd.args)++Gu bd.args).length)
 have atY:(u1++ub).length=(dO (bf bd.args)++Gu bd.args).length:=by exact(mV (dV (lS Vc).1 (BF KK))).1
 have ahm:u1.length=(dO (bf bd.args)).length:=(mV (lS Vc).1).1
 obtain⟨c3,d1,d2,d3,g3,d5⟩:=VM (nv:=rd.nv+lK.length) (nr:=rd.nr+lK.length) (q:=rd.nr+(dO (bf bd.args)++Gu bd.args).length) g2 Ys (fun i hi=>by
  show c.ρ.getD (rd.nv+lK.length+i) (.i 0)=_;rw[td,hρ (lK.length+i) (by omega),yB,cE,lR (by omega),hXl,ta,gA hi,<-cE]) JS (fun j u hu=>by
  rw[td];refine hRU _ u ?_;rw[<-hU,<-atY,lR (by omega),ta];exact hu) (fun i h1 h2=>by
  rw[P5 i (by omega)];exact hR i (by rw[BP,BP];exact iv _ (cz _ ((wj.2 i).2 ⟨h1,h2⟩))))
 generalize awR:wK P (rd.nv+lK.length) (rd.nr+lK.length) (rd.nr+(dO (bf bd.args)++Gu bd.args).length) bd.res=RR at*
 obtain⟨vv,rs',AA,tl⟩:=RR
 simp only at wj oa Oz d2 d3 g3 d5 hR⊢
 obtain⟨c4,f1,f2,f3,g4,f5⟩:=oM (nr:=tl) (ps:=bv AA ((gK (bf bd.args)).map AS.ck)) (ok:=okR) g3
  (fun p hp=>⟨fun x hx=>(Ys p hp).1 x (d5.owns x p hx),by rw[d5.le.K];exact(Ys p hp).2⟩) (nM (nv:=AA) (fun i hi=>by
    rw[d5.le.ρ];show c.ρ.getD (AA+i) (.i 0)=_;rw[Oz,td,td,hρ (lK.length+(rr.length+i)) (by omega),yB,cE,lR (by omega),hXl,ta,lR (by omega),ta,<-cE]) amu) (fun i h1 h2=>by
    have amA:=wj.1;rw[d2 i (.inr h1),P5 i (by omega)];exact hR i (by rw[BP];exact cz _ ((oa.2 i).2 ⟨h1,h2⟩)))
 have YJ:c4.β=c.β:=f1.trans d1
 have ach:c.le c4:=HH.trans (d5.le.trans f5.le)
 obtain⟨e1,e2⟩:=BX (c:=c4) (w:=w) (w':=w') (blk:=rd.blk) (V:=[]) (nr:=rd.nr) Vc (by rw[YJ];exact Jl) (fun b hb=>by obtain⟨k,n,cs,q1,q2,q3,q4⟩:=Yt b hb;exact⟨k,n,cs,q1,by rw[YJ];exact q2,q3,jb ach q4⟩) as3 (fun j u hj=>(d5.le.trans f5.le).R _ _ (hRU j u (by rw[<-hU,eh,gA (kK.1 hj).1];exact hj))) (by rw[uP];exact f3)
 have g5:=g4.MW (σ2:={σ2 with au:=bG σ.au (bV true rd.blk rd.nr (bf bd.args) bs (de P tl (bv AA ((gK (bf bd.args)).map AS.ck))).1 []),rows:=ai (ai σ2.rows rs') (de P tl (bv AA ((gK (bf bd.args)).map AS.ck))).2.1}) rfl (fun _=>rfl) (fun p k2 m5=>by
  have m5:(bG σ.au (bV true rd.blk rd.nr (bf bd.args) bs (de P tl (bv AA ((gK (bf bd.args)).map AS.ck))).1 [])).getD p none=some k2:=m5;by_cases hp:p∈bs
  ·obtain⟨v',h1,h2⟩:=mJ (bV true rd.blk rd.nr (bf bd.args) bs (de P tl (bv AA ((gK (bf bd.args)).map AS.ck))).1 []) σ.au p (by rw[<-e1]at hp;obtain⟨x,hx,e⟩:=pB.1 hp;exact⟨x,hx,e⟩)
   rw[h2]at m5;subst m5;obtain⟨k,n,cs,q1,q2,q3,q4,q5⟩:=e2 p _ h1;cases q1
   obtain⟨v2,z1,z2⟩:=mJ C9 σ1.au p ((To p).2 hp);obtain⟨b,hb,e⟩:=pB.1 z1;simp only[iK]at e;obtain⟨rfl,e⟩:=e;obtain⟨kk,n',Ap,r1,r2,r3,r4,r5⟩:=Tp b hb;rw[r1]at e;simp only[Option.map_some]at e;rw[YJ]at q3;rw[r2]at q3;cases q3;rw[r4]at q4;obtain⟨rfl,Rb⟩:=mQ q4;refine⟨⟨kk.cells.map fun _=>At.top,kk.ty,0⟩,by show(bG σ1.au C9).getD b none=_;rw[z2,<-e],Rb.symm,q2,fun n2 cs2 a1 a2 _=> ?_⟩;rw[YJ,r2]at a1;cases a1;rw[dJ rfl,r4]at a2;obtain⟨rfl,_⟩:=mQ a2;exact q5
  ·rw[iR _ _ p (fun x hx e=>hp (by rw[<-e1];exact pB.2 ⟨x,hx,e⟩))]at m5;refine⟨k2,?_,rfl,rfl,fun _ _ _ _ h=>h⟩;show(bG σ1.au C9).getD p none=_;rw[iR C9 _ p (fun x hx e=>hp ((To p).1 ⟨x,hx,e⟩)),SX];exact m5)
 have atG:(FP bd.res (firstCells rd.blk bs) vv).rel c4 v:=by
  refine NE SU (SV.kv f5.le d3) ?_;cases bs with
  |nil=>exact .inl rfl|cons b bs'=>
   obtain⟨k,n,cs,q1,q2,q3,q4⟩:=Yt b (fc ..);refine .inr ⟨n,cs,k.ty,?_,q3,?_⟩
   ·cases ns with
    |nil=>simp at Jl|cons m ns'=>
     simp only[jQ,uQ]at Jl;rw[q2]at Jl;exact Jl.1.symm
   ·show cm c4 (firstCells rd.blk (b::bs')) cs;simp only[firstCells,q1];exact jb ach q4
 refine⟨c4,ach,YJ,fun i hi=> ?_,atG,?_⟩
 ·rw[BP,BP]at hi;have h1:¬(rd.nr<=i/\i<rd.nr+lK.length):=fun h=>hi (iv _ (iv _ ((nt rd.nv rd.nr i bj).2 h)));have h2:¬(rd.nr+lK.length<=i/\i<tl):=fun h=>hi (iv _ (cz _ ((wj.2 i).2 h)));have h3:¬(tl<=i/\i<(de P tl (bv AA ((gK (bf bd.args)).map AS.ck))).2.2):=fun h=>hi (cz _ ((oa.2 i).2 h));have amA:=wj.1;have amB:=oa.1;rw[f2 i (by omega),d2 i (by omega),P5 i h1]
 ·have hbb:∀p,(bG σ.au (cond bd.still [] (bV true rd.blk rd.nr (bf bd.args) bs (de P tl (bv AA ((gK (bf bd.args)).map AS.ck))).1 []))).getD p none=(bG σ.au (bV true rd.blk rd.nr (bf bd.args) bs (de P tl (bv AA ((gK (bf bd.args)).map AS.ck))).1 [])).getD p none:=fun p=>by
   cases fC:bd.still with
   |false=>rfl|true=>
    by_cases hp:p∈bs
    ·obtain⟨v',h1,h2⟩:=mJ (bV true rd.blk rd.nr (bf bd.args) bs (de P tl (bv AA ((gK (bf bd.args)).map AS.ck))).1 []) σ.au p (by rw[<-e1]at hp;obtain⟨x,hx,e⟩:=pB.1 hp;exact⟨x,hx,e⟩)
     rw[h2,ya fC Tf p v' h1];obtain⟨k,q1,q2,_⟩:=Np p hp;rw[q2];exact q1
    ·exact(iR _ _ p (fun x hx e=>hp (by rw[<-e1];exact pB.2 ⟨x,hx,e⟩))).symm
  have g6:=g5.MW (σ2:={σ2 with au:=bG σ.au (cond bd.still [] (bV true rd.blk rd.nr (bf bd.args) bs (de P tl (bv AA ((gK (bf bd.args)).map AS.ck))).1 [])),rows:=ai (ai σ2.rows rs') (de P tl (bv AA ((gK (bf bd.args)).map AS.ck))).2.1}) rfl (fun _=>rfl) (fun p k2 m5=>⟨k2,(hbb p).symm.trans m5,rfl,rfl,fun _ _ _ _ h=>h⟩);have nk:({σ2 with au:=bG σ.au (cond bd.still [] (bV true rd.blk rd.nr (bf bd.args) bs (de P tl (bv AA ((gK (bf bd.args)).map AS.ck))).1 [])),rows:=ai (ai σ2.rows rs') (de P tl (bv AA ((gK (bf bd.args)).map AS.ck))).2.1}:St)=
   {σ with au:=bG σ.au (cond bd.still [] (bV true rd.blk rd.nr (bf bd.args) bs (de P tl (bv AA ((gK (bf bd.args)).map AS.ck))).1 [])),rows:=ai σ.rows (FF++l.rs.map (fun r=>(r,none))++(bR P rd.nv rd.nr lK++rs'++(de P tl (bv AA ((gK (bf bd.args)).map AS.ck))).2.1))}:=by
   simp only[bg]
   show({σ1 with au:=_,rows:=_}:St)=_
   simp only[σ2,<-ahr]
  have g7:=g6;rw[nk]at g7;show av P B w0 {σ with au:=_,rows:=ai σ.rows (FF++l.rs.map (fun r=>(r,none))++(bR P rd.nv rd.nr lK++rs'++(de P tl (bv AA ((gK (bf bd.args)).map AS.ck))).2.1)++Jd P (rd.nv+(dO (bf bd.args)).length) (rd.nr+(dO (bf bd.args)).length) bd.args xs)} c4 a w';rw[bg];have hwl:wl.rs.Nodup:=by rw[Ym]at hdr;exact(Kh.1 hdr).2.1
  have awu:lK.length=(dO (bf bd.args)).length+(Gu bd.args).length+bd.res.yL.length:=by rw[<-agR];simp[td]
  have aml:∀j,j<(Gu bd.args).length->c.R (rd.nr+(dO (bf bd.args)).length+j)=none:=fun j hj=>HG _ (by omega) (by omega);refine Im g7 KK Wt (fun i h1 h2=>SV.kv ach (Bf i h1 h2)) (fun j u hj=> ?_) (fun j el hj=> ?_) (fun r hr=> ?_) ((Eg hws).nodup hwl)
  ·have:=hRU (u1.length+j) u (by rw[<-hU,eh,lR (by omega),ta,gA (kK.1 hj).1];exact hj);rw[ahm,<-td]at this;exact(d5.le.trans f5.le).R _ _ this
  ·have hjl:=(kK.1 hj).1;have amA:=wj.1;have ahl:St.row {σ with au:=bG σ.au (cond bd.still [] (bV true rd.blk rd.nr (bf bd.args) bs (de P tl (bv AA ((gK (bf bd.args)).map AS.ck))).1 [])),rows:=ai σ.rows (FF++l.rs.map (fun r=>(r,none))++(bR P rd.nv rd.nr lK++rs'++(de P tl (bv AA ((gK (bf bd.args)).map AS.ck))).2.1))} (rd.nr+(dO (bf bd.args)).length+j)=
    (ai (ai σ.rows (FF++l.rs.map (fun r=>(r,none)))) (bR P rd.nv rd.nr lK)).getD (rd.nr+(dO (bf bd.args)).length+j) none:=by
    show(ai σ.rows (FF++l.rs.map (fun r=>(r,none))++(bR P rd.nv rd.nr lK++rs'++(de P tl (bv AA ((gK (bf bd.args)).map AS.ck))).2.1))).getD _ none=_
    rw[bg,bg,bg,fL _ _ _ (fun x hx e=> ?_),fL _ _ _ (fun x hx e=> ?_)]
    ·have:=((wj.2 x.1).1 (NB hx)).1;omega
    ·have:=((oa.2 x.1).1 (NB hx)).1;omega
   rw[ahl];rcases tN rd.nv rd.nr (ai σ.rows (FF++l.rs.map (fun r=>(r,none)))) (rd.nr+(dO (bf bd.args)).length+j) bj with⟨j',JY,agg,ks,e,h2,h3,h4⟩|⟨h1,h2⟩
   ·have JP:j'=(dO (bf bd.args)).length+j:=by omega
    subst JP;have:JY=el:=by rw[<-agR,eh,lR (by omega),ta,gA hjl,hj]at h2;exact(xX h2).symm
    subst this;refine⟨agg,ks,h3,?_⟩;rw[h4,td]
   ·omega
  ·have Vd:r∈l.rs:=by rw[Ym];exact cz _ ((Eg hws).subset hr)
   obtain⟨u,hu⟩:=Pw hro r Vd;have Tg:∀x∈bR P rd.nv rd.nr lK++rs'++(de P tl (bv AA ((gK (bf bd.args)).map AS.ck))).2.1,x.1≠r:=fun x hx e=>by have:=hR x.1 (NB hx);rw[e,hu]at this;cases this
   refine⟨?_,fun j hj e=> ?_⟩
   ·show(ai σ.rows (FF++l.rs.map (fun r=>(r,none))++(bR P rd.nv rd.nr lK++rs'++(de P tl (bv AA ((gK (bf bd.args)).map AS.ck))).2.1))).getD r none=none;rw[bg,fL _ _ _ Tg,bg];obtain⟨v2,z1,z2⟩:=E0 (l.rs.map (fun r=>(r,none))) (ai σ.rows FF) r ⟨(r,none),NB Vd,rfl⟩;rw[z2];obtain⟨q,_,e2⟩:=pB.1 z1;cases e2;rfl
   ·have:=aml j hj;rw[<-e,hu]at this;cases this
end
section
variable{P:Program}{B:fZ}{w0:World}{σ:St}{c:Ct}{a:Act}{w w':World}{o:Oper}{rd:Rd}
def NH{s x:Operand}{t t':TypeId}{r:dl}(h:GM P rd s x t t'=some r):r.call=none:=by
 unfold GM at h;repeat' (split at h)
 all_goals(first|(cases h;done)|(cases h;rfl))
def Js{s x:Operand}{t t':TypeId}{r:dl}(h:xZ P rd s x t t'=some r):r.call=none:=by
 unfold xZ at h;repeat' (split at h)
 all_goals(first|(cases h;done)|(cases h;rfl))
def N3{d s:Operand}{t:TypeId}{r:dl}(h:G5 P rd d s t=some r):r.call=none:=by
 unfold G5 at h;repeat' (split at h)
 all_goals(first|(cases h;done)|(cases h;rfl))
def Rm{P:Program}{w:World}{t g:Nat}{name:String}{v:Value}(h:EW P t name=some g)(n:Nat):(Go.method (n+1) t v name).run P w= .ok (g,v) w:=by
 unfold EW at h;split at h
 ·rename_i m h0 h1;split at h
  ·rename_i hp;split at h
   ·rename_i f hf;cases h
    obtain⟨i,h2,h3⟩:=AL.1 h1;have xN:m.path= #[]:=by simpa using hp
    unfold i9 at h0;split at h0
    ·rename_i fs hu;simp[Go.method,typeInfo,h2,h3,xN,Go.follow,hf,Go.receiverAt,run_underlying hu,Go.Place.get]
    ·rename_i k e hu;simp[Go.method,typeInfo,h2,h3,xN,Go.follow,hf,Go.receiverAt,run_underlying hu,Go.Place.get]
    ·cases h0
    ·cases h0
   ·cases h
  ·cases h
 ·cases h
def HZ{P:Program}{w:World}{a:Act}{o:Oper}{cl:Call}{r:Operand}{name:String}{t g:Nat}{us:aW}(ho:o.op= .call cl)(vg:cl.callee= .invoke r name)(hv:a.eval r= .iface t (.agg us.toArray))(hm:EW P t name=some g):
 (execOp a.eval o).run P w=(callFunc g (#[.agg us.toArray]++cl.args.map a.eval)).run P w:=by
 have hmr:=fun n=>Rm (P:=P) (w:=w) (v:= .agg us.toArray) hm n
 have hd:P.types.size+Made.depth=(P.types.size+99)+1:=rfl
 have e1:(#[a.eval r]++cl.args.map a.eval)[0]? =some (.iface t (.agg us.toArray)):=by rw[Array.getElem?_append_left (by simp)];simp[hv]
 have e2:(#[a.eval r]++cl.args.map a.eval).extract 1 (#[a.eval r]++cl.args.map a.eval).size=cl.args.map a.eval:=by apply Array.ext';simp only[Array.toList_extract,Array.toList_append,extract_eq_take_drop,Array.size_append];simp[lQ]
 have hpr:(Go.program).run P w= .ok P w:=by first|rfl|(unfold Go.program;simp[Sem.run])
 have oD:(callMethod (.iface t (.agg us.toArray)) name (cl.args.map a.eval)).run P w=(callFunc g (#[Value.agg us.toArray]++cl.args.map a.eval)).run P w:=by unfold callMethod;simp only[Sem.run_bind,hpr,Result.andThen_ok,hd,hmr]
 generalize hA:(#[a.eval r]++cl.args.map a.eval)=A at e1 e2
 simp only[execOp,ho,resolve,vg,Sem.run_bind,Sem.run_pure,Result.andThen_ok,invoke,hA,e1,e2,oD]
def PI{cons:ug}{cl:Call}{r:dl}(h:wP P cons rd cl=some r)(hc:r.call≠none):
 ∃g xs,tF P cons rd g xs=some r/\((∃f,cl.callee= .value f/\((rd.ev f= .c (.a (.fn g []))/\xs=cl.args.toList.map rd.ev)\/∃m b,rd.ev f= .c (.a (.fb g m b))/\xs= .at (Iw m b)::cl.args.toList.map rd.ev))\/
  ∃x name t cs,cl.callee= .invoke x name/\rd.ev x= .JU t cs/\EW P t name=some g/\xs= .c (.g cs)::cl.args.toList.map rd.ev):=by
 unfold wP at h
 split at h
 ·split at h
  ·split at h
   ·cases h;exact(hc rfl).elim
   ·cases h;exact(hc rfl).elim
   ·simp only[nW]at h;obtain⟨_,_,rfl⟩:=h;exact(hc rfl).elim
   ·cases h;exact(hc rfl).elim
   ·cases h
  ·cases h
 ·split at h
  ·split at h
   ·cases h;exact(hc rfl).elim
   ·cases h
  ·cases h
 ·exfalso;repeat' (split at h)
  all_goals(first|(cases h;done)|(cases h;exact hc rfl))
 ·split at h
  ·split at h
   ·simp only[nW]at h;obtain⟨_,_,rfl⟩:=h;exact(hc rfl).elim
   ·cases h
  ·cases h
 ·split at h
  ·split at h
   ·simp only[nW]at h;obtain⟨_,_,rfl⟩:=h;exact(hc rfl).elim
   ·cases h
  ·cases h
 ·split at h
  ·exact(hc (N3 h)).elim
  ·cases h
 ·
  exfalso;split at h<;>(try(cases h;done));split at h;rotate_left
  ·split at h
   ·rename_i hz;cases h
    exact hc (Js hz)
   ·exact hc (NH h)
  split at h<;>(try(cases h;done));split at h<;>(try(cases h;done));split at h<;>(try(cases h;done));split at h<;>(try(cases h;done))
  ·split at h<;>(try(cases h;done));split at h<;>(try(cases h;done));cases h;exact hc rfl
  ·cases h;exact hc rfl
  ·simp only at h;split at h<;>(try(cases h;done));split at h<;>(try(cases h;done));cases h;exact hc rfl
 ·rename_i fo vg;split at h
  ·rename_i g he;exact⟨g,_,h,.inl ⟨fo,vg,.inl ⟨he,rfl⟩⟩⟩
  ·rename_i g m b he;exact⟨g,_,h,.inl ⟨fo,vg,.inr ⟨m,b,he,rfl⟩⟩⟩
  ·cases h
 ·rename_i x name vg;split at h
  ·rename_i t cs he;split at h
   ·rename_i g hm;exact⟨g,_,h,.inr ⟨x,name,t,cs,vg,he,hm,rfl⟩⟩
   ·cases h
  ·cases h
 ·cases h
def Sv(g:av P B w0 σ c a w)(cS:xz σ c a rd){pl:ip}{cons:ug}{Γ:Nat->dK}(hΓ:∀bd∈cons,∀w,f8 B.n B.X w0 w->bd.F6 P (Γ bd.key) B.lim w){gl:List Wd}{r:dl}(h:PL P gl pl cons o rd=some r){f:Nat}{es:bZ}{n:Nat}(hc:r.call=some (f,es,n)){rs:ab}(hF:Γ f (es.map (Ex.ev c.ρ))=some rs)(hρ:∀i,i<rs.length->c.ρ.getD (rd.nv+i) (.i 0)=rs.getD i (.i 0))(hR:∀i,i∈r.nr->c.R i=none):
 ∀(K:Act->World->Prop)(Q:Exit->Act->World->Prop),(∀v w' c',c.le c'->c'.β=c.β->(∀i,i∉r.nr->c'.R i=c.R i)->r.val.rel c' v->
  av P B w0 {σ with au:=bG σ.au r.au,rows:=ai σ.rows r.rows} c' a w'->K (a.put o.dst v) w')->o.wp P a w K Q:=by
 unfold PL at h
 split at h
 rotate_left
 ·rw[RZ h]at hc;cases hc
 ·split at h
  ·split at h
   ·rename_i h1;cases h;rw[h1]at hc;cases hc
   ·cases h
  ·cases h
 rename_i cl ho
 obtain⟨gg,xs,hcc,uL⟩:=PI h (by rw[hc];exact nofun)
 have key:∀first:Array Value,(execOp a.eval o).run P w=(callFunc gg (first++cl.args.map a.eval)).run P w->xs.length=(first.toList++cl.args.toList.map a.eval).length->(∀i(h1:i<xs.length)(h2:i<(first.toList++cl.args.toList.map a.eval).length),(xs[i]).rel c ((first.toList++cl.args.toList.map a.eval)[i]))->∀(K:Act->World->Prop)(Q:Exit->Act->World->Prop),(∀v w' c',c.le c'->c'.β=c.β->(∀i,i∉r.nr->c'.R i=c.R i)->r.val.rel c' v->
  av P B w0 {σ with au:=bG σ.au r.au,rows:=ai σ.rows r.rows} c' a w'->K (a.put o.dst v) w')->o.wp P a w K Q:=by
  intro first Be hl hx K Q hK
  have DK:=Qt g cS hΓ hcc hc hF hρ hR hl hx
  have QR:(first.toList++cl.args.toList.map a.eval).toArray=first++cl.args.map a.eval:=by apply Array.ext';simp
  rw[QR]at DK
  rcases DK with⟨dD,QT⟩|⟨v,w',dD,c',h1,h2,h3,h4,h5⟩
  ·unfold Oper.wp;rw[Be,dD];refine QT.mono ?_;rintro e w' ⟨v,rfl,c',h1,h2,h3,h4,h5⟩;exact hK v w' c' h1 h2 h3 h4 h5
  ·unfold Oper.wp;rw[Be,dD];exact hK v w' c' h1 h2 h3 h4 h5
 rcases uL with⟨fo,vg,uL⟩|⟨x,name,t,cs,vg,he,hm,rfl⟩
 rotate_left
 ·have QX:=cS.ev x;rw[he]at QX;obtain⟨us,hv,hr⟩:=QX;refine key #[.agg us.toArray] (HZ ho vg hv hm) (by simp) (fun i h1 h2=> ?_);cases i with
  |zero=>exact⟨us,rfl,hr⟩|succ i=>simpa using cS.ev _
 have QX:=cS.ev fo
 rcases uL with⟨he,rfl⟩|⟨m,b,he,rfl⟩
 ·rw[he]at QX;obtain⟨ns,Jl,QX⟩:=QX;have:ns=[]:=by cases ns with|nil=>rfl|cons=>simp at Jl
  subst this;exact key #[] (by simp[execOp,ho,resolve,vg,QX,Deferred.ofValue,invoke]) (by simp) (fun i h1 h2=>by simpa using cS.ev _)
 ·rw[he]at QX;obtain⟨nn,hb,QX⟩:=QX;refine key #[K9 m nn] (by simp[execOp,ho,resolve,vg,QX,Deferred.ofValue,invoke]) (by simp) (fun i h1 h2=> ?_);cases i with
  |zero=>cases m<;>exact⟨nn,hb,rfl⟩
  |succ i=>simpa using cS.ev _
end
abbrev Nx:=List (ab->Prop)
def T.wp(Γ:Nat->dK){L:Type}:T L->ab->Nx->(L->ab->Nx->Prop)->Prop
 | .ah x,ρ,N,Φ=>Φ x ρ N| .fail _,_,_,_=>False| .ite c p q,ρ,N,Φ=>if(c.ev ρ).bool=true then p.wp Γ ρ N Φ else q.wp Γ ρ N Φ
 | .aa c k,ρ,N,Φ=>(c.ev ρ).bool=true/\k.wp Γ ρ N Φ| .call f es n k,ρ,N,Φ=>∃rs,Γ f (es.map (Ex.ev ρ))=some rs/\rs.length=n/\k.wp Γ (ρ++rs) N Φ| .loop jH body,ρ,N,Φ=>∃(I:ab->Prop)(μ:ab->Nat),I (jH.map (Ex.ev ρ))/\∀jw,jw.length=jH.length->I jw->body.wp Γ (ρ++jw) (N++[fun v=>I v/\μ v<μ jw]) Φ
 | .next l vs,ρ,N,_=>match N[l]? with|some J=>J (vs.map (Ex.ev ρ))|none=>False
section
variable{Γ:Nat->dK}{L M:Type}
def T.wp_mono:∀{t:T L}{ρ:ab}{N:Nx}{Φ Ψ:L->ab->Nx->Prop},t.wp Γ ρ N Φ->(∀x r n,Φ x (ρ++r) (N++n)->Ψ x (ρ++r) (N++n))->t.wp Γ ρ N Ψ
 | .ah x,ρ,N,Φ,Ψ,h,k=>by have:=k x [] [];simp only[uP]at this;exact this h
 | .fail _,_,_,_,_,h,_=>h| .ite c p q,ρ,N,Φ,Ψ,h,k=>by
   simp only[T.wp]at h⊢;split
   ·rename_i hc;rw[aA hc]at h;exact T.wp_mono h k
   ·rename_i hc;rw[aE hc]at h;exact T.wp_mono h k
 | .aa c t,ρ,N,Φ,Ψ,h,k=>⟨h.1,T.wp_mono h.2 k⟩| .call f es n t,ρ,N,Φ,Ψ,⟨rs,h1,h2,h3⟩,k=>⟨rs,h1,h2,T.wp_mono h3 (fun x r n h=>by rw[eh]at h⊢;exact k x _ n h)⟩| .loop jH t,ρ,N,Φ,Ψ,⟨I,μ,h1,h2⟩,k=>⟨I,μ,h1,fun jw hl hI=>T.wp_mono (h2 jw hl hI) (fun x r n h=>by rw[eh,eh]at h⊢;exact k x _ _ h)⟩| .next l vs,_,_,_,_,h,_=>h
def T.wp_bind:∀{t:T L}{f:L->T M}{ρ:ab}{N:Nx}{Φ:M->ab->Nx->Prop},(t.bind f).wp Γ ρ N Φ->t.wp Γ ρ N (fun x ρ' N'=>(f x).wp Γ ρ' N' Φ)
 | .ah x,f,ρ,N,Φ,h=>h| .fail _,_,_,_,_,h=>h| .ite c p q,f,ρ,N,Φ,h=>by
   simp only[T.wp,T.bind]at h⊢;split
   ·rename_i hc;rw[aA hc]at h;exact T.wp_bind h
   ·rename_i hc;rw[aE hc]at h;exact T.wp_bind h
 | .aa c t,f,ρ,N,Φ,h=>⟨h.1,T.wp_bind h.2⟩| .call g es n t,f,ρ,N,Φ,⟨rs,h1,h2,h3⟩=>⟨rs,h1,h2,T.wp_bind h3⟩| .loop jH t,f,ρ,N,Φ,⟨I,μ,h1,h2⟩=>⟨I,μ,h1,fun jw hl hI=>T.wp_bind (h2 jw hl hI)⟩| .next l vs,_,_,_,_,h=>h
end
structure Ct.sub(c0 c:Ct):Prop where
 K:c.K=c0.K
 β:∀i n,c0.β i=some n->c.β i=some n
 R:∀i v,c0.R i=some v->c.R i=some v
def Ct.sub.refl(c:Ct):c.sub c:=⟨rfl,fun _ _ h=>h,fun _ _ h=>h⟩
def Ct.sub.trans{x y z:Ct}(h:x.sub y)(k:y.sub z):x.sub z:=⟨k.K.trans h.K,fun i n e=>k.β i n (h.β i n e),fun i n e=>k.R i n (h.R i n e)⟩
def Ct.le.sub{c c':Ct}(h:c.le c'):c.sub c':=⟨h.K,h.β,h.R⟩
structure Is(P:Program)(B:fZ)(w0:World)(c0 c:Ct)(σ:St)(ρ:ab)(N:Nx)(a:Act)(w:World):Prop where
 sub:c0.sub c
 env:c.ρ=ρ
 cO:av P B w0 σ c a w
 fresh:io σ c
 nv:σ.nv=ρ.length
 lv:σ.lv=N.length
def ku:∀(r:List (Nat×Option Bk))(l:List (Option Bk)),l.length<=(bG l r).length/\∀x∈r,x.1<(bG l r).length
 |[],l=>⟨aX _,nofun⟩|(i,v)::r,l=>by
  have ih:=ku r (bU none l i v);have hl:=tW none l i v;refine⟨by simp only[bG];omega,fun x hx=> ?_⟩;rcases bX.1 hx with rfl|hx
  ·simp only[bG];omega
  ·exact ih.2 x hx
def ci:∀(r:cv)(l:List (Option Rw)),l.length<=(ai l r).length/\∀x∈r,x.1<(ai l r).length
 |[],l=>⟨aX _,nofun⟩|(i,v)::r,l=>by
  have ih:=ci r (bU none l i v);have hl:=tW none l i v;refine⟨by simp only[ai];omega,fun x hx=> ?_⟩;rcases bX.1 hx with rfl|hx
  ·simp only[ai];omega
  ·exact ih.2 x hx
section
variable{P:Program}{B:fZ}{w0:World}{σ:St}{c c0:Ct}{a:Act}{w:World}
def adG(r:dl):Prop:=(∀i∈r.nb,∃k,(i,k)∈r.au)/\(∀i∈r.nr,i∈r.rows.map (·.1))
def EJ(hf:io σ c){c':Ct}{r:dl}(ho:adG r)(hβ:∀i,i∉r.nb->c'.β i=c.β i)(hR:∀i,i∉r.nr->c'.R i=c.R i)(dst:Option Tmp):io (σ.after dst r) c':=by
 have l1:=ku r.au σ.au;have l2:=ci r.rows σ.rows;refine⟨fun p hp=> ?_,fun q hq=> ?_⟩
 ·have hp:(bG σ.au r.au).length<=p:=hp;rw[hβ p (fun hm=>by obtain⟨k,hk⟩:=ho.1 p hm;have:=l1.2 _ hk;simp only at this;omega)]
  exact hf.β p (by omega)
 ·have hq:(ai σ.rows r.rows).length<=q:=hq;rw[hR q (fun hm=>by obtain⟨x,hx,e⟩:=pB.1 (ho.2 q hm);have:=l2.2 _ hx;rw[e]at this;omega)]
  exact hf.R q (by omega)
end
section
variable{Γ:Nat->dK}{L:Type}
def rI{k:T L}{ρ:ab}{N:Nx}{Φ:L->ab->Nx->Prop}:∀{cs:bZ},(vM cs k).wp Γ ρ N Φ->(∀e∈cs,(e.ev ρ).bool=true)/\k.wp Γ ρ N Φ
 |[],h=>⟨fun _ h=>(by cases h),h⟩|x::cs,h=>by
  unfold vM at h;split at h
  ·rename_i h1;cases h1
  ·rename_i h1;cases h1;have:=rI h;exact⟨fun e he=>(bX.1 he).elim (fun h=>by rw[h];rfl) (this.1 e),this.2⟩
  ·rename_i h1;cases h1;exact h.2.elim
  ·rename_i h1;cases h1;have:=rI h.2;exact⟨fun e he=>(bX.1 he).elim (fun h'=>by rw[h'];exact h.1) (this.1 e),this.2⟩
def Lo{b:Bool}{r:dl}{k:dl->T L}{ρ:ab}{N:Nx}{Φ:L->ab->Nx->Prop}(h:(Bw b r k).wp Γ ρ N Φ):
 ∃sv,(k {r with val:=sv}).wp Γ ρ N Φ/\∀c v,c.ρ=ρ->r.val.rel c v->sv.rel c v:=by
 unfold Bw at h
 split at h
 ·rename_i x hv;refine⟨_,h,fun c v _ hr=> ?_⟩;rw[hv]at hr;exact hr
 ·rename_i e hv _;simp only[T.wp]at h;by_cases hb:(e.ev ρ).bool=true
  ·rw[aA hb]at h;refine⟨_,h,fun c v hc hr=> ?_⟩;subst hc;have hr:v= .bool (e.ev c.ρ).bool:=by rename_i h1;rw[h1]at hr;exact hr
   show v= .bool true;rw[hr,hb]
  ·rw[aE hb]at h;refine⟨_,h,fun c v hc hr=> ?_⟩;subst hc;have hr:v= .bool (e.ev c.ρ).bool:=by rename_i h1;rw[h1]at hr;exact hr
   show v= .bool false;rw[hr];simpa using hb
 ·exact⟨r.val,h,fun _ _ _ hr=>hr⟩
end
section
variable{P:Program}{B:fZ}{w0:World}{σ:St}{c c0:Ct}{a:Act}{w:World}{Γ:Nat->dK}
def z9{ops:dB}{o:Oper}{b:Bool}(h:rH ops σ o=some b)(g:av P B w0 σ c a w):Region.wanted o (yielded ops.toArray a.tmps)=b:=by
 unfold rH at h;unfold Region.wanted;split at h
 ·rename_i hg;cases h;rw[hg]
 ·rename_i gi want hg;rw[hg];simp only;split at h
  ·rename_i t ht;have hs:=g.aC t;have hy:yielded ops.toArray a.tmps gi=match a.tmps[t]? with|some (.bool b)=>some b|_=>none:=by unfold yielded;rw[getElem?_toArray,ht];rfl
   rw[hy];split at h
   ·rename_i x hx;cases h
    rw[hx]at hs;have hs:a.tmps.getD t undef= .bool x:=hs;cases ha:a.tmps[t]? with
    |none=>simp[ha,undef]at hs|some v=>simp[ha]at hs;subst hs;simp only;cases x<;>cases want<;>rfl
   ·rename_i hx;cases h
    rw[hx]at hs;obtain⟨vs,hv,_⟩:=hs;cases ha:a.tmps[t]? with
    |none=>rfl|some v=>simp[ha]at hv;subst hv;rfl
   ·cases h
  ·cases h
structure Cx.ok(X:Cx)(Γ:Nat->dK)(B:fZ)(w0:World):Prop where
 mixed:X.P.follows .mixedOrders=true
 pl:oU X.P X.pl
 cons:∀bd∈X.cons,∀w,f8 B.n B.X w0 w->bd.F6 X.P (Γ bd.key) B.lim w
 ins:∀f,iC X.ins f=true->∀args w,(callFunc f args).run X.P w= .ok (.enter f args) w
 gl:∀w,f8 B.n B.X w0 w->∀x∈X.gl,XP X.P B.lim w x
def jm{l:bH}{n:Nat}:iC l n=true↔n∈l:=by
 unfold iC;rw[fS];constructor
 ·rintro⟨x,hx,e⟩;rw[fh e];exact hx
 ·intro h;exact⟨n,h,BK n⟩
def BU{σ:St}{c':Ct}{o:Oper}{r:dl}{sv:SV}{v:Value}{ρ':ab}{N:Nx}{w':World}(qD:c0.sub c')(sn:c'.ρ=ρ')(hg:av P B w0 {σ with au:=bG σ.au r.au,rows:=ai σ.rows r.rows} c' a w')(hf:io (σ.after o.dst r) c')(hn:(σ.after o.dst r).nv=ρ'.length)(hl:σ.lv=N.length)(hv:sv.rel c' v):Is P B w0 c0 c' (σ.after o.dst {r with val:=sv}) ρ' N (a.put o.dst v) w':=by
 have:=hg.put hv o.dst
 refine⟨qD,sn,?_,⟨hf.β,hf.R⟩,hn,hl⟩
 cases hd:o.dst with|none=>rw[hd]at this;simp only[St.after];exact⟨this.below,this.hB,this.defers,this.size,this.aC,this.au,this.rows,this.apart⟩|some d=>rw[hd]at this;simp only[St.after];exact⟨this.below,this.hB,this.defers,this.size,this.aC,this.au,this.rows,this.apart⟩
def RT{X:Cx}(hX:X.ok Γ B w0){ops:dB}{o:Oper}{ρ:ab}{N:Nx}(hi:Is X.P B w0 c0 c σ ρ N a w){r:dl}(hr:xy X ops σ o=some r){L:Type}{k:T L}{Φ:L->ab->Nx->Prop}(h:(aaF r k).wp Γ ρ N Φ):
 ∃ρ',(∃r0,ρ'=ρ++r0)/\k.wp Γ ρ' N Φ/\∀(K:Act->World->Prop)(Q:Exit->Act->World->Prop),
  (∀c' v w',c'.ρ=ρ'->r.val.rel c' v->(∀sv,sv.rel c' v->Is X.P B w0 c0 c' (σ.after o.dst {r with val:=sv}) ρ' N (a.put o.dst v) w')->K (a.put o.dst v) w')->o.wp X.P a w K Q:=by
 unfold xy at hr
 split at hr
 rotate_left
 ·cases hr
 rename_i r' Vf
 split at hr
 rotate_left
 ·cases hr
 rename_i hc
 cases hr
 simp only[aL]at hc
 obtain⟨Oy,DQ⟩:=hc
 simp only[Hx,aL,lO,fS]at Oy
 obtain⟨hgb,Q2⟩:=Oy
 have hnb:∀i∈r.nb,i=σ.au.length:=fun i hi=>fh (hgb i hi).1
 have hnr:∀i∈r.nr,σ.rows.length<=i:=fun i hi=>oo (Q2 i hi).1
 have Yw:adG r:=⟨fun i hi=>by
  obtain⟨x,hx,e⟩:=(hgb i hi).2;exact⟨x.2,by rw[<-fh e];exact hx⟩,fun i hi=>by
  obtain⟨x,hx,e⟩:=(Q2 i hi).2;exact pB.2 ⟨x,hx,fh e⟩⟩
 obtain⟨DM,h⟩:=rI h
 have Yj:r.call=none\/∃f es n,r.call=some (f,es,n):=by cases r.call with|none=>exact .inl rfl|some x=>exact .inr ⟨x.1,x.2.1,x.2.2,rfl⟩
 rcases Yj with cC|⟨f,es,n,cC⟩
 ·rw[cC]at h;refine⟨ρ,⟨[],by simp⟩,h,fun K Q hK=> ?_⟩;have sn:=hi.env;subst sn;obtain⟨nx,w',v,c',dD,qu,hle,hβ,hR,fp,QZ⟩:=aeU (o:=o) (hX.gl w hi.cO.below) hX.pl hi.cO (zV hi.cO _ _ _ _ _ _) (fun i EO=>hi.fresh.β i (by rw[hnb i EO];exact aX _)) (fun i EO=>hi.fresh.R i (hnr i EO)) Vf cC DM;have gV:io (σ.after o.dst r) c':=EJ hi.fresh Yw hβ hR o.dst;have OB:K (a.put o.dst v) w':=hK c' v w' hle.ρ fp (fun sv tj=>BU (hi.sub.trans hle.sub) hle.ρ QZ gV (by simp only[St.after,cC];exact hi.nv) hi.lv tj);unfold Oper.wp;rw[dD];rcases qu with rfl|⟨rfl,rfl⟩
  ·exact OB
  ·exact OB
 ·rw[cC]at h;simp only at h;simp only[LR,cC,aL]at DQ;obtain⟨DQ,atb⟩:=DQ;obtain⟨rs,hF,hlen,h⟩:=h;refine⟨ρ++rs,⟨rs,rfl⟩,h,fun K Q hK=> ?_⟩;have sn:=hi.env;subst sn;have yw:∀i,i<σ.nv->(c.ρ++rs).getD i (.i 0)=c.ρ.getD i (.i 0):=fun i h=>aZ _ _ _ _ (by rw[<-hi.nv];exact h);have g2:av X.P B w0 σ {c with ρ:=c.ρ++rs} a w:=hi.cO.env DQ yw;have Mn:es.map (Ex.ev (c.ρ++rs))=es.map (Ex.ev c.ρ):=u5 yw atb;refine Sv (o:=o) g2 (zV g2 _ _ _ _ _ _) hX.cons Vf cC (rs:=rs) (by rw[Mn];exact hF) (fun i EO=>by show(c.ρ++rs).getD (σ.nv+i) (.i 0)=_;rw[hi.nv,cE,lR (by omega),ta,<-cE]) (fun i EO=>hi.fresh.R i (hnr i EO)) K Q ?_
  intro v w' c' hle hβ hR fp QZ;have gV:io (σ.after o.dst r) c':=EJ (c:={c with ρ:=c.ρ++rs}) ⟨hi.fresh.β,hi.fresh.R⟩ Yw (fun i _=>by rw[hβ]) hR o.dst;exact hK c' v w' hle.ρ fp (fun sv tj=>BU (hi.sub.trans ⟨hle.K,hle.β,hle.R⟩) hle.ρ QZ gV (by simp only[St.after,cC,fR,<-hi.nv,hlen]) hi.lv tj)
def av.ah2{σ σ':St}{c c':Ct}{a:Act}{w w':World}(g':av P B w0 {σ' with aC:=[]} c' a w')(g:av P B w0 σ c a w)(hu:σ.under=true)(qD:c.sub c'){ρ':ab}(sn:c'.ρ=ρ'){r:ab}(hρ:ρ'=c.ρ++r)(Oz:σ.nv=c.ρ.length):
 av P B w0 {σ' with aC:=σ.aC} c' a w':=by
 refine⟨g'.below,g'.hB,g.defers,g.size,fun t=> ?_,g'.au,g'.rows,g'.apart⟩
 have g2:=g.env hu (ρ':=ρ') (fun i hi=>by rw[hρ];exact aZ _ _ _ _ (by omega))
 exact SV.kv (c:={c with ρ:=ρ'}) ⟨sn,qD.K,qD.β,qD.R⟩ (g2.aC t)
def Rf{X:Cx}{rd:Rd}{o:Oper}{g:Nat}{xs:List SV}(h:YO X rd o=some (g,xs)):
 ∃cl,o.op= .call cl/\iC X.ins g=true/\((∃fo,cl.callee= .value fo/\((∃mE,rd.ev fo= .c (.a (.fn g mE))/\xs=cl.args.toList.map rd.ev++mE.map fun p=>SV.at (.ptr p 0))\/∃m b,rd.ev fo= .c (.a (.fb g m b))/\xs=SV.at (Iw m b)::cl.args.toList.map rd.ev))\/
  ∃r name t cs,cl.callee= .invoke r name/\rd.ev r= .JU t cs/\EW X.P t name=some g/\xs= .c (.g cs)::cl.args.toList.map rd.ev):=by
 unfold YO at h
 split at h
 ·rename_i cl ho;split at h
  ·rename_i fo hc;split at h
   ·rename_i g' mE mf;split at h
    ·cases h
    ·split at h
     ·cases h
     ·rename_i vl;simp only[eF,iK]at h;obtain⟨rfl,rfl⟩:=h;exact⟨cl,ho,by simpa using vl,.inl ⟨fo,hc,.inl ⟨mE,mf,rfl⟩⟩⟩
   ·rename_i g' m b mf;split at h
    ·cases h
    ·split at h
     ·cases h
     ·rename_i vl;simp only[eF,iK]at h;obtain⟨rfl,rfl⟩:=h;exact⟨cl,ho,by simpa using vl,.inl ⟨fo,hc,.inr ⟨m,b,mf,rfl⟩⟩⟩
   ·cases h
  ·rename_i r name hc;split at h
   ·rename_i t cs mf;split at h
    ·rename_i g' hm;split at h
     ·cases h
     ·rename_i vl;simp only[eF,iK]at h;obtain⟨rfl,rfl⟩:=h;exact⟨cl,ho,by simpa using vl,.inr ⟨r,name,t,cs,hc,mf,hm,rfl⟩⟩
    ·cases h
   ·cases h
  ·cases h
 ·cases h
def Vm{P:Program}{B:fZ}{w0:World}{σ:St}{c:Ct}{a:Act}{w:World}{o:Oper}{ts ds ls:bH}{nv nb nr:Nat}(g0:av P B w0 σ c a w){cl:Call}{fo:Operand}{g:Nat}{xs:List SV}(ho:o.op= .call cl)(vg:cl.callee= .value fo)(vl:∀args w,(callFunc g args).run P w= .ok (.enter g args) w)
 (h:(∃mE,(CV σ.slot σ.blk σ.row ts ds ls nv nb nr).ev fo= .c (.a (.fn g mE))/\xs=cl.args.toList.map (CV σ.slot σ.blk σ.row ts ds ls nv nb nr).ev++mE.map fun p=>SV.at (.ptr p 0))\/∃m b,(CV σ.slot σ.blk σ.row ts ds ls nv nb nr).ev fo= .c (.a (.fb g m b))/\xs=SV.at (Iw m b)::cl.args.toList.map (CV σ.slot σ.blk σ.row ts ds ls nv nb nr).ev):
 ∃vs:aW,(execOp a.eval o).run P w= .ok (.enter g vs.toArray) w/\xs.length=vs.length/\∀i(h1:i<xs.length)(h2:i<vs.length),(xs[i]).rel c (vs[i]):=by
 have cS:=zV g0 ts ds ls nv nb nr
 have hf:=cS.ev fo
 rcases h with⟨mE,mf,uL⟩|⟨m,b,mf,uL⟩
 ·rw[mf]at hf;obtain⟨ns,Jl,QX⟩:=hf;have hnl:ns.length=mE.length:=by have:=congrArg length Jl;simpa using this.symm
  refine⟨(cl.args.toList.map a.eval)++ns.map fun n=>Value.pointer (some ⟨n,0,none⟩),?_,by rw[uL];simp[hnl],fun i h1 h2=> ?_⟩
  ·have cC:=vl ((cl.args.toList.map a.eval)++ns.map fun n=>Value.pointer (some ⟨n,0,none⟩)).toArray w;have QR:(cl.args.map a.eval)++(ns.map fun n=>Value.pointer (some ⟨n,0,none⟩)).toArray=((cl.args.toList.map a.eval)++ns.map fun n=>Value.pointer (some ⟨n,0,none⟩)).toArray:=by apply Array.ext';simp
   rw[<-QR]at cC⊢;simp[execOp,ho,resolve,vg,QX,Deferred.ofValue,invoke,cC]
  ·subst uL;rw[getElem_append,getElem_append];simp only[Ab,cW];split
   ·rename_i bi;simp only[getElem_map];exact cS.ev _
   ·rename_i bi;simp only[getElem_map];refine⟨ns[i-cl.args.size]'(by simp at h2 bi;omega),?_,rfl⟩;have h3:i-cl.args.size<mE.length:=by simp at h1 bi;omega
    have:=congrArg (fun l=>l[i-cl.args.size]?) Jl;simp only[vR,cB h3,cB (by omega:i-cl.args.size<ns.length),Option.map_some,eF]at this;exact this
 ·rw[mf]at hf;obtain⟨nn,hb,QX⟩:=hf;refine⟨K9 m nn::cl.args.toList.map a.eval,?_,by rw[uL];simp,fun i h1 h2=> ?_⟩
  ·have cC:=vl (K9 m nn::cl.args.toList.map a.eval).toArray w;have QR: #[K9 m nn]++cl.args.map a.eval=(K9 m nn::cl.args.toList.map a.eval).toArray:=by apply Array.ext';simp
   rw[<-QR]at cC⊢;simp[execOp,ho,resolve,vg,QX,Deferred.ofValue,invoke,cC]
  ·subst uL;cases i with
   |zero=>cases m<;>exact⟨nn,hb,rfl⟩
   |succ i=>simpa using cS.ev _
def Rg{P:Program}{B:fZ}{w0:World}{σ:St}{c:Ct}{a:Act}{w:World}{o:Oper}{ts ds ls:bH}{nv nb nr:Nat}(g0:av P B w0 σ c a w){cl:Call}{r:Operand}{name:String}{t:TypeId}{cs:eO}{g:Nat}{xs:List SV}(ho:o.op= .call cl)(vg:cl.callee= .invoke r name)(vl:∀args w,(callFunc g args).run P w= .ok (.enter g args) w)(mf:(CV σ.slot σ.blk σ.row ts ds ls nv nb nr).ev r= .JU t cs)(hm:EW P t name=some g)(uL:xs= .c (.g cs)::cl.args.toList.map (CV σ.slot σ.blk σ.row ts ds ls nv nb nr).ev):
 ∃vs:aW,(execOp a.eval o).run P w= .ok (.enter g vs.toArray) w/\xs.length=vs.length/\∀i(h1:i<xs.length)(h2:i<vs.length),(xs[i]).rel c (vs[i]):=by
 have cS:=zV g0 ts ds ls nv nb nr
 have hf:=cS.ev r
 rw[mf]at hf
 obtain⟨us,hv,hr⟩:=hf
 refine⟨.agg us.toArray::cl.args.toList.map a.eval,?_,by rw[uL];simp,fun i h1 h2=> ?_⟩
 ·have cC:=vl (.agg us.toArray::cl.args.toList.map a.eval).toArray w;have QR: #[Value.agg us.toArray]++cl.args.map a.eval=(.agg us.toArray::cl.args.toList.map a.eval).toArray:=by apply Array.ext';simp
  rw[<-QR]at cC⊢;rw[HZ ho vg hv hm];exact cC
 ·subst uL;cases i with
  |zero=>exact⟨us,rfl,hr⟩|succ i=>simpa using cS.ev _
def Kc(X:Cx)(Γ:Nat->dK)(B:fZ)(w0:World)(inl:HU):Prop:=
 ∀(g:Nat)(xs:List SV)(σ:St)(ρ:ab)(N:Nx)(Φ:SV×St->ab->Nx->Prop)(c0 c:Ct)(a:Act)(w:World)(vs:aW),(inl g xs σ).wp Γ ρ N Φ->Is X.P B w0 c0 c σ ρ N a w->xs.length=vs.length->(∀i(h1:i<xs.length)(h2:i<vs.length),(xs[i]).rel c (vs[i]))->Calls X.P g vs.toArray w fun e w'=>∃v sv σ' r n c',e= .returned v/\Φ (sv,σ') (ρ++r) (N++n)/\sv.rel c' v/\(∀a':Act,a'.defers=[]->Is X.P B w0 c c' {σ' with aC:=[]} (ρ++r) (N++n) a' w')
def zY{X:Cx}(hX:X.ok Γ B w0){inl:HU}(yy:Kc X Γ B w0 inl){ops:dB}:∀(rest suf:dB)(n:Nat)(σ:St)(ρ:ab)(N:Nx)(Φ:St->ab->Nx->Prop)(c0 c:Ct)(a:Act)(w:World)(Q:Exit->Act->World->Prop),(sM X inl ops rest n σ).wp Γ ρ N Φ->Is X.P B w0 c0 c σ ρ N a w->(∀σ' r n c' a' w',Φ σ' (ρ++r) (N++n)->Is X.P B w0 c0 c' σ' (ρ++r) (N++n) a' w'->wpList X.P ops.toArray Q suf a' w')->wpList X.P ops.toArray Q (rest++suf) a w
 |[],suf,n,σ,ρ,N,Φ,c0,c,a,w,Q,h,hi,hQ=>by have:=hQ σ [] [] c a w;simp only[uP]at this;exact this h hi
 |o::rest,suf,n,σ,ρ,N,Φ,c0,c,a,w,Q,h,hi,hQ=>by
  unfold sM at h;split at h
  ·exact h.elim
  ·rename_i hw;have HP:=z9 hw hi.cO;rw[Fe];unfold wpList;rw[aE (by rw[HP];simp)];refine zY hX yy rest suf (n+1) _ ρ N Φ c0 c _ w Q h ?_ hQ;exact BU (r:=AC) hi.sub hi.env (hi.cO.fq hi.cO.below (aX _) fun _ _=>rfl) ⟨hi.fresh.β,hi.fresh.R⟩ hi.nv hi.lv ⟨[],rfl,trivial⟩
  ·rename_i hw;have HP:=z9 hw hi.cO;rw[Fe];unfold wpList;rw[aA HP];left;simp only at h;split at h
   ·
    rename_i g xs ag0;split at h;rotate_left
    ·exact h.elim
    rename_i DQ;have h:=T.wp_bind h;obtain⟨cl,ho,vl,uL⟩:=Rf ag0;obtain⟨vs,dD,hl,hx⟩:∃vs:aW,(execOp a.eval o).run X.P w= .ok (.enter g vs.toArray) w/\xs.length=vs.length/\∀i(h1:i<xs.length)(h2:i<vs.length),(xs[i]).rel c (vs[i]):=by
     rcases uL with⟨fo,vg,uL⟩|⟨r,name,t,cs,vg,mf,hm,uL⟩
     ·exact Vm hi.cO ho vg (hX.ins g vl) uL
     ·exact Rg hi.cO ho vg (hX.ins g vl) mf hm uL
    unfold Oper.wp;rw[dD];refine(yy g xs σ ρ N _ c0 c a w vs h hi hl hx).mono ?_
    ·rintro e w' ⟨v,sv,σ',r,m,c',rfl,hwp,fp,m8⟩;obtain⟨sv',h3,tj⟩:=Lo hwp;have i1:=m8 a hi.cO.defers;have gg:av X.P B w0 {σ' with aC:=σ.aC} c' a w':=i1.cO.ah2 hi.cO DQ i1.sub (ρ':=ρ++r) i1.env (by rw[hi.env]) (by rw[hi.env,hi.nv]);refine zY hX yy rest suf (n+1) _ (ρ++r) (N++m) Φ c0 c' _ w' Q h3 ?_ (fun σ2 r2 m2 c2 a2 w2 hΦ Yi=>by rw[eh,eh]at hΦ;rw[eh,eh]at Yi;exact hQ σ2 (r++r2) (m++m2) c2 a2 w2 hΦ Yi)
     exact BU (hi.sub.trans i1.sub) i1.env gg ⟨i1.fresh.β,i1.fresh.R⟩ i1.nv i1.lv (tj c' v i1.env fp)
   ·split at h
    ·exact h.elim
    ·rename_i r hr;obtain⟨ρ',⟨r0,rfl⟩,h2,Tm⟩:=RT hX hi hr h;obtain⟨sv,h3,tj⟩:=Lo h2;refine Tm _ Q (fun c' v w' sn fp m8=> ?_);exact zY hX yy rest suf (n+1) _ (ρ++r0) N Φ c0 c' _ w' Q h3 (m8 sv (tj c' v sn fp)) (fun σ' r m c2 a2 w2 hΦ Yi=>by rw[eh]at hΦ Yi;exact hQ σ' (r0++r) m c2 a2 w2 hΦ Yi)
def Eb{X:Cx}(hX:X.ok Γ B w0){inl:HU}(yy:Kc X Γ B w0 inl){ops:dB}(rest:dB)(n:Nat)(σ:St)(ρ:ab)(N:Nx)(Φ:St->ab->Nx->Prop)(c0 c:Ct)(a:Act)(w:World)(Q:Exit->Act->World->Prop)(h:(sM X inl ops rest n σ).wp Γ ρ N Φ)(hi:Is X.P B w0 c0 c σ ρ N a w)(hQ:∀σ' r n c' a' w',Φ σ' (ρ++r) (N++n)->Is X.P B w0 c0 c' σ' (ρ++r) (N++n) a' w'->Q .normal a' w'):wpList X.P ops.toArray Q rest a w:=by
 have:=zY hX yy rest [] n σ ρ N Φ c0 c a w Q h hi hQ
 rwa [uP]at this
end
def look(σ:St)(l:Nat):SV×Option Bk×Option Rw:=
 if l%3=0 then(σ.slot (l/3),none,none)else if l%3=1 then(.top,σ.blk (l/3),none)else(.top,none,σ.row (l/3))
def rS(σ:St)(t:Nat):look σ (3*t)=(σ.slot t,none,none):=by unfold look;rw[aA (by omega),show 3*t/3=t by omega]
def CC(σ:St)(t:Nat):look σ (3*t+1)=(.top,σ.blk t,none):=by unfold look;rw[aE (by omega),aA (by omega),show(3*t+1)/3=t by omega]
def CD(σ:St)(t:Nat):look σ (3*t+2)=(.top,none,σ.row t):=by unfold look;rw[aE (by omega),aE (by omega),show(3*t+2)/3=t by omega]
def Wr(dst:Option Tmp)(r:dl)(l:Nat):Prop:=(∃t:Nat,dst=some t/\l=3*t)\/(∃x∈r.au,l=3*x.1+1)\/(∃x∈r.rows,l=3*x.1+2)
def Rs(σ:St)(ts ds ls:bH)(l:Nat):Prop:=(∃t∈ts,l=3*t)\/(∃t∈ds,∃p∈(σ.slot t).vY,l=3*p+1)\/(∃p∈ke σ.slot σ.blk ds ls,l=3*p+2)
def J8(n:Nat):testBit (shiftLeft 1 n) n=true:=by
 have:shiftLeft 1 n=2^n:=by show 1<<<n=_;rw[one_shiftLeft]
 rw[this];exact testBit_two_pow_self
def NT(m k:Nat):∀(l:bH)(acc n:Nat),acc.testBit n=true->(l.foldl (fun acc t=>lor acc (shiftLeft 1 (m*t+k))) acc).testBit n=true
 |[],_,_,h=>h|t::l,acc,n,h=>NT m k l _ n (by show(acc|||_).testBit n=true;rw[testBit_or,h];rfl)
def rX(m k:Nat):∀(l:bH)(acc t:Nat),t∈l->(l.foldl (fun acc t=>lor acc (shiftLeft 1 (m*t+k))) acc).testBit (m*t+k)=true
 |x::l,acc,t,h=>by
  rcases bX.1 h with rfl|h
  ·exact NT m k l _ _ (by show(acc|||shiftLeft 1 (m*t+k)).testBit _=true;rw[testBit_or,J8];simp)
  ·exact rX m k l _ t h
def yJ{x y n:Nat}(h:x.testBit n=true):(lor x y).testBit n=true:=by show(x|||y).testBit n=true;rw[testBit_or,h];rfl
def oJ{x y n:Nat}(h:y.testBit n=true):(lor x y).testBit n=true:=by show(x|||y).testBit n=true;rw[testBit_or,h];simp
def Eh{dst:Option Tmp}{r:dl}{l:Nat}(h:Wr dst r l):(wU dst r).testBit l=true:=by
 unfold wU NS;rcases h with⟨t,rfl,rfl⟩|⟨x,hx,rfl⟩|⟨x,hx,rfl⟩
 ·exact yJ (rX 3 0 _ 0 t (by simp))
 ·exact oJ (yJ (rX 3 1 _ 0 x.1 (NB hx)))
 ·exact oJ (oJ (rX 3 2 _ 0 x.1 (NB hx)))
def VH{σ:St}{ts ds ls:bH}{l:Nat}(h:Rs σ ts ds ls l):(wG σ ts ds ls).testBit l=true:=by
 unfold wG NS;rcases h with⟨t,ht,rfl⟩|⟨t,ht,p,hp,rfl⟩|⟨p,hp,rfl⟩
 ·exact yJ (rX 3 0 _ 0 t ht)
 ·exact oJ (yJ (rX 3 1 _ 0 p (xc.2 ⟨t,ht,hp⟩)))
 ·exact oJ (oJ (rX 3 2 _ 0 p hp))
def DY{x y n:Nat}(h:Nat.beq (land x y) 0=true)(hx:x.testBit n=true)(hy:y.testBit n=true):False:=by
 have h:=fh h;have:(x&&&y).testBit n=true:=by rw[testBit_and,hx,hy];rfl
 rw[show x&&&y=0 from h]at this;simp at this
def CO:∀(r:List (Nat×Option Bk))(l l':List (Option Bk))(p:Nat),(l.getD p none=l'.getD p none\/∃x∈r,x.1=p)->(bG l r).getD p none=(bG l' r).getD p none
 |[],_,_,_,h=>h.elim id (fun⟨_,h,_⟩=>by cases h)|(i,v)::r,l,l',p,h=>by
  refine CO r _ _ p ?_;by_cases hp:p=i
  ·left;rw[dw,dw,aA hp,aA hp]
  ·rcases h with h|⟨x,hx,e⟩
   ·left;rw[dw,dw,aE hp,aE hp];exact h
   ·right;rcases bX.1 hx with rfl|hx
    ·exact absurd e.symm hp
    ·exact⟨x,hx,e⟩
def CU:∀(r:cv)(l l':List (Option Rw))(p:Nat),(l.getD p none=l'.getD p none\/∃x∈r,x.1=p)->(ai l r).getD p none=(ai l' r).getD p none
 |[],_,_,_,h=>h.elim id (fun⟨_,h,_⟩=>by cases h)|(i,v)::r,l,l',p,h=>by
  refine CU r _ _ p ?_;by_cases hp:p=i
  ·left;rw[dw,dw,aA hp,aA hp]
  ·rcases h with h|⟨x,hx,e⟩
   ·left;rw[dw,dw,aE hp,aE hp];exact h
   ·right;rcases bX.1 hx with rfl|hx
    ·exact absurd e.symm hp
    ·exact⟨x,hx,e⟩
def En(σ:St)(dst:Option Tmp)(r:dl):(σ.after dst r).aC.length=σ.aC.length:=by unfold St.after;cases dst<;>simp
def AU(σ:St)(dst:Option Tmp)(r:dl)(t:Nat):(σ.after dst r).slot t=if dst=some t/\t<σ.aC.length then r.val else σ.slot t:=by
 cases dst with
 |none=>simp[St.after,St.slot]|some d=>
  show(σ.aC.set d r.val).getD t .top=_;rw[IW];simp only[eF];rfl
def Dl{σ:St}{dst:Option Tmp}{r:dl}{l:Nat}(h:¬Wr dst r l):look (σ.after dst r) l=look σ l:=by
 unfold look;split
 ·rw[AU,aE];rintro⟨e,_⟩;exact h (.inl ⟨_,e,by omega⟩)
 ·split
  ·show(SV.top,(bG σ.au r.au).getD (l/3) none,none)=_;rw[iR _ _ _ (fun x hx e=>h (.inr (.inl ⟨x,hx,by omega⟩)))];rfl
  ·show(SV.top,none,(ai σ.rows r.rows).getD (l/3) none)=_;rw[fL _ _ _ (fun x hx e=>h (.inr (.inr ⟨x,hx,by omega⟩)))];rfl
def GH{σ σ':St}(hl:σ.aC.length=σ'.aC.length){dst:Option Tmp}{r:dl}{l:Nat}(h:look σ l=look σ' l\/Wr dst r l)(hw:∀t,σ'.aC.length<=t->σ.slot t=σ'.slot t):look (σ.after dst r) l=look (σ'.after dst r) l:=by
 have hl':look σ l=look σ' l\/Wr dst r l:=h;unfold look at h⊢;split
 ·rename_i h0;rw[AU,AU,hl];split
  ·rfl
  ·rename_i hn;rw[aA h0,aA h0]at h;rcases h with h|h
   ·exact h
   ·rcases h with⟨t,rfl,rfl⟩|⟨x,_,e⟩|⟨x,_,e⟩
    ·have:¬t<σ'.aC.length:=fun hh=>hn ⟨by congr 1;omega,by omega⟩;rw[show 3*t/3=t by omega,hw t (by omega)]
    ·omega
    ·omega
 ·rename_i h0;rw[aE h0,aE h0]at h;split
  ·rename_i h1;rw[aA h1,aA h1]at h;show(SV.top,(bG σ.au r.au).getD (l/3) none,none)=(SV.top,(bG σ'.au r.au).getD (l/3) none,none);congr 2;refine CO _ _ _ _ ?_;rcases h with h|h
   ·left;exact(Ff (Ff h).2).1
   ·rcases h with⟨t,_,e⟩|⟨x,hx,e⟩|⟨x,_,e⟩
    ·omega
    ·exact .inr ⟨x,hx,by omega⟩
    ·omega
  ·rename_i h1;rw[aE h1,aE h1]at h;show(SV.top,none,(ai σ.rows r.rows).getD (l/3) none)=(SV.top,none,(ai σ'.rows r.rows).getD (l/3) none);congr 2;refine CU _ _ _ _ ?_;rcases h with h|h
   ·left;exact(Ff (Ff h).2).2
   ·rcases h with⟨t,_,e⟩|⟨x,_,e⟩|⟨x,hx,e⟩
    ·omega
    ·omega
    ·exact .inr ⟨x,hx,by omega⟩
def zb{σ:St}{t:Nat}(h:σ.aC.length<=t):σ.slot t= .top:=by unfold St.slot;simp[cE,mB h]
def cQ(S:Nat->Bool):List Item->Nat->St->St
 |[],_,σ=>σ|x::xs,j,σ=>cQ S xs (j+1) (if S j then σ.after x.dst x.r else σ)
def iY(S:Nat->Bool):∀(l:List Item)(j:Nat)(σ:St),(cQ S l j σ).aC.length=σ.aC.length
 |[],_,_=>rfl|x::xs,j,σ=>by
  rw[cQ,iY S xs];split
  ·exact En _ _ _
  ·rfl
def tx(S:Nat->Bool):∀(l m:List Item)(j:Nat)(σ:St),cQ S (l++m) j σ=cQ S m (j+l.length) (cQ S l j σ)
 |[],m,j,σ=>rfl|x::l,m,j,σ=>by simp only[Fe,cQ,AM];rw[tx S l m];congr 1;omega
def ou{S S':Nat->Bool}(p:Nat):∀(l:List Item)(j:Nat)(σ σ':St),σ.aC.length=σ'.aC.length->look σ p=look σ' p->(∀i x,l[i]? =some x->Wr x.dst x.r p->S (j+i)=S' (j+i))->look (cQ S l j σ) p=look (cQ S' l j σ') p
 |[],_,_,_,_,h,_=>h|x::l,j,σ,σ',hl,h,hs=>by
  simp only[cQ];refine ou p l (j+1) _ _ ?_ ?_ (fun i y hy hw=>by have:=hs (i+1) y (by simpa using hy) hw;rw[show j+(i+1)=j+1+i by omega]at this;exact this)
  ·split<;>split<;>simp[En,hl]
  ·have h0:=hs 0 x (by simp);simp only[pA]at h0;by_cases hw:Wr x.dst x.r p
   ·rw[<-h0 hw];split
    ·exact GH hl (.inr hw) (fun t ht=>by rw[zb (by omega),zb ht])
    ·exact h
   ·have e1:look (if S j=true then σ.after x.dst x.r else σ) p=look σ p:=by split<;>first|exact Dl hw|rfl
    have e2:look (if S' j=true then σ'.after x.dst x.r else σ') p=look σ' p:=by split<;>first|exact Dl hw|rfl
    rw[e1,e2,h]
def pC(S:Nat->Bool):∀(l:List Item)(j:Nat)(σ:St),(∀i,i<l.length->S (j+i)=false)->cQ S l j σ=σ
 |[],_,_,_=>rfl|x::l,j,σ,h=>by
  have h0:=h 0 (by simp);simp only[pA]at h0;rw[cQ,h0];exact pC S l (j+1) σ (fun i hi=>by have:=h (i+1) (by simp;omega);rw[show j+(i+1)=j+1+i by omega]at this;exact this)
section
variable{P:Program}{B:fZ}{w0:World}{σ σ':St}{c:Ct}{a:Act}{w:World}
def av.congr(g:av P B w0 σ c a w)(hl:σ'.aC.length<=a.tmps.size)(h:∀l,look σ' l=look σ l):av P B w0 σ' c a w:=by
 have hs:∀t,σ'.slot t=σ.slot t:=fun t=>by have:=h (3*t);rw[rS,rS]at this;exact(Ff this).1
 have hb:∀t,σ'.blk t=σ.blk t:=fun t=>by have:=h (3*t+1);rw[CC,CC]at this;exact(Ff (Ff this).2).1
 have hr:∀t,σ'.row t=σ.row t:=fun t=>by have:=h (3*t+2);rw[CD,CD]at this;exact(Ff (Ff this).2).2
 have ho:∀x p,σ'.owns c x p↔σ.owns c x p:=fun x p=>by obtain⟨t,q⟩:=x;cases t<;>simp only[St.owns,hb,hr]
 refine⟨g.below,g.hB,g.defers,hl,fun t=>by rw[hs];exact g.aC t,fun p k hp=>g.au p k (by rw[<-hb];exact hp),fun r k hk=> ?_,fun x y p hx hy=>g.apart x y p ((ho x p).1 hx) ((ho y p).1 hy)⟩;obtain⟨v,e,q⟩:=g.rows r k (by rw[<-hr];exact hk);exact⟨v,e,q.mono (fun p o u hp hu=>⟨⟨fun x hx=>hp.1 x ((ho x p).1 hx),hp.2⟩,hu⟩) (fun _ _ _ _=>rfl) rfl (fun _ _ _ h=>h)⟩
def VC(slot:Nat->SV)(ops:dB)(o:Oper):∀t,t∈tK slot ops o->t∈pU ops o:=by
 intro t ht;unfold tK at ht;split at ht
 ·cases ht
 ·cases ht
 ·rename_i hop;split at ht
  ·simp only[cw]at ht;subst ht;unfold pU;rw[hop];simp only[ic,LF];exact .inl ⟨.tmp t,by simp[Op.operands],rfl⟩
  ·exact ht
 ·exact ht
def VD(slot:Nat->SV)(ops:dB)(o:Oper):∀t,t∈xp ops o->t∈tK slot ops o:=by
 intro t ht;unfold xp at ht;split at ht
 ·rename_i cl hop;unfold tK;rw[hop];exact ht
 ·cases ht
def Rt{ts ds ls:bH}(hd:∀t,t∈ds->t∈ts)(hl:∀t,t∈ls->t∈ds)(h:∀l,Rs σ ts ds ls l->look σ' l=look σ l)(nv nb nr:Nat):CV σ'.slot σ'.blk σ'.row ts ds ls nv nb nr=CV σ.slot σ.blk σ.row ts ds ls nv nb nr:=by
 have hs:∀t,t∈ts->σ'.slot t=σ.slot t:=fun t ht=>by have:=h (3*t) (.inl ⟨t,ht,rfl⟩);rw[rS,rS]at this;exact(Ff this).1
 have hb:∀t,t∈ds->∀p,p∈(σ.slot t).vY->σ'.blk p=σ.blk p:=fun t ht p hp=>by have:=h (3*p+1) (.inr (.inl ⟨t,ht,p,hp,rfl⟩));rw[CC,CC]at this;exact(Ff (Ff this).2).1
 have hr:∀p,p∈ke σ.slot σ.blk ds ls->σ'.row p=σ.row p:=fun p hp=>by have:=h (3*p+2) (.inr (.inr ⟨p,hp,rfl⟩));rw[CD,CD]at this;exact(Ff (Ff this).2).2
 have e0:∀l:bH,(∀t∈l,σ'.slot t=σ.slot t)->(l.flatMap fun t=>(σ'.slot t).vY)=l.flatMap fun t=>(σ.slot t).vY:=by
  intro l hl;induction l with
  |nil=>rfl|cons t l ih=>simp only[AQ];rw[hl t (fc ..),ih (fun t ht=>hl t (bB _ ht))]
 have e1:=e0 ds (fun t ht=>hs t (hd t ht));have e2:ke σ'.slot σ'.blk ds ls=ke σ.slot σ.blk ds ls:=by
  have h1:∀l:bH,(∀t∈l,σ'.slot t=σ.slot t)->(l.flatMap fun t=>(σ'.slot t).ah4)=l.flatMap fun t=>(σ.slot t).ah4:=by
   intro l hl;induction l with
   |nil=>rfl|cons t l ih=>simp only[AQ];rw[hl t (fc ..),ih (fun t ht=>hl t (bB _ ht))]
  have h2:∀l:bH,(∀p∈l,σ'.blk p=σ.blk p)->(l.flatMap fun p=>WO (σ'.blk p))=l.flatMap fun p=>WO (σ.blk p):=by
   intro l hl;induction l with
   |nil=>rfl|cons t l ih=>simp only[AQ];rw[hl t (fc ..),ih (fun t ht=>hl t (bB _ ht))]
  unfold ke;rw[h1 ds (fun t ht=>hs t (hd t ht)),e0 ls (fun t ht=>hs t (hd t (hl t ht))),h2 _ (fun p hp=>by obtain⟨t,ht,hp⟩:=xc.1 hp;exact hb t (hl t ht) p hp)]
 unfold CV;rw[e1,e2];have f1:(fun t=>cond (iC ts t) (σ'.slot t) SV.top)=fun t=>cond (iC ts t) (σ.slot t) SV.top:=by
  funext t;cases hh:iC ts t
  ·rfl
  ·simp only[cond_true];exact hs t (jm.1 hh)
 have f2:(fun p=>cond (iC (ds.flatMap fun t=>(σ.slot t).vY) p) (σ'.blk p) none)=fun p=>cond (iC (ds.flatMap fun t=>(σ.slot t).vY) p) (σ.blk p) none:=by
  funext p;cases hh:iC (ds.flatMap fun t=>(σ.slot t).vY) p
  ·rfl
  ·simp only[cond_true];obtain⟨t,ht,hp⟩:=xc.1 (jm.1 hh);exact hb t ht p hp
 have f3:(fun p=>cond (iC (ke σ.slot σ.blk ds ls) p) (σ'.row p) none)=fun p=>cond (iC (ke σ.slot σ.blk ds ls) p) (σ.row p) none:=by
  funext p;cases hh:iC (ke σ.slot σ.blk ds ls) p
  ·rfl
  ·simp only[cond_true];exact hr p (jm.1 hh)
 rw[f1,f2,f3]
end
section
variable{Γ:Nat->dK}{L:Type}
def IX{b:Bool}{r:dl}{k:dl->T L}{ρ:ab}{N:Nx}{Φ:L->ab->Nx->Prop}(h:(Bw b r k).wp Γ ρ N Φ):
 ∃sv,(k {r with val:=sv}).wp Γ ρ N Φ/\(sv=r.val\/∃e y,r.val= .c (.a (.bool e))/\sv= .at (.bool (.b y))/\(e.ev ρ).bool=y):=by
 unfold Bw at h
 split at h
 ·rename_i x hv;exact⟨_,h,.inl hv.symm⟩
 ·rename_i e _ hv;simp only[T.wp]at h;by_cases hb:(e.ev ρ).bool=true
  ·rw[aA hb]at h;exact⟨_,h,.inr ⟨e,true,hv,rfl,hb⟩⟩
  ·rw[aE hb]at h;exact⟨_,h,.inr ⟨e,false,hv,rfl,by simpa using hb⟩⟩
 ·exact⟨r.val,h,.inl rfl⟩
end
def Uv(X:Cx)(Γ:Nat->dK)(ops:dB)(ρ:ab)(σ:St)(o:Oper)(x:Item):Prop:=
 (rH ops σ o=some false/\x.r=AC)\/
 (rH ops σ o=some true/\∃r0 sv,xy X ops σ o=some r0/\TY σ o r0=true/\(σ.after o.dst r0).nv<=ρ.length/\(∀e∈r0.eZ,(e.ev ρ).bool=true)/\(∀f es n,r0.call=some (f,es,n)->∃rs,Γ f (es.map (Ex.ev ρ))=some rs/\rs.length=n/\∀i,i<rs.length->ρ.getD (σ.nv+i) (.i 0)=rs.getD i (.i 0))/\x.r={r0 with val:=sv}/\(sv=r0.val\/∃e y,r0.val= .c (.a (.bool e))/\sv= .at (.bool (.b y))/\(e.ev ρ).bool=y))
def Uv.ext{X:Cx}{Γ:Nat->dK}{ops:dB}{ρ:ab}{σ:St}{o:Oper}{x:Item}(h:Uv X Γ ops ρ σ o x)(r:ab):Uv X Γ ops (ρ++r) σ o x:=by
 rcases h with h|⟨hw,r0,sv,h1,h2,h3,h4,h5,h6,h7⟩
 ·exact .inl h
 ·refine .inr ⟨hw,r0,sv,h1,h2,by simp;omega,?_,?_,h6,?_⟩;all_goals
   have hu:=h2
   simp only[TY,aL,lO]at hu
   have Oz:σ.nv<=(σ.after o.dst r0).nv:=by unfold St.after;simp only;split<;>omega
   have yw:∀n,n<=ρ.length->∀i,i<n->(ρ++r).getD i (.i 0)=ρ.getD i (.i 0):=fun n hn i hi=>aZ _ _ _ _ (by omega)
  ·intro e he;rw[Ex.aH (yw σ.nv (by omega)) (hu.1 e he)];exact h4 e he
  ·intro f es n hc;obtain⟨rs,q1,q0,q2⟩:=h5 f es n hc;have Mn:es.all (·.under σ.nv)=true:=by
    unfold xy at h1;split at h1
    ·split at h1
     ·rename_i hg;cases h1;simp only[aL,LR,hc]at hg;exact hg.2.2
     ·cases h1
    ·cases h1
   have hn:(σ.after o.dst r0).nv=σ.nv+n:=by unfold St.after;simp only[hc]
   refine⟨rs,by rw[u5 (yw σ.nv (by omega)) Mn];exact q1,q0,fun i hi=> ?_⟩;rw[aZ _ _ _ _ (by omega)];exact q2 i hi
  ·rcases h7 with h7|⟨e,y,e1,e2,e3⟩
   ·exact .inl h7
   ·refine .inr ⟨e,y,e1,e2,?_⟩;have:=hu.2;rw[e1]at this;rw[Ex.aH (yw _ h3) this];exact e3
def fT:Nat->Bool:=fun _=>true
def mA(X:Cx)(Γ:Nat->dK)(ops:dB)(ρ:ab)(σ0:St)(items:List Item):Prop:=
 ∀(j:Nat)(x:Item),items[j]? =some x->∃o,ops[j]? =some o/\x.dst=o.dst/\x.rd=wG (cQ fT (items.take j) 0 σ0) (pU ops o) (tK (cQ fT (items.take j) 0 σ0).slot ops o) (xp ops o)/\x.wr=wU o.dst x.r/\x.pre=CN (items.take j) o/\Uv X Γ ops ρ (cQ fT (items.take j) 0 σ0) o x/\EI (items.take j) x=true/\Dt j o=true
def mA.ext{X:Cx}{Γ:Nat->dK}{ops:dB}{ρ:ab}{σ0:St}{items:List Item}(h:mA X Γ ops ρ σ0 items)(r:ab):mA X Γ ops (ρ++r) σ0 items:=fun j x hj=>by obtain⟨o,q1,q2,q3,q4,q5,q6,q7,q8⟩:=h j x hj;exact⟨o,q1,q2,q3,q4,q5,q6.ext r,q7,q8⟩
def mA.gx{X:Cx}{Γ:Nat->dK}{ops:dB}{ρ:ab}{σ0:St}{items:List Item}(h:mA X Γ ops ρ σ0 items){x:Item}{o:Oper}(ho:ops[items.length]? =some o)(q2:x.dst=o.dst)(q3:x.rd=wG (cQ fT items 0 σ0) (pU ops o) (tK (cQ fT items 0 σ0).slot ops o) (xp ops o))(q4:x.wr=wU o.dst x.r)(q5:x.pre=CN items o)(q6:Uv X Γ ops ρ (cQ fT items 0 σ0) o x)(q7:EI items x=true)(q8:Dt items.length o=true):mA X Γ ops ρ σ0 (items++[x]):=fun j y hj=>by
 by_cases bi:j<items.length
 ·rw[gA bi]at hj;rw[iw (by omega)];exact h j y hj
 ·have hj2:j<(items++[x]).length:=(kK.1 hj).1;have:j=items.length:=by simp at hj2;omega
  subst this;simp at hj;subst hj;rw[iw (aX _),lQ (aX _)];exact⟨o,ho,q2,q3,q4,q5,q6,q7,q8⟩
def Bm{X:Cx}{Γ:Nat->dK}{ops:dB}{σ0:St}{N:Nx}{Φ:St×List Item->ab->Nx->Prop}:∀(rest:dB)(n:Nat)(σ:St)(items:List Item)(ρ:ab),(tO X ops rest n σ items).wp Γ ρ N Φ->(∀k,k<rest.length->rest[k]? =ops[n+k]?)->n=items.length->σ=cQ fT items 0 σ0->σ.nv=ρ.length->mA X Γ ops ρ σ0 items->∃r dE,Φ (cQ fT dE 0 σ0,dE) (ρ++r) N/\mA X Γ ops (ρ++r) σ0 dE/\dE.length=n+rest.length/\(cQ fT dE 0 σ0).nv=(ρ++r).length
 |[],n,σ,items,ρ,h,OC,hn,hσ,Oz,hp=>by exact⟨[],items,by simp only[uP];subst hσ;exact h,by simpa using hp,by simp[hn],by rw[<-hσ];simpa using Oz⟩
 |o::rest,n,σ,items,ρ,h,OC,hn,hσ,Oz,hp=>by
  have ho:ops[items.length]? =some o:=by have:=OC 0 (by simp);simp at this;rw[<-hn];exact this.symm
  have ahg:∀k,k<rest.length->rest[k]? =ops[n+1+k]? :=fun k hk=>by have:=OC (k+1) (by simp;omega);rw[show n+1+k=n+(k+1)by omega];simpa using this
  unfold tO at h;split at h
  ·exact h.elim
  rename_i Au;have Au:Dt items.length o=true:=by rw[<-hn];simpa using Au
  simp only at h;have hgo:∀(r:dl)(ρ':ab),T.wp Γ (if EI items ⟨o.dst,r,wG σ (pU ops o) (tK σ.slot ops o) (xp ops o),wU o.dst r,CN items o⟩=true then tO X ops rest (n+1) (σ.after o.dst r) (items++[⟨o.dst,r,wG σ (pU ops o) (tK σ.slot ops o) (xp ops o),wU o.dst r,CN items o⟩])else .fail "order") ρ' N Φ->(∃r0,ρ'=ρ++r0)->(σ.after o.dst r).nv=ρ'.length->Uv X Γ ops ρ' σ o ⟨o.dst,r,wG σ (pU ops o) (tK σ.slot ops o) (xp ops o),wU o.dst r,CN items o⟩->
   ∃r dE,Φ (cQ fT dE 0 σ0,dE) (ρ++r) N/\mA X Γ ops (ρ++r) σ0 dE/\dE.length=n+(rest.length+1)/\(cQ fT dE 0 σ0).nv=(ρ++r).length:=by
   intro r ρ' hw hρ Yq HB
   obtain⟨r0,rfl⟩:=hρ
   split at hw
   ·rename_i gj;have xN:=(hp.ext r0).gx (x:=⟨o.dst,r,wG σ (pU ops o) (tK σ.slot ops o) (xp ops o),wU o.dst r,CN items o⟩) ho rfl (by rw[hσ]) rfl rfl (by rw[<-hσ];exact HB) gj Au;obtain⟨r1,dE,f1,f2,f3,f4⟩:=Bm rest (n+1) (σ.after o.dst r) _ (ρ++r0) hw ahg (by simp[hn]) (by rw[tx,<-hσ];rfl) Yq xN;exact⟨r0++r1,dE,by rw[<-eh];exact f1,by rw[<-eh];exact f2,by omega,by rw[<-eh];exact f4⟩
   ·exact hw.elim
  split at h
  ·exact h.elim
  ·rename_i hw;exact hgo AC ρ h ⟨[],by simp⟩ (by simpa[St.after,AC,dl.pure]using Oz) (.inl ⟨hw,rfl⟩)
  ·rename_i hw;split at h
   ·exact h.elim
   ·rename_i r0 qb;split at h;rotate_left
    ·exact h.elim
    rename_i hpu;obtain⟨DM,h⟩:=rI h;have Yj:r0.call=none\/∃f es n,r0.call=some (f,es,n):=by cases r0.call with|none=>exact .inl rfl|some x=>exact .inr ⟨x.1,x.2.1,x.2.2,rfl⟩
    have acl:∀e∈r0.eZ,e.under σ.nv=true:=by simp only[TY,aL,lO]at hpu;exact hpu.1
    rcases Yj with cC|⟨f,es,m,cC⟩
    ·rw[cC]at h;obtain⟨sv,h2,tj⟩:=IX h;have Yq:(σ.after o.dst r0).nv=ρ.length:=by simp only[St.after,cC];exact Oz
     exact hgo _ ρ h2 ⟨[],by simp⟩ Yq (.inr ⟨hw,r0,sv,qb,hpu,by omega,DM,(fun f es n hc=>by rw[cC]at hc;cases hc),rfl,tj⟩)
    ·rw[cC]at h;simp only at h;obtain⟨rs,hF,hlen,h⟩:=h;obtain⟨sv,h2,tj⟩:=IX h;have Yq:(σ.after o.dst r0).nv=(ρ++rs).length:=by simp only[St.after,cC,fR];omega
     have yw:∀i,i<σ.nv->(ρ++rs).getD i (.i 0)=ρ.getD i (.i 0):=fun i hi=>aZ _ _ _ _ (by omega);have Mn:es.all (·.under σ.nv)=true:=by
      unfold xy at qb;split at qb
      ·split at qb
       ·rename_i hg;cases qb;simp only[aL,LR,cC]at hg;exact hg.2.2
       ·cases qb
      ·cases qb
     refine hgo _ (ρ++rs) h2 ⟨rs,rfl⟩ Yq (.inr ⟨hw,r0,sv,qb,hpu,by omega,fun e he=>by rw[Ex.aH yw (acl e he)];exact DM e he,fun f' xQ n' hc=> ?_,rfl,tj⟩);rw[cC]at hc;cases hc;refine⟨rs,by rw[u5 yw Mn];exact hF,hlen,fun i hi=> ?_⟩;rw[Oz,cE,lR (by omega),ta,<-cE]
section
variable{X:Cx}{Γ:Nat->dK}{ops:dB}{ρ:ab}{σ0:St}{items:List Item}{B:fZ}{w0:World}{c c0:Ct}{a:Act}{w:World}
def wk(listed:Array Bool):Nat->Bool:=fun j=>listed.getD j false
def Dj(items:List Item)(S:Nat->Bool):Prop:=∀(j:Nat)(x:Item),items[j]? =some x->S j=true->∀k,x.pre.testBit k=true->S k=true
def A6{l:List Item}{x:Item}(h:EI l x=true){j:Nat}{y:Item}(hy:l[j]? =some y)(hp:x.pre.testBit j=false):
 (∀p∈y.r.nb,p∉x.r.nb)/\(∀p∈y.r.nr,p∉x.r.nr)/\(∀n,y.wr.testBit n=true->x.rd.testBit n=false/\x.wr.testBit n=false)/\(∀n,y.rd.testBit n=true->x.wr.testBit n=false):=by
 unfold EI at h
 have:=lO.1 h (y,j) (by rw[mem_iff_getElem?];exact⟨j,by rw[getElem?_zipIdx,hy];simp⟩)
 simp only[aL,hp,Bool.false_or,lO]at this
 obtain⟨⟨h1,h2⟩,h3,h4⟩:=this
 refine⟨fun p xN hm=> ?_,fun p xN hm=> ?_,fun n hn=>⟨?_,?_⟩,fun n hn=> ?_⟩
 ·have:=h1 p xN;simp[jm.2 hm]at this
 ·have:=h2 p xN;simp[jm.2 hm]at this
 ·cases hb:x.rd.testBit n
  ·rfl
  ·exact(DY h3 hn (yJ hb)).elim
 ·cases hb:x.wr.testBit n
  ·rfl
  ·exact(DY h3 hn (oJ hb)).elim
 ·cases hb:x.wr.testBit n
  ·rfl
  ·exact(DY h4 hn hb).elim
def KC{l:List Item}{x:Item}(h:EI l x=true){j:Nat}{y:Item}(hy:l[j]? =some y):(∀p∈y.r.nb,p∉x.r.nb)/\(∀p∈y.r.nr,p∉x.r.nr):=by
 unfold EI at h;have:=lO.1 h (y,j) (by rw[mem_iff_getElem?];exact⟨j,by rw[getElem?_zipIdx,hy];simp⟩)
 simp only[aL,lO]at this;obtain⟨⟨h1,h2⟩,_⟩:=this;exact⟨fun p xN hm=>by have:=h1 p xN;simp[jm.2 hm]at this,fun p xN hm=>by have:=h2 p xN;simp[jm.2 hm]at this⟩
def Pj(items:List Item)(k:Nat):∀(l:List Edge)(acc:Nat),(l.foldl (fun acc e=>if Region.binds .any e then lor acc (lor (shiftLeft 1 e.on) (match items[e.on]? with|some x=>x.pre|none=>0))else acc) acc).testBit k=true->acc.testBit k=true\/∃e∈l,Region.binds .any e=true/\(e.on=k\/∃y,items[e.on]? =some y/\y.pre.testBit k=true)
 |[],acc,h=> .inl h|e::l,acc,h=>by
  rcases Pj items k l _ h with h|⟨e',he',h⟩
  ·dsimp only at h;by_cases hb:Region.binds .any e=true
   ·rw[aA hb]at h;have h:(acc|||(shiftLeft 1 e.on|||(match items[e.on]? with|some x=>x.pre|none=>0))).testBit k=true:=h;rw[testBit_or,testBit_or]at h;simp only[bY]at h;rcases h with h|h|h
    ·exact .inl h
    ·refine .inr ⟨e,fc ..,hb,.inl ?_⟩;have:shiftLeft 1 e.on=2^e.on:=by show 1<<<e.on=_;rw[one_shiftLeft]
     rw[this,testBit_two_pow]at h;simpa using h
    ·refine .inr ⟨e,fc ..,hb,.inr ?_⟩;split at h
     ·rename_i x hx;exact⟨x,hx,h⟩
     ·simp at h
   ·rw[aE hb]at h;exact .inl h
  ·exact .inr ⟨e',bB _ he',h⟩
def Iu{items:List Item}{o:Oper}{k:Nat}(h:(CN items o).testBit k=true):∃e∈o.after.toList,Region.binds .any e=true/\(e.on=k\/∃y,items[e.on]? =some y/\y.pre.testBit k=true):=by
 unfold CN at h;rcases Pj items k _ _ h with h|h
 ·simp at h
 ·exact h
def WE(hp:mA X Γ ops ρ σ0 items){S:Nat->Bool}(hS:Dj items S){i:Nat}{x:Item}(hx:items[i]? =some x)(gk:∀k,x.pre.testBit k=true->S k=true)(hi:S i=false){l:Nat}(hl:x.rd.testBit l=true):
 look (cQ S items 0 σ0) l=look (cQ fT (items.take i) 0 σ0) l:=by
 have Ns:i<items.length:=(kK.1 hx).1
 have e0:cQ fT (items.take i) 0 σ0=cQ (fun j=>decide (j<i)) items 0 σ0:=by
  conv=>rhs;rw[<-Qd i items]
  rw[tx,pC _ (items.drop i) _ _ (fun j _=>by simp;omega)];have:∀(m:List Item)(j:Nat)(σ:St),j+m.length<=i->cQ fT m j σ=cQ (fun j=>decide (j<i)) m j σ:=by
   intro m;induction m with
   |nil=>intro _ _ _;rfl|cons y m ih=>intro j σ hj;simp only[AM]at hj;simp only[cQ,fT,qO];rw[aA (by simp;omega)];exact ih (j+1) _ (by omega)
  exact this _ 0 _ (by simp;omega)
 rw[e0]
 refine ou l items 0 σ0 σ0 rfl rfl (fun j y hj hw=> ?_)
 simp only[eG]
 have hwb:y.wr.testBit l=true:=by obtain⟨o,_,q2,_,q4,_⟩:=hp j y hj;rw[q4,<-q2];exact Eh hw
 rcases Nat.lt_trichotomy j i with h|h|h
 ·rw[show decide (j<i)=true by simpa using h];obtain⟨o,_,_,_,_,_,_,q7,_⟩:=hp i x hx;cases hb:x.pre.testBit j
  ·have hy:(items.take i)[j]? =some y:=by rw[qg,aA h];exact hj
   have:=(A6 q7 hy hb).2.2.1 l hwb;rw[hl]at this;cases this.1
  ·exact gk j hb
 ·subst h;rw[hi];simp
 ·rw[show decide (j<i)=false by simp;omega];cases hs:S j
  ·rfl
  ·obtain⟨o,_,_,_,_,_,_,q7,_⟩:=hp j y hj;cases hb:y.pre.testBit i
   ·have hxx:(items.take j)[i]? =some x:=by rw[qg,aA h];exact hx
    have:=(A6 q7 hxx hb).2.2.2 l hl;rw[hwb]at this;cases this
   ·have:=hS j y hj hs i hb;rw[hi]at this;cases this
def WF(hp:mA X Γ ops ρ σ0 items){S:Nat->Bool}(hS:Dj items S){i:Nat}{x:Item}(hx:items[i]? =some x)(hi:S i=false){S':Nat->Bool}(Mj:∀j,S' j=(S j||decide (j=i)))(l:Nat):
 look (cQ S' items 0 σ0) l=look ((cQ S items 0 σ0).after x.dst x.r) l:=by
 have Ns:i<items.length:=(kK.1 hx).1
 by_cases hw:Wr x.dst x.r l
 ·
  have ahk:items=items.take i++x::items.drop (i+1):=by
   conv=>lhs;rw[<-Qd i items]
   congr 1;rw[xD Ns];congr 1;exact(kK.1 hx).2
  have hlen:(items.take i).length=i:=by simp;omega
  have Dh:∀j y,items[j]? =some y->i<j->Wr y.dst y.r l->S j=false:=fun j y hj bi hwy=>by
   cases hs:S j
   ·rfl
   ·obtain⟨o,_,q2,_,q4,_,_,q7,_⟩:=hp j y hj;obtain⟨o',_,p2,_,p4,_⟩:=hp i x hx;have hxw:x.wr.testBit l=true:=by rw[p4,<-p2];exact Eh hw
    have hyw:y.wr.testBit l=true:=by rw[q4,<-q2];exact Eh hwy
    cases hb:y.pre.testBit i
    ·have hxx:(items.take j)[i]? =some x:=by rw[qg,aA bi];exact hx
     have:=(A6 q7 hxx hb).2.2.1 l hxw;rw[hyw]at this;cases this.2
    ·have:=hS j y hj hs i hb;rw[hi]at this;cases this
  have e1:look (cQ S' items 0 σ0) l=look ((cQ S' (items.take i) 0 σ0).after x.dst x.r) l:=by
   conv=>lhs;rw[ahk]
   rw[tx,cQ,hlen,eG,show S' i=true by rw[Mj];simp,aA rfl];have:=ou (S:=S') (S':=fun _=>false) l (items.drop (i+1)) (i+1) ((cQ S' (items.take i) 0 σ0).after x.dst x.r) ((cQ S' (items.take i) 0 σ0).after x.dst x.r) rfl rfl (fun j y hj hwy=>by rw[BR]at hj;have:=Dh (i+1+j) y hj (by omega) hwy;rw[Mj,this];simp;omega)
   rw[this,pC _ _ _ _ (fun _ _=>rfl)]
  rw[e1];exact GH (by rw[iY,iY]) (.inr hw) (fun t ht=>by rw[zb (by rw[iY];rw[iY]at ht;exact ht),zb ht])
 ·rw[Dl hw];refine ou l items 0 σ0 σ0 rfl rfl (fun j y hj hwy=> ?_);simp only[eG];rw[Mj];have:j≠i:=fun e=>by subst e;rw[hx]at hj;cases hj;exact hw hwy
  simp[this]
structure BJ(P:Program)(B:fZ)(w0:World)(c:Ct)(σ0:St)(items:List Item)(ρ:ab)(S:Nat->Bool)(c':Ct)(a:Act)(w:World):Prop where
 sub:c.sub c'
 env:c'.ρ=ρ
 cO:av P B w0 (cQ S items 0 σ0) c' a w
 β:∀p,(∀j x,items[j]? =some x->S j=true->p∉x.r.nb)->c'.β p=c.β p
 R:∀p,(∀j x,items[j]? =some x->S j=true->p∉x.r.nr)->c'.R p=c.R p
end
section
variable{X:Cx}{Γ:Nat->dK}{ops:dB}{ρ:ab}{σ0:St}{items:List Item}{B:fZ}{w0:World}{c c0:Ct}{a:Act}{w:World}
def ov(S:Nat->Bool):∀(l:List Item)(j:Nat)(σ:St),σ.au.length<=(cQ S l j σ).au.length/\σ.rows.length<=(cQ S l j σ).rows.length
 |[],_,_=>⟨aX _,aX _⟩|x::l,j,σ=>by
  have ih:=ov S l (j+1) (if S j then σ.after x.dst x.r else σ);have h1:=ku x.r.au σ.au;have h2:=ci x.r.rows σ.rows;simp only[cQ];split at ih
  ·rename_i hs;rw[aA hs];exact⟨bI h1.1 ih.1,bI h2.1 ih.2⟩
  ·rename_i hs;rw[aE hs];exact ih
def uT(S:Nat->Bool):∀(l:List Item)(j:Nat)(σ:St)(i:Nat)(x:Item),l[i]? =some x->S (j+i)=true->(∀y∈x.r.au,y.1<(cQ S l j σ).au.length)/\(∀y∈x.r.rows,y.1<(cQ S l j σ).rows.length)
 |y::l,j,σ,0,x,h,hs=>by simp at h;subst h;simp only[pA]at hs;simp only[cQ,hs,qO];have h1:=ku y.r.au σ.au;have h2:=ci y.r.rows σ.rows;have h3:=ov S l (j+1) (σ.after y.dst y.r);exact⟨fun z hz=>mC (h1.2 z hz) h3.1,fun z hz=>mC (h2.2 z hz) h3.2⟩
 |y::l,j,σ,i+1,x,h,hs=>by simp only[cQ];exact uT S l (j+1) _ i x (by simpa using h) (by rw[show j+1+i=j+(i+1)by omega];exact hs)
 |[],_,_,_,_,h,_=>by simp at h
def PE(hX:X.ok Γ B w0)(hp:mA X Γ ops ρ σ0 items)(Mu:io σ0 c){S:Nat->Bool}(hS:Dj items S){c':Ct}(fC:BJ X.P B w0 c σ0 items ρ S c' a w){i:Nat}{x:Item}(hx:items[i]? =some x)(gk:∀k,x.pre.testBit k=true->S k=true)(hi:S i=false){S':Nat->Bool}(Mj:∀j,S' j=(S j||decide (j=i)))(Q:Exit->Act->World->Prop)(K:Act->World->Prop)(hK:∀c2 a2 w2,BJ X.P B w0 c σ0 items ρ S' c2 a2 w2->K a2 w2):wpOp X.P ops.toArray Q i K a w:=by
 obtain⟨o,ho,ata,cS,hwr,azl,HB,gj,Au⟩:=hp i x hx
 have aei:∀l,Rs (cQ fT (items.take i) 0 σ0) (pU ops o) (tK (cQ fT (items.take i) 0 σ0).slot ops o) (xp ops o) l->look (cQ S items 0 σ0) l=look (cQ fT (items.take i) 0 σ0) l:=fun l hl=>
  WE hp hS hx gk hi (by rw[cS];exact VH hl)
 have Yd:rH ops (cQ S items 0 σ0) o=rH ops (cQ fT (items.take i) 0 σ0) o:=by
  unfold rH;cases hg:o.guard with
  |none=>rfl|some gw=>
   obtain⟨gi,want⟩:=gw;simp only;cases ht:(ops[gi]?).bind (·.dst)with
   |none=>rfl|some t=>
    have ti:t∈pU ops o:=by unfold pU;rw[hg];simp only;rw[ht];simp
    have:=aei (3*t) (.inl ⟨t,ti,rfl⟩);rw[rS,rS]at this;simp only[(Ff this).1]
 have nk:∀(c2:Ct)(v:Value)(w2:World),c'.sub c2->c2.ρ=ρ->x.r.val.rel c2 v->av X.P B w0 {(cQ S items 0 σ0)with au:=bG (cQ S items 0 σ0).au x.r.au,rows:=ai (cQ S items 0 σ0).rows x.r.rows} c2 a w2->
  (∀p,p∉x.r.nb->c2.β p=c'.β p)->(∀p,p∉x.r.nr->c2.R p=c'.R p)->K (a.put o.dst v) w2:=by
  intro c2 v w2 qD sn fp hg hβ hR
  refine hK c2 _ w2 ⟨fC.sub.trans qD,sn,?_,fun p h=> ?_,fun p h=> ?_⟩
  ·have g1:=hg.put fp o.dst;refine g1.congr ?_ (fun l=> ?_)
   ·have:=g1.size;rw[iY];have h2:=fC.cO.size;rw[iY]at h2;cases hd:o.dst<;>simp[Act.put]<;>exact h2
   ·rw[WF hp hS hx hi Mj l,ata];unfold St.after;cases o.dst<;>rfl
  ·rw[hβ p (h i x hx (by rw[Mj];simp))];exact fC.β p (fun j y hj hs=>h j y hj (by rw[Mj,hs];rfl))
  ·rw[hR p (h i x hx (by rw[Mj];simp))];exact fC.R p (fun j y hj hs=>h j y hj (by rw[Mj,hs];rfl))
 unfold wpOp
 simp only[getElem?_toArray,ho]
 rcases HB with⟨hw,hr⟩|⟨hw,r0,sv,qb,hpu,Oz,DM,QT,hr,tj⟩
 ·have HP:=z9 (Yd.trans hw) fC.cO;rw[aE (by rw[HP];simp)];exact nk c' undef w (.refl _) fC.env (by rw[hr];exact⟨[],rfl,trivial⟩) (by rw[hr];exact fC.cO) (fun _ _=>rfl) (fun _ _=>rfl)
 ·have HP:=z9 (Yd.trans hw) fC.cO;rw[aA HP];left;unfold xy at qb;split at qb;rotate_left
  ·cases qb
  rename_i r0' Vf;split at qb;rotate_left
  ·cases qb
  rename_i hgc;cases qb
  simp only[aL]at hgc;obtain⟨Oy,apS⟩:=hgc;simp only[Hx,aL,lO,fS]at Oy;obtain⟨hgb,Q2⟩:=Oy;have hnb:∀p∈r0.nb,(cQ fT (items.take i) 0 σ0).au.length<=p:=fun p xN=>by rw[fh (hgb p xN).1];exact aX _
  have hnr:∀p∈r0.nr,(cQ fT (items.take i) 0 σ0).rows.length<=p:=fun p xN=>oo (Q2 p xN).1;have atR:(cQ fT (items.take i) 0 σ0).rd ops o=CV (cQ S items 0 σ0).slot (cQ S items 0 σ0).blk (cQ S items 0 σ0).row (pU ops o) (tK (cQ fT (items.take i) 0 σ0).slot ops o) (xp ops o) (cQ fT (items.take i) 0 σ0).nv (cQ fT (items.take i) 0 σ0).au.length (cQ fT (items.take i) 0 σ0).rows.length:=by unfold St.rd;exact(Rt (VC _ ops o) (VD _ ops o) aei _ _ _).symm
  rw[atR]at Vf;have hval:x.r.val=sv/\x.r.au=r0.au/\x.r.rows=r0.rows/\x.r.nb=r0.nb/\x.r.nr=r0.nr:=by rw[hr];exact⟨rfl,rfl,rfl,rfl,rfl⟩
  obtain⟨v1,v2,v3,v4,v5⟩:=hval;have aeh:=ov fT (items.take i) 0 σ0;have Yu:∀(p j:Nat)(y:Item),items[j]? =some y->S j=true->(p∈r0.nb->p∉y.r.nb)/\(p∈r0.nr->p∉y.r.nr):=by
   intro p j y hj hs;rcases Nat.lt_trichotomy j i with h|h|h
   ·have hy:(items.take i)[j]? =some y:=by rw[qg,aA h];exact hj
    have:=KC gj hy;rw[v4,v5]at this;exact⟨fun h1 h2=>this.1 p h2 h1,fun h1 h2=>this.2 p h2 h1⟩
   ·subst h;rw[hi]at hs;cases hs
   ·obtain⟨o',_,_,_,_,_,_,alT,_⟩:=hp j y hj;have hy:(items.take j)[i]? =some x:=by rw[qg,aA h];exact hx
    have:=KC alT hy;rw[v4,v5]at this;exact⟨fun h1=>this.1 p h1,fun h1=>this.2 p h1⟩
  have Jk:∀p∈r0.nb,c'.β p=none:=fun p xN=>by rw[fC.β p (fun j y hj hs=>(Yu p j y hj hs).1 xN)];exact Mu.β p (bI aeh.1 (hnb p xN))
  have gV:∀p∈r0.nr,c'.R p=none:=fun p xN=>by rw[fC.R p (fun j y hj hs=>(Yu p j y hj hs).2 xN)];exact Mu.R p (bI aeh.2 (hnr p xN))
  have aeF:∀(c2:Ct)(v:Value),c2.ρ=ρ->r0.val.rel c2 v->x.r.val.rel c2 v:=fun c2 v DH hv=>by
   rw[v1];rcases tj with rfl|⟨e,y,e1,rfl,e3⟩
   ·exact hv
   ·rw[e1]at hv;have hv:v= .bool (e.ev c2.ρ).bool:=hv;show v= .bool y;rw[hv,DH,e3]
  have ack:∀e∈r0.eZ,(e.ev c'.ρ).bool=true:=fun e he=>by rw[fC.env];exact DM e he
  have Yj:r0.call=none\/∃f es n,r0.call=some (f,es,n):=by cases r0.call with|none=>exact .inl rfl|some z=>exact .inr ⟨z.1,z.2.1,z.2.2,rfl⟩
  rcases Yj with cC|⟨f,es,n,cC⟩
  ·obtain⟨nx,w',v,c2,dD,qu,hle,hβ,hR,fp,hg⟩:=aeU (o:=o) (hX.gl w fC.cO.below) hX.pl fC.cO (zV fC.cO _ _ _ _ _ _) Jk gV Vf cC ack;have Ow:c2.ρ=ρ:=hle.ρ.trans fC.env;have OB:K (a.put o.dst v) w':=nk c2 v w' hle.sub Ow (aeF c2 v Ow fp) (by rw[v2,v3];exact hg) (by rw[v4];exact hβ) (by rw[v5];exact hR);unfold Oper.wp;rw[dD];rcases qu with rfl|⟨rfl,rfl⟩
   ·exact OB
   ·exact OB
  ·obtain⟨rs,hF,hlen,yB⟩:=QT f es n cC;refine Sv (o:=o) fC.cO (zV fC.cO _ _ _ _ _ _) hX.cons Vf cC (rs:=rs) (by rw[fC.env];exact hF) (fun k hk=>by rw[fC.env];exact yB k hk) gV K _ ?_;intro v w' c2 hle hβ hR fp hg;have Ow:c2.ρ=ρ:=hle.ρ.trans fC.env;exact nk c2 v w' hle.sub Ow (aeF c2 v Ow fp) (by rw[v2,v3];exact hg) (fun p _=>by rw[hβ]) (by rw[v5];exact hR)
def UB(hX:X.ok Γ B w0)(hp:mA X Γ ops ρ σ0 items)(hlen:items.length=ops.length)(Mu:io σ0 c)(Q:Exit->Act->World->Prop)(hQ:∀c2 a2 w2,BJ X.P B w0 c σ0 items ρ fT c2 a2 w2->Q .normal a2 w2):
 ∀(fuel:Nat)(listed:Array Bool)(a:Act)(w:World)(c':Ct),listed.size=ops.length->Dj items (wk listed)->BJ X.P B w0 c σ0 items ρ (wk listed) c' a w->(∃l:bH,l.length<=fuel/\∀i,i<ops.length->wk listed i=false->i∈l)->
  wpAny X.P .any ops.toArray Q fuel listed a w:=by
 have Q9:∀(listed:Array Bool),listed.size=ops.length->Dj items (wk listed)->Region.ready .any ops.toArray listed=[]->∀i,i<ops.length->wk listed i=true:=by
  intro listed eT fm hr i;induction i using Nat.strongRecOn with
  |_ i ih=>
   intro hi;cases hs:wk listed i
   ·exfalso;have:i∈Region.ready .any ops.toArray listed:=by
     rw[mem_ready];refine⟨?_,ops[i],by simp[hi],fun e he hb=> ?_⟩
     ·unfold wk at hs;have:i<listed.size:=by omega
      simp[Fd this]at hs⊢;exact hs
     ·obtain⟨x,hx⟩:∃x,items[i]? =some x:=⟨items[i],cB (by omega)⟩;obtain⟨o,ho,_,_,_,_,_,_,Au⟩:=hp i x hx;have Vb:ops[i]=o:=by rw[cB hi]at ho;exact xX ho
      unfold Dt at Au;rw[Vb]at he;have:=lO.1 Au e (by simpa using he);simp only[hb,Bool.not_true,Bool.false_or]at this;have bi:e.on<i:=oo (by simpa[blt]using this);exact ih e.on bi (by omega)
    rw[hr]at this;cases this
   ·rfl
 have acb:∀(listed:Array Bool)(a:Act)(w:World)(c':Ct),BJ X.P B w0 c σ0 items ρ (wk listed) c' a w->(∀i,i<ops.length->wk listed i=true)->Q .normal a w:=by intro listed a w c' fC wh;refine hQ c' a w ⟨fC.sub,fC.env,?_,fun p h=>fC.β p (fun j x hj _=>h j x hj rfl),fun p h=>fC.R p (fun j x hj _=>h j x hj rfl)⟩;refine fC.cO.congr (by have:=fC.cO.size;rw[iY]at this⊢;exact this) (fun l=>ou l items 0 σ0 σ0 rfl rfl (fun i x hx _=> ?_));have:i<items.length:=(kK.1 hx).1;simp only[eG,fT];exact(wh i (by omega)).symm
 intro fuel
 induction fuel with
 |zero=>
  intro listed a w c' eT fm fC ⟨l,hl,Fv⟩;have wh:∀i,i<ops.length->wk listed i=true:=fun i hi=>by
   cases hs:wk listed i
   ·have hm:=Fv i hi hs;have:l=[]:=px (by omega);subst this;cases hm
   ·rfl
  refine⟨?_,acb listed a w c' fC wh⟩;cases hr:Region.ready .any ops.toArray listed with
  |nil=>rfl|cons i is=>
   have:i∈Region.ready .any ops.toArray listed:=by rw[hr];exact fc ..
   obtain⟨h0,o,ho,_⟩:=mem_ready.1 this;have hi:i<ops.length:=by have:=(iX.1 ho).1;simpa using this
   have:=wh i hi;unfold wk at this;have bi:i<listed.size:=by omega
   simp[Fd bi]at h0 this;rw[h0]at this;cases this
 |succ fuel ih=>
  intro listed a w c' eT fm fC ⟨l,hl,Fv⟩;refine⟨fun hr=>acb listed a w c' fC (Q9 listed eT fm hr),fun i hi=> ?_⟩;obtain⟨h0,o,ho,QV⟩:=mem_ready.1 hi;have ame:i<ops.length:=by have:=(iX.1 ho).1;simpa using this
  obtain⟨x,hx⟩:∃x,items[i]? =some x:=⟨items[i],cB (by omega)⟩;have bi:i<listed.size:=by omega
  have OG:wk listed i=false:=by unfold wk;simp[Fd bi]at h0⊢;exact h0
  obtain⟨o',Jn,_,_,_,gk,_⟩:=hp i x hx;have XS:o'=o:=by simp at ho;rw[ho]at Jn;exact(xX Jn).symm
  subst XS;have HL:∀k,x.pre.testBit k=true->wk listed k=true:=fun k hk=>by
   rw[gk]at hk;obtain⟨e,he,hb,hor⟩:=Iu hk;have Td:=QV e (by simpa using he) hb;rcases hor with rfl|⟨y,hy,hyk⟩
   ·exact Td
   ·rw[qg]at hy;split at hy
    ·exact fm e.on y hy Td k hyk
    ·cases hy
  have Ag:∀j,wk (listed.setIfInBounds i true) j=(wk listed j||decide (j=i)):=fun j=>by
   unfold wk;by_cases hj:j=i
   ·subst hj;simp[bi]
   ·simp[xC (Ne.symm hj),hj]
  refine PE hX hp Mu fm fC hx HL OG Ag Q _ (fun c2 a2 w2 YG=>ih _ a2 w2 c2 (by simpa using eT) (fun j y hj hs k hk=> ?_) YG ⟨l.erase i,?_,fun j hj hs=> ?_⟩)
  ·rw[Ag]at hs⊢;by_cases EP:j=i
   ·subst EP;rw[hx]at hj;cases hj;rw[HL k hk];rfl
   ·simp[EP]at hs;rw[fm j y hj hs k hk];rfl
  ·have hm:=Fv i ame OG;rw[length_erase_of_mem hm];omega
  ·rw[Ag]at hs;simp only[Bool.or_eq_false_iff,LB]at hs;exact(mem_erase_of_ne hs.2).2 (Fv j hj hs.1)
def acR{ops:dB}{σ:St}{N:Nx}{dE:List Item}{r:ab}(hp:mA X Γ ops (c.ρ++r) σ dE)(Oz:(cQ fT dE 0 σ).nv=(c.ρ++r).length)(hi:Is X.P B w0 c0 c σ c.ρ N a w){c2:Ct}{a2:Act}{w2:World}(fC:BJ X.P B w0 {c with ρ:=c.ρ++r} σ dE (c.ρ++r) fT c2 a2 w2):Is X.P B w0 c0 c2 (cQ fT dE 0 σ) (c.ρ++r) N a2 w2:=by
 refine⟨hi.sub.trans ⟨fC.sub.K,fC.sub.β,fC.sub.R⟩,fC.env,fC.cO,⟨fun p xN=> ?_,fun p xN=> ?_⟩,Oz,?_⟩
 ·rw[fC.β p (fun j x hj _ hm=> ?_)]
  ·exact hi.fresh.β p (bI (ov fT dE 0 σ).1 xN)
  ·obtain⟨o,ho,_,_,_,_,HB,_,_⟩:=hp j x hj;rcases HB with⟨_,hr⟩|⟨_,r0,sv,qb,_,_,_,_,hr,_⟩
   ·rw[hr]at hm;simp[AC,dl.pure]at hm
   ·rw[hr]at hm;unfold xy at qb;split at qb
    ·split at qb
     ·rename_i hg;cases qb;simp only[aL,Hx,lO,fS]at hg;obtain⟨y,hy,e⟩:=(hg.1.1 p hm).2;have:=(uT fT dE 0 σ j x hj rfl).1 y (by rw[hr];exact hy);rw[fh e]at this;omega
     ·cases qb
    ·cases qb
 ·rw[fC.R p (fun j x hj _ hm=> ?_)]
  ·exact hi.fresh.R p (bI (ov fT dE 0 σ).2 xN)
  ·obtain⟨o,ho,_,_,_,_,HB,_,_⟩:=hp j x hj;rcases HB with⟨_,hr⟩|⟨_,r0,sv,qb,_,_,_,_,hr,_⟩
   ·rw[hr]at hm;simp[AC,dl.pure]at hm
   ·rw[hr]at hm;unfold xy at qb;split at qb
    ·split at qb
     ·rename_i hg;cases qb;simp only[aL,Hx,lO,fS]at hg;obtain⟨y,hy,e⟩:=(hg.1.2 p hm).2;have:=(uT fT dE 0 σ j x hj rfl).2 y (by rw[hr];exact hy);rw[fh e]at this;omega
     ·cases qb
    ·cases qb
 ·have:∀(l:List Item)(j:Nat)(s:St),(cQ fT l j s).lv=s.lv:=by
   intro l;induction l with
   |nil=>intro _ _;rfl|cons x l ih=>intro j s;simp only[cQ,fT,qO];rw[ih];rfl
  rw[this];exact hi.lv
def WH(hX:X.ok Γ B w0){m:Nat}(hp:mA X Γ ops ρ σ0 items)(hlen:items.length=m)(hm:m<ops.length)(hs:Region.sinkB .any ops.toArray m=true)(hc:Region.chainB .any ops.toArray m=true)(hq:Region.seqB .any ops.toArray (ops.length-m) m (vj m ops.length)=true)(Mu:io σ0 c)(Q:Exit->Act->World->Prop)(hQ:∀c2 a2 w2,BJ X.P B w0 c σ0 items ρ fT c2 a2 w2->wpList X.P ops.toArray Q (ops.drop m) a2 w2):
 ∀(h:Nat)(listed:Array Bool)(a:Act)(w:World)(c':Ct),HeadInv .any ops.toArray m listed->Dj items (wk listed)->BJ X.P B w0 c σ0 items ρ (wk listed) c' a w->(∃l:bH,l.length=h/\l.Nodup/\∀i,i∈l↔i<m/\wk listed i=false)->
  wpAny X.P .any ops.toArray Q (h+(ops.length-m)) listed a w:=by
 have hm':m<ops.toArray.size:=by simpa using hm
 have Q9:∀(listed:Array Bool),HeadInv .any ops.toArray m listed->Region.ready .any ops.toArray listed=[]->∀i,i<m->wk listed i=true:=by
  intro listed inv hr i;have eT:listed.size=ops.length:=by simpa using inv.size
  induction i using Nat.strongRecOn with
  |_ i ih=>
   intro hi;cases hs:wk listed i
   ·exfalso;have:i∈Region.ready .any ops.toArray listed:=by
     rw[mem_ready];refine⟨?_,ops[i],by simp,fun e he hb=> ?_⟩
     ·unfold wk at hs;have:i<listed.size:=by omega
      simp[Fd this]at hs⊢;exact hs
     ·obtain⟨x,hx⟩:∃x,items[i]? =some x:=⟨items[i],cB (by omega)⟩;obtain⟨o,ho,_,_,_,_,_,_,Au⟩:=hp i x hx;have Vb:ops[i]=o:=by rw[cB (by omega)]at ho;exact xX ho
      unfold Dt at Au;rw[Vb]at he;have:=lO.1 Au e (by simpa using he);simp only[hb,Bool.not_true,Bool.false_or]at this;have bi:e.on<i:=oo (by simpa[blt]using this);exact ih e.on bi (by omega)
    rw[hr]at this;cases this
   ·rfl
 intro h
 induction h with
 |zero=>
  intro listed a w c' inv fm fC ⟨l,hl,_,Fv⟩;have eT:listed.size=ops.length:=by simpa using inv.size
  have wh:∀i,i<m->wk listed i=true:=fun i hi=>by
   cases hs:wk listed i
   ·have ti:=(Fv i).2 ⟨hi,hs⟩;have:l=[]:=px hl;subst this;cases ti
   ·rfl
  have he:listed=vj m ops.length:=by
   refine Array.ext (by simp[vj,eT];omega) (fun i h1 h2=> ?_);by_cases hi:i<m
   ·have:=wh i hi;unfold wk at this;simp[h1]at this;rw[this];simp[vj,hi]
   ·have:=inv.tail i (by omega) (by simpa using(by omega:i<ops.length));simp[h1]at this;rw[this];simp[vj,getElem_append,hi]
  have YG:BJ X.P B w0 c σ0 items ρ fT c' a w:=by refine⟨fC.sub,fC.env,?_,fun p h=>fC.β p (fun j x hj _=>h j x hj rfl),fun p h=>fC.R p (fun j x hj _=>h j x hj rfl)⟩;refine fC.cO.congr (by have:=fC.cO.size;rw[iY]at this⊢;exact this) (fun l=>ou l items 0 σ0 σ0 rfl rfl (fun i x hx _=> ?_));have:i<items.length:=(kK.1 hx).1;simp only[eG,fT];exact(wh i (by omega)).symm
  have:=wpAny_of_seq (P:=X.P) (md:= .any) (ops:=ops.toArray) (Q':=Q) (ops.drop m) m listed a w (fun j=>by simp[BR]) (by rw[tc,he];exact hq) (hQ c' a w YG);rw[tc]at this;rw[eG];exact this
 |succ h ih=>
  intro listed a w c' inv fm fC ⟨l,hl,hnd,Fv⟩;have eT:listed.size=ops.length:=by simpa using inv.size
  obtain⟨i0,Nr⟩:∃i0,i0∈l:=by
   cases l with|nil=>simp at hl|cons x r=>exact⟨x,fc ..⟩
  obtain⟨ama,amb⟩:=(Fv i0).1 Nr;rw[show h+1+(ops.length-m)=(h+(ops.length-m))+1 by omega];refine⟨fun hr=>(by have:=Q9 listed inv hr i0 ama;rw[amb]at this;cases this),fun i hi=> ?_⟩;obtain⟨h0,o,ho,QV⟩:=mem_ready.1 hi;have ame:i<ops.length:=by have:=(iX.1 ho).1;simpa using this
  have him:i<m:=by
   rcases xU i m with h|h
   ·exact h
   ·exact absurd hi (tail_waits hs hc hm' inv _ i0 rfl ama (getD_in (by omega) amb) i h)
  obtain⟨x,hx⟩:∃x,items[i]? =some x:=⟨items[i],cB (by omega)⟩;have bi:i<listed.size:=by omega
  have OG:wk listed i=false:=by unfold wk;simp[Fd bi]at h0⊢;exact h0
  obtain⟨o',Jn,_,_,_,gk,_⟩:=hp i x hx;have XS:o'=o:=by simp at ho;rw[ho]at Jn;exact(xX Jn).symm
  subst XS;have HL:∀k,x.pre.testBit k=true->wk listed k=true:=fun k hk=>by
   rw[gk]at hk;obtain⟨e,he,hb,hor⟩:=Iu hk;have Td:=QV e (by simpa using he) hb;rcases hor with rfl|⟨y,hy,hyk⟩
   ·exact Td
   ·rw[qg]at hy;split at hy
    ·exact fm e.on y hy Td k hyk
    ·cases hy
  have Ag:∀j,wk (listed.setIfInBounds i true) j=(wk listed j||decide (j=i)):=fun j=>by
   unfold wk;by_cases hj:j=i
   ·subst hj;simp[bi]
   ·simp[xC (Ne.symm hj),hj]
  refine PE hX hp Mu fm fC hx HL OG Ag Q _ (fun c2 a2 w2 YG=>ih _ a2 w2 c2 (inv.set hi him) (fun j y hj hs k hk=> ?_) YG ⟨l.erase i,?_,hnd.erase i,fun j=> ?_⟩)
  ·rw[Ag]at hs⊢;by_cases EP:j=i
   ·subst EP;rw[hx]at hj;cases hj;rw[HL k hk];rfl
   ·simp[EP]at hs;rw[fm j y hj hs k hk];rfl
  ·have ti:=(Fv i).2 ⟨him,OG⟩;rw[length_erase_of_mem ti];omega
  ·rw[Ag,hnd.mem_erase_iff,Fv j];simp only[Bool.or_eq_false_iff,LB];constructor
   ·rintro⟨h1,h2,h3⟩;exact⟨h2,h3,h1⟩
   ·rintro⟨h1,h2,h3⟩;exact⟨h3,h1,h2⟩
def Qx(hX:X.ok Γ B w0){id:Nat}{qF:Array Oper}{σ:St}{N:Nx}{Φ:St->ab->Nx->Prop}(h:T.wp Γ (if σ.under then(tO X qF.toList qF.toList 0 σ []).bind fun x=> .ah x.1 else .fail "under") ρ N Φ)(hi:Is X.P B w0 c0 c σ ρ N a w)(Q:Exit->Act->World->Prop)(hQ:∀σ' r c' a' w',Φ σ' (ρ++r) N->Is X.P B w0 c0 c' σ' (ρ++r) N a' w'->Q .normal a' w'):(Code.region id qF true).wp X.P Q a w:=by
 split at h
 rotate_left
 ·exact h.elim
 rename_i hu
 have h:=T.wp_bind h
 obtain⟨r,dE,hΦ,hp,hlen,Oz⟩:=Bm qF.toList 0 σ [] ρ h (fun k _=>by simp) rfl rfl hi.nv (fun j x hj=>by simp at hj)
 have sn:=hi.env
 subst sn
 have g2:av X.P B w0 σ {c with ρ:=c.ρ++r} a {w with drawn:=w.drawn+1}:=(hi.cO.drew).env hu (fun i h=>aZ _ _ _ _ (by rw[<-hi.nv];exact h))
 refine wp_region_any hX.mixed ?_
 have:=UB (B:=B) (w0:=w0) (c:={c with ρ:=c.ρ++r}) hX hp (by simpa using hlen) ⟨hi.fresh.β,hi.fresh.R⟩ Q (fun c2 a2 w2 fC=> ?_) qF.size (Array.replicate qF.size false) a {w with drawn:=w.drawn+1} {c with ρ:=c.ρ++r} (by simp) (fun j x hj hs=>by
  unfold wk at hs;by_cases bi:j<qF.size
  ·simp[bi]at hs
  ·simp[bi]at hs) ⟨.refl _,rfl,?_,fun _ _=>rfl,fun _ _=>rfl⟩ ⟨range qF.size,by simp,fun i EO _=>by simpa using EO⟩
 ·simpa using this
 ·refine hQ _ r c2 a2 w2 hΦ ⟨hi.sub.trans ⟨fC.sub.K,fC.sub.β,fC.sub.R⟩,fC.env,fC.cO,⟨fun p xN=> ?_,fun p xN=> ?_⟩,Oz,?_⟩
  ·rw[fC.β p (fun j x hj _ hm=> ?_)]
   ·exact hi.fresh.β p (bI (ov fT dE 0 σ).1 xN)
   ·obtain⟨o,ho,_,_,_,_,HB,_,_⟩:=hp j x hj;rcases HB with⟨_,hr⟩|⟨_,r0,sv,qb,_,_,_,_,hr,_⟩
    ·rw[hr]at hm;simp[AC,dl.pure]at hm
    ·rw[hr]at hm;unfold xy at qb;split at qb
     ·split at qb
      ·rename_i hg;cases qb;simp only[aL,Hx,lO,fS]at hg;obtain⟨y,hy,e⟩:=(hg.1.1 p hm).2;have:=(uT fT dE 0 σ j x hj rfl).1 y (by rw[hr];exact hy);rw[fh e]at this;simp only at xN;omega
      ·cases qb
     ·cases qb
  ·rw[fC.R p (fun j x hj _ hm=> ?_)]
   ·exact hi.fresh.R p (bI (ov fT dE 0 σ).2 xN)
   ·obtain⟨o,ho,_,_,_,_,HB,_,_⟩:=hp j x hj;rcases HB with⟨_,hr⟩|⟨_,r0,sv,qb,_,_,_,_,hr,_⟩
    ·rw[hr]at hm;simp[AC,dl.pure]at hm
    ·rw[hr]at hm;unfold xy at qb;split at qb
     ·split at qb
      ·rename_i hg;cases qb;simp only[aL,Hx,lO,fS]at hg;obtain⟨y,hy,e⟩:=(hg.1.2 p hm).2;have:=(uT fT dE 0 σ j x hj rfl).2 y (by rw[hr];exact hy);rw[fh e]at this;simp only at xN;omega
      ·cases qb
     ·cases qb
  ·have:∀(l:List Item)(j:Nat)(s:St),(cQ fT l j s).lv=s.lv:=by
    intro l;induction l with
    |nil=>intro _ _;rfl|cons x l ih=>intro j s;simp only[cQ,fT,qO];rw[ih];rfl
   rw[this];exact hi.lv
 ·have e:cQ (wk (Array.replicate qF.size false)) dE 0 σ=σ:=pC _ _ _ _ (fun i EO=>by unfold wk;by_cases bi:i<qF.size<;>simp[bi])
  rw[e];exact g2
def R4(hX:X.ok Γ B w0){inl:HU}(yy:Kc X Γ B w0 inl){id:Nat}{qF:Array Oper}{m:Nat}(hB:Uo qF.toList m=true){σ:St}{N:Nx}{Φ:St->ab->Nx->Prop}(hu:σ.under=true)(h:T.wp Γ ((tO X qF.toList (qF.toList.take m) 0 σ []).bind fun x=>sM X inl qF.toList (qF.toList.drop m) m x.1) ρ N Φ)(hi:Is X.P B w0 c0 c σ ρ N a w)(Q:Exit->Act->World->Prop)(hQ:∀σ' r n c' a' w',Φ σ' (ρ++r) (N++n)->Is X.P B w0 c0 c' σ' (ρ++r) (N++n) a' w'->Q .normal a' w'):(Code.region id qF true).wp X.P Q a w:=by
 simp only[Uo,aL]at hB
 obtain⟨⟨⟨hm,hs⟩,hc⟩,hq⟩:=hB
 have hm:m<qF.toList.length:=oo (by simpa[blt]using hm)
 have h:=T.wp_bind h
 obtain⟨r,dE,hΦ,hp,hlen,Oz⟩:=Bm (qF.toList.take m) 0 σ [] ρ h (fun k hk=>by rw[iW]at hk;rw[qg,aA (by omega),eG]) rfl rfl hi.nv (fun j x hj=>by simp at hj)
 have sn:=hi.env
 subst sn
 have g2:av X.P B w0 σ {c with ρ:=c.ρ++r} a {w with drawn:=w.drawn+1}:=(hi.cO.drew).env hu (fun i h=>aZ _ _ _ _ (by rw[<-hi.nv];exact h))
 refine wp_region_any hX.mixed ?_
 have amn:dE.length=m:=by rw[hlen,iW];omega
 have Dh:∀i,wk (Array.replicate qF.toList.length false) i=false:=fun i=>getD_replicate_false _ _
 have:=WH (B:=B) (w0:=w0) (c:={c with ρ:=c.ρ++r}) hX hp amn hm hs hc hq ⟨hi.fresh.β,hi.fresh.R⟩ Q (fun c2 a2 w2 fC=>by
  refine Eb hX yy (qF.toList.drop m) m _ (c.ρ++r) N Φ c0 c2 a2 w2 Q hΦ (acR hp Oz hi fC) (fun σ' r2 n c' a' w' h1 h2=> ?_);refine hQ σ' (r++r2) n c' a' w' ?_ ?_
  ·rw[<-eh];exact h1
  ·rw[<-eh];exact h2) m (Array.replicate qF.toList.length false) a {w with drawn:=w.drawn+1} {c with ρ:=c.ρ++r}
  ⟨by simp,fun j oj _ hl=>(by have:=Dh j;unfold wk at this;rw[this]at hl;cases hl),fun t _ ht=>getD_in (by simpa using ht) (Dh t)⟩
  (fun j x hj hs'=>by rw[Dh]at hs';cases hs')
  ⟨.refl _,rfl,?_,fun _ _=>rfl,fun _ _=>rfl⟩ ⟨range m,by simp,nodup_range,fun i=>by rw[mem_range];exact⟨fun h=>⟨h,Dh i⟩,fun h=>h.1⟩⟩
 ·rw[show m+(qF.toList.length-m)=qF.toList.length by omega]at this;simpa using this
 ·have e:cQ (wk (Array.replicate qF.toList.length false)) dE 0 σ=σ:=pC _ _ _ _ (fun i EO=>Dh _);rw[e];exact g2
end
end Go.Proofs.YtnfambhakdnncaaGreatDoor
