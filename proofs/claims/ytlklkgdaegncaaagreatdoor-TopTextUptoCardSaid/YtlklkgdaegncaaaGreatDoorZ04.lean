/-
  A part of the proof of TopText: SymN1, SymN2, SymN3, SymN4, SymN5.
-/
import Derived.Test.YtlklkgdaegncaaaGreatDoorZ03
import Derived.Lib.RuneCountTail
namespace Go.Proofs.YtlklkgdaegncaaaGreatDoor
set_option linter.unusedVariables false
set_option linter.unusedSimpArgs false
open List
open Nat
open Int
section
open Go.RowKit
section
variable {P:Program}{B:mC}{w0:World}{σ:St}{c:Ct}{a:Act}{w:World}{o:Oper}{rd:Rd}{pl:uE}
theorem add_lit (p o n:Nat):(⟨p,o,none⟩:Addr).add n=⟨p,o+n,none⟩:=by unfold Addr.add;split<;>simp_all
theorem aj6 {lo e:Ex}{n m:Nat} (hm:m<=maxLen) (h0:0<=(lo.ev c.ρ).int) (h1:0<=(e.ev c.ρ).int) (h2:(e.ev c.ρ).int<=n) (h3:(lo.ev c.ρ).int+n<=m):((iV (.add .i64) lo e).ev c.ρ).int=(lo.ev c.ρ).int+(e.ev c.ρ).int:=by
 rw[bP]
 exact Ux (by omega) (by simp only[maxLen]at hm;omega)
theorem akO {sv:SV}{e:Ex}{b j:Nat} (h:au5 sv e=some (b,j)):∃lo n z,sv= .at (.bs b lo n)/\e= .i z/\(0<=z/\z<(n:Int))/\j=lo+z.toNat:=by
 unfold au5 at h
 split at h
 ·split at h
  ·rename_i hz;cases h;exact⟨_,_,_,rfl,rfl,hz,rfl⟩
  ·cases h
 ·cases h
theorem ah0 {ty:TypeId} (h:ans P ty=true):EK P ty=some false:=by
 unfold ans at h
 split at h
 ·assumption
 ·cases h
theorem aou (g:aX P B w0 σ c a w) (gY:MV σ c a rd){ty:TypeId}{x i:Operand} (ho:o.op= .indexAddr ty x i){r:il} (h:po P pl o rd=some r) (hn:∀e∈r.lN,(e.ev c.ρ).bool=true):eQ P B w0 σ c a w o r:=by
 unfold po at h
 simp only[ho]at h
 have hx:=gY.ev x
 have hi:=gY.ev i
 split at h
 ·rename_i el k e hu h2
  rw[h2]at hi
  have hi:a.eval i= .int k (e.ev c.ρ).int:=hi
  split at h
  ·
   rename_i b j hbs
   split at h
   ·rename_i kZ
    cases h
    obtain⟨lo,n,z,Rv,rfl,hz,rfl⟩:=akO hbs
    rw[Rv]at hx
    obtain⟨m,cap,hb,hv⟩:=hx
    have hi:a.eval i= .int k z:=hi
    refine eQ.quiet g (v:= .pointer (some ((⟨m,lo,none⟩:Addr).add (z.toNat*1)))) ?_ ⟨m,hb,by rw[add_lit,Nat.mul_one]⟩
    simp[execOp,ho,Instr.indexAt,asIntOf,hi,run_underlying hu,hv,hz,dQ kZ]
   ·cases h
  split at h
  ·
   rename_i rr kk n hh kZ
   split at h
   ·rename_i hc
    obtain⟨hnk,EJ⟩:=hc
    cases h
    unfold ajR at hh
    split at hh
    ·rename_i r' Rv
     split at hh
     ·rename_i kk' hk
      split at hh
      ·cases hh
      ·rename_i hc
       cases hh
       simp only[Bool.or_eq_true,Bool.not_eq_true',not_or,Bool.not_eq_true,Bool.not_eq_false]at hc
       obtain⟨_,cv⟩:=hc
       have n1:=hn (iV .le (.i 0) e) (by simp)
       have n2:=hn (iV .lt e (CB .len kk.cont)) (by simp)
       rw[bP]at n1 n2
       rw[kR]at n2
       have n1:(0:Int)<=(e.ev c.ρ).int:=of_decide_eq_true n1
       have n2:(e.ev c.ρ).int<((kk.cont.ev c.ρ).list.length:Int):=of_decide_eq_true n2
       rw[Rv]at hx
       obtain⟨hR,_⟩:=hx
       obtain⟨v,Pl,D,ad,m,cap,rfl,d0,h1,h2,h3,h4,_,_⟩:=g.rows _ _ (gY.row _ _ hk)
       rw[hR]at Pl
       have hL:(kk.cont.ev c.ρ).list.length=m:=by rw[<-o9 (iI d0)];exact h1
       rw[hL]at n2
       rcases h4 cv with h|⟨⟨H,hw,_⟩,_⟩
       ·omega
       rcases hw.2 with⟨hv,_⟩|⟨p,eW,cur,hv,_⟩
       ·cases hv;omega
       cases hv
       have Pl:a.eval x= .slice (some ⟨p,0,none⟩) m cap:=Option.some.inj Pl
       refine eQ.quiet g (v:= .pointer (some ((⟨p,0,none⟩:Addr).add ((e.ev c.ρ).int.toNat*n)))) ?_ ⟨p,0,m,cap,by rw[hR,Pl],n1,n2,by rw[add_lit];rfl⟩
       simp[execOp,ho,Instr.indexAt,asIntOf,hi,run_underlying hu,Pl,n1,n2,dQ kZ]
     ·cases hh
    ·cases hh
   ·cases h
  split at h
  ·rename_i rr kk lo len n hs kZ
   split at h
   ·rename_i hnk
    cases h
    have n1:=hn (iV .le (.i 0) e) (by simp)
    have n2:=hn (iV .lt e len) (by simp)
    rw[bP]at n1 n2
    have n1:(0:Int)<=(e.ev c.ρ).int:=of_decide_eq_true n1
    have n2:(e.ev c.ρ).int<(len.ev c.ρ).int:=of_decide_eq_true n2
    obtain⟨ad,m,cap,hv,hl,hlo,hmc,OG,Mn,Pu⟩:=pn g gY.row hs hx
    simp only at Pu
    obtain⟨_,hk,hho,dI,jW,anO,hle,hL,ain,pK,hcell⟩:=Pu
    obtain⟨p,q,m',uI,e1,e2,e3⟩:=pK (by omega)
    obtain⟨D4,ad4,n4,ayi,f1,f0,f2',f3,f4,_⟩:=g.read hk hho
    have f2:=f2'
    rw[o9 (iI f0)]at f2
    rw[e1]at f1;cases f1
    refine eQ.quiet g (v:= .pointer (some ((⟨p,q+(lo.ev c.ρ).int.toNat*kk.ks.length,none⟩:Addr).add ((e.ev c.ρ).int.toNat*n)))) ?_ ?_
    ·simp[execOp,ho,Instr.indexAt,asIntOf,hi,run_underlying hu,hv,e3,n1,(by omega:(e.ev c.ρ).int<(m:Int)),dQ kZ]
    ·rw[add_lit]
     rcases anO with hf|⟨es,lo',aoI,hf⟩
     ·obtain⟨avU,_⟩:=ain hf
      subst avU
      rw[hf]
      refine⟨p,q,m',uI,e1,n1,by show(e.ev c.ρ).int<m';simp[Ex.ev]at hle;omega,?_⟩
      show _=Value.pointer (some ⟨p,q+(e.ev c.ρ).int.toNat*n+0,none⟩)
      simp[Ex.ev,hnk]
     ·rw[hf]
      have vX:=aj6 (c:=c) (lo:=lo) (e:=e) (n:=m) (m:=m') (by omega) hlo n1 (by omega) (by omega)
      refine⟨p,q,m',uI,e1,?_,?_,?_⟩
      ·show 0<=((iV (.add .i64) lo e).ev c.ρ).int
       rw[vX];omega
      ·show((iV (.add .i64) lo e).ev c.ρ).int<m'
       rw[vX];omega
      ·show _=Value.pointer (some ⟨p,q+((iV (.add .i64) lo e).ev c.ρ).int.toNat*n+0,none⟩)
       rw[vX,toNat_add hlo n1,Nat.add_mul,hnk,Nat.add_assoc]
       rfl
   ·cases h
  ·cases h
   have:=hn (.b false) (by simp)
   cases this
  ·cases h
 ·rename_i len el k z hu h2
  rw[h2]at hi
  have hi:a.eval i= .int k z:=hi
  split at h
  ·rename_i p off n h1 kZ
   split at h
   ·rename_i hz
    cases h
    rw[h1]at hx
    obtain⟨m,hb,hv⟩:=hx
    refine eQ.quiet g (v:= .pointer (some ((⟨m,off,none⟩:Addr).add (z.toNat*n)))) ?_ ⟨m,hb,by rw[add_lit]⟩
    simp[execOp,ho,Instr.indexAt,asIntOf,hi,run_underlying hu,hv,Instr.sureAddr,hz,dQ kZ]
   ·cases h
  ·cases h
 ·cases h
theorem apS (g:aX P B w0 σ c a w) (gY:MV σ c a rd){ty:TypeId}{x:Operand}{lo hi mx:Option Operand} (ho:o.op= .slice ty x lo hi mx){r:il} (ur:∀i∈r.nr,c.R i=none) (h:po P pl o rd=some r) (hn:∀e∈r.lN,(e.ev c.ρ).bool=true):eQ P B w0 σ c a w o r:=by
 unfold po at h
 simp only[ho]at h
 have hx:=gY.ev x
 have azW:∀(l:Ex),aj7 rd lo=some l->(lo=none/\(l.ev c.ρ).int=0)\/∃y k,lo=some y/\a.eval y= .int k (l.ev c.ρ).int:=by
  intro l hl
  unfold aj7 at hl
  cases lo with
  |none=>simp at hl;subst hl;exact .inl ⟨rfl,rfl⟩
  |some y=>
   simp only[Option.map_eq_some_iff]at hl
   obtain⟨⟨k,e⟩,h1,rfl⟩:=hl
   have hy:=gY.ev y
   refine .inr ⟨y,k,rfl,?_⟩
   unfold SV.int? at h1
   split at h1
   ·rename_i h2;cases h1;rw[h2]at hy;exact hy
   ·cases h1
 have at5:∀(d l:Ex),aej rd hi d=some l->(hi=none/\l=d)\/∃y k,hi=some y/\a.eval y= .int k (l.ev c.ρ).int:=by
  intro d l hl
  unfold aej at hl
  cases hi with
  |none=>simp at hl;exact .inl ⟨rfl,hl.symm⟩
  |some y=>
   simp only[Option.map_eq_some_iff]at hl
   obtain⟨⟨k,e⟩,h1,rfl⟩:=hl
   have hy:=gY.ev y
   refine .inr ⟨y,k,rfl,?_⟩
   unfold SV.int? at h1
   split at h1
   ·rename_i h2;cases h1;rw[h2]at hy;exact hy
   ·cases h1
 have hzero:∀(q:Option Operand),Xp rd q=true->q=none\/∃y k,q=some y/\a.eval y= .int k 0:=by
  intro q hq
  unfold Xp at hq
  split at hq
  ·exact .inl rfl
  ·rename_i y
   split at hq
   ·rename_i k hy
    have hv:=gY.ev y
    rw[hy]at hv
    exact .inr ⟨y,k,rfl,hv⟩
   ·cases hq
 cases mx with
 |some m=>
  simp only at h
  split at h
  ·rename_i el y hu hs
   split at h
   ·rename_i hz
    simp only[Bool.and_eq_true]at hz
    obtain⟨⟨⟨⟨z1,z2⟩,z3⟩,z4⟩,z5⟩:=hz
    cases h
    obtain⟨src,lo',aoI⟩:=y
    obtain⟨ad,n,cap,hv,_⟩:=pn g gY.row hs hx
    obtain⟨y3,k3,e3,v3⟩:=(hzero _ z3).resolve_left (by simp)
    cases e3
    obtain⟨y2,k2,e2,v2⟩:=(hzero _ z2).resolve_left (by intro e;rw[e]at z4;cases z4)
    subst e2
    obtain⟨sz,kZ⟩:=Option.isSome_iff_exists.1 z5
    have kZ:=dQ (w:=w) kZ
    rcases hzero _ z1 with rfl|⟨y1,k1,rfl,v1⟩
    ·exact eQ.quiet g (v:= .slice ad 0 0) (by simp[execOp,ho,Instr.sliceAt,run_underlying hu,Instr.slice,Instr.sliceBounds,Instr.sliceBound,asIntOf,hv,v2,v3,kZ]) ⟨ad,rfl⟩
    ·exact eQ.quiet g (v:= .slice ad 0 0) (by simp[execOp,ho,Instr.sliceAt,run_underlying hu,Instr.slice,Instr.sliceBounds,Instr.sliceBound,asIntOf,hv,v1,v2,v3,kZ]) ⟨ad,rfl⟩
   ·cases h
  ·cases h
 |none=>
 simp only at h
 split at h
 ·
  rename_i hu
  split at h
  rotate_left
  ·cases h
  rename_i s hs
  rw[hs]at hx
  have hx:a.eval x= .string (s.ev c.ρ).str:=hx
  split at h
  ·rename_i l hh h1 h2
   cases h
   have n1:=hn (iV .le (.i 0) l) (by simp)
   have n2:=hn (iV .le l hh) (by simp)
   have n3:=hn (iV .le hh (CB .fD s)) (by simp)
   rw[bP]at n1 n2 n3
   rw[kR]at n3
   have n1:(0:Int)<=(l.ev c.ρ).int:=of_decide_eq_true n1
   have n2:(l.ev c.ρ).int<=(hh.ev c.ρ).int:=of_decide_eq_true n2
   have n3:(hh.ev c.ρ).int<=((s.ev c.ρ).str.size:Int):=of_decide_eq_true n3
   refine eQ.quiet g (v:= .string ((s.ev c.ρ).str.extract (l.ev c.ρ).int.toNat (hh.ev c.ρ).int.toNat)) ?_ (by show _=_;rw[Hs];rfl)
   have q1:(0:Int)<=(hh.ev c.ρ).int:=by omega
   have q2:((hh.ev c.ρ).int.toNat:Int)=(hh.ev c.ρ).int:=by omega
   rcases azW l h1 with⟨rfl,e1⟩|⟨y,k,rfl,e1⟩<;>rcases at5 _ hh h2 with⟨rfl,e2⟩|⟨y',k',rfl,e2⟩
   ·subst e2
    simp[execOp,ho,Instr.sliceAt,run_underlying hu,Instr.slice,Instr.sliceBounds,hx,e1,kR,U1.ev]
   ·simp[execOp,ho,Instr.sliceAt,run_underlying hu,Instr.slice,Instr.sliceBounds,Instr.sliceBound,asIntOf,hx,e1,e2,q1,n3]
   ·subst e2
    have n4:(l.ev c.ρ).int<=((s.ev c.ρ).str.size:Int):=by omega
    simp[execOp,ho,Instr.sliceAt,run_underlying hu,Instr.slice,Instr.sliceBounds,Instr.sliceBound,asIntOf,hx,e1,n1,n4,kR,U1.ev]
   ·simp[execOp,ho,Instr.sliceAt,run_underlying hu,Instr.slice,Instr.sliceBounds,Instr.sliceBound,asIntOf,hx,e1,e2,n1,q1,n3,q2,n2]
  ·cases h
 ·
  rename_i el hu
  split at h
  ·
   rename_i hs
   split at h
   ·rename_i hz
    simp only[Bool.and_eq_true]at hz
    obtain⟨⟨z1,z2⟩,z5⟩:=hz
    cases h
    obtain⟨ad,n,cap,hv,hl,hlo,hmc,OG,Mn,Pu⟩:=pn g gY.row hs hx
    obtain⟨rfl,rfl,_⟩:=Pu
    obtain⟨sz,kZ⟩:=Option.isSome_iff_exists.1 z5
    have kZ:=dQ (w:=w) kZ
    rcases hzero _ z1 with rfl|⟨y1,k1,rfl,v1⟩<;>rcases hzero _ z2 with rfl|⟨y2,k2,rfl,v2⟩
    ·exact eQ.quiet g (v:= .slice ad 0 0) (by simp[execOp,ho,Instr.sliceAt,run_underlying hu,Instr.slice,Instr.sliceBounds,hv,kZ]) ⟨ad,rfl⟩
    ·exact eQ.quiet g (v:= .slice ad 0 0) (by simp[execOp,ho,Instr.sliceAt,run_underlying hu,Instr.slice,Instr.sliceBounds,Instr.sliceBound,asIntOf,hv,v2,kZ]) ⟨ad,rfl⟩
    ·exact eQ.quiet g (v:= .slice ad 0 0) (by simp[execOp,ho,Instr.sliceAt,run_underlying hu,Instr.slice,Instr.sliceBounds,Instr.sliceBound,asIntOf,hv,v1,kZ]) ⟨ad,rfl⟩
    ·exact eQ.quiet g (v:= .slice ad 0 0) (by simp[execOp,ho,Instr.sliceAt,run_underlying hu,Instr.slice,Instr.sliceBounds,Instr.sliceBound,asIntOf,hv,v1,v2,kZ]) ⟨ad,rfl⟩
   ·cases h
  ·rename_i rr kk b n hs
   split at h
   ·rename_i l hh k h1 h2 kZ
    split at h
    ·rename_i hkk
     split at h
     ·
      rename_i hc
      simp only[Bool.and_eq_true]at hc
      obtain⟨⟨⟨⟨z1,z2⟩,z3⟩,cv⟩,z5⟩:=hc
      cases h
      have ur:=ur rd.nr (by simp)
      have avU:lo=none:=by cases lo with|none=>rfl|some _=>cases z1
      subst avU
      obtain⟨y2,k2,e2,v2⟩:=(hzero _ z3).resolve_left (by intro e;rw[e]at z2;cases z2)
      subst e2
      have ain:rd.ev x= .at (.vec rr):=by
       unfold aun at z5
       split at z5
       ·rename_i r' Rv
        rw[Rv]at hs
        have:=Gq (x:= .vec r') hs
        simp only[cy]at hs
        split at hs
        ·split at hs
         ·cases hs;exact Rv
         ·cases hs
        ·cases hs
       ·cases z5
      rw[ain]at hx
      obtain⟨hR,_⟩:=hx
      have hkr:rd.row rr=some kk:=by rw[ain]at hs;exact Gq (x:= .vec rr) hs
      have an9:kk.hole=none:=by rw[ain]at hs;exact QE (x:= .vec rr) hs
      have hk:=gY.row _ _ hkr
      obtain⟨v,Pl,D,ad,m,cap,rfl,d0,h1,h2,h3,h4,_,_⟩:=g.rows _ _ hk
      have hR2:=Pl
      rw[hR]at Pl
      have TI:a.eval x= .slice ad m cap:=Option.some.inj Pl
      have kZ:=dQ (w:=w) kZ
      have jX:(execOp a.eval o).run P w= .ok (.value (.slice ad 0 cap)) w:=by
       simp[execOp,ho,Instr.sliceAt,run_underlying hu,Instr.slice,Instr.sliceBounds,Instr.sliceBound,asIntOf,TI,v2,kZ,Addr.add]
      have gg:=g.K8 (w':=w) hk cv hR2 (World.grownBy.refl _ _) (r':=rd.nr) (k':={kk with cont:= .nil}) cv an9 (D:=[]) (ad:=ad) (n:=0) (cap:=cap) (by simp[Ex.ev,Sc.er]) rfl (zero_le _) h3
       ((h4 cv).imp id fun h=>by
         have hw:=h.1.plain an9
         rcases hw.2 with⟨hv,hn⟩|⟨p,eW,cur,hv,a1,a2,a3,a4,a5,a6⟩
         ·cases hv
          exact⟨by simp[aE],.inl ⟨rfl,rfl⟩⟩
         ·cases hv
          exact⟨by simp[aE],.inr ⟨p,_,cur,rfl,a1,a2,zero_le _,a4,a5,by simp[aE]⟩⟩) (.inl (by cases ad<;>cases cap<;>rfl)) (.inl ur) (fun x hx=>by cases hx)
      refine⟨_,w,_,{c with R:=fun i=>if i=rd.nr then some (.slice ad 0 cap)else c.R i},jX,.inl rfl,?_,fun _ _=>rfl,fun i hi=>by simp at hi;simp[hi],⟨by simp,ad,0,cap,rfl⟩,gg⟩
      exact⟨rfl,rfl,fun _ _ e=>e,fun i u e=>by
       by_cases h:i=rd.nr
       ·subst h;rw[ur]at e;cases e
       ·simp[h,e]⟩
     cases h
     have n1:=hn (iV .le (.i 0) l) (by simp)
     have n2:=hn (iV .le l hh) (by simp)
     have n3:=hn (iV .le hh n) (by simp)
     rw[bP]at n1 n2 n3
     have n1:(0:Int)<=(l.ev c.ρ).int:=of_decide_eq_true n1
     have n2:(l.ev c.ρ).int<=(hh.ev c.ρ).int:=of_decide_eq_true n2
     have n3:(hh.ev c.ρ).int<=(n.ev c.ρ).int:=of_decide_eq_true n3
     obtain⟨ad,m,cap,hv,hl,hlo,hmc,OG,Mn,Pu⟩:=pn g gY.row hs hx
     simp only at Pu
     obtain⟨_,hk,hho,dI,jW,anO,hle,hL,ain,pK,hcell⟩:=Pu
     obtain⟨D4,ad4,n4,ayi,f1,f0,f2',f3,f4,_⟩:=g.read hk hho
     have f2:=f2'
     rw[o9 (iI f0)]at f2
     have q1:(0:Int)<=(hh.ev c.ρ).int:=by omega
     have q3:(hh.ev c.ρ).int<=(cap:Int):=by omega
     have hh2:((hh.ev c.ρ).int.toNat:Int)=(hh.ev c.ρ).int:=by omega
     have jX:(execOp a.eval o).run P w= .ok (.value (sliced ad (l.ev c.ρ).int.toNat (hh.ev c.ρ).int.toNat cap k)) w:=by
      rcases azW l h1 with⟨rfl,e1⟩|⟨y,k',rfl,e1⟩<;>rcases at5 _ hh h2 with⟨rfl,e2⟩|⟨y',k'',rfl,e2⟩
      ·subst e2
       simp[execOp,ho,Instr.sliceAt,run_underlying hu,Instr.slice,Instr.sliceBounds,hv,e1,dQ kZ,sliced,hl]
      ·simp[execOp,ho,Instr.sliceAt,run_underlying hu,Instr.slice,Instr.sliceBounds,Instr.sliceBound,asIntOf,hv,e1,e2,q1,q3,dQ kZ,sliced]
      ·subst e2
       have n4':(l.ev c.ρ).int<=(m:Int):=by omega
       simp[execOp,ho,Instr.sliceAt,run_underlying hu,Instr.slice,Instr.sliceBounds,Instr.sliceBound,asIntOf,hv,e1,n1,n4',dQ kZ,sliced,hl]
      ·simp[execOp,ho,Instr.sliceAt,run_underlying hu,Instr.slice,Instr.sliceBounds,Instr.sliceBound,asIntOf,hv,e1,e2,n1,q1,q3,hh2,n2,dQ kZ,sliced]
     have Cz:((iV (.sub .i64) hh l).ev c.ρ).int=(hh.ev c.ρ).int-(l.ev c.ρ).int:=by
      rw[bP];exact Ux (by omega) (by simp only[maxLen]at OG;omega)
     have key:∀(ix:Ex),(ix.ev c.ρ).int=(b.ev c.ρ).int+(l.ev c.ρ).int->(At.sl rr k ix (iV (.sub .i64) hh l)).rel c (sliced ad (l.ev c.ρ).int.toNat (hh.ev c.ρ).int.toNat cap k):=by
      intro ix hix
      refine⟨ad4,n4,ayi,(if cap=(l.ev c.ρ).int.toNat then ad else ad.map (·.add ((l.ev c.ρ).int.toNat*k))),cap-(l.ev c.ρ).int.toNat,f1,?_,by rw[hix];omega,by rw[Cz];omega,by rw[hix,Cz];omega,by rw[Cz];omega,by omega,fun hp=> ?_⟩
      ·rw[Cz]
       show Value.slice _ _ _=_
       congr 1
       omega
      ·rw[Cz]at hp
       obtain⟨p,q,m',uI,e1,e2,e3⟩:=pK (by omega)
       rw[f1]at e1;cases e1
       refine⟨p,q,rfl,?_⟩
       have rP:¬(cap=(l.ev c.ρ).int.toNat):=by omega
       rw[if_neg rP,e3]
       simp only[Option.map_some,add_lit]
       rw[hix,toNat_add hlo n1,Nat.add_mul,hkk,Nat.add_assoc]
     refine eQ.quiet g jX ?_
     rcases anO with hf|⟨es,lo',aoI,hf⟩
     ·obtain⟨hb0,_⟩:=ain hf
      subst hb0
      rw[hf]
      exact key l (by simp[Ex.ev])
     ·rw[hf]
      exact key (iV (.add .i64) b l) (aj6 (c:=c) (lo:=b) (e:=l) (n:=m) (m:=n4) (by omega) hlo n1 (by omega) (by omega))
    ·cases h
   ·cases h
  ·cases h
 ·cases h
theorem agN (g:aX P B w0 σ c a w){row:tB} (pc:∀p k,row p=some k->σ.row p=some k){ty:TypeId}{x y:Operand} (ho:o.op= .store ty x y){rr:Nat}{ix:Ex}{off:Nat}{k:Rw} (hx:(At.pel rr k.ks.length ix off).rel c (a.eval x))
 (hk:σ.row rr=some k) (cv:k.own=true) (hho:k.hole=none) (EJ:dC k.agg k.ks=true){sv:SV}{xs:qE} (kZ:ni P ty=some xs.length) (TH:sv.cells=some xs) (hkn:xs.all At.known=true) (hy:sv.rel c (a.eval y)){e:Ex}{fr:eJ}
 (he:GI P (fun q=>if Nat.beq q rr then none else row q) k.agg k.ks (k.elem ix) off xs=some (e,fr)):
 eQ P B w0 σ c a w o ⟨[],none,.t [],[],fr++[(rr,some {k with cont:=TV .Yh k.cont ix e})],[],[]⟩:=by
 obtain⟨dI,jW⟩:=jp EJ
 have Z6:∀p k',(fun q=>if Nat.beq q rr then none else row q) p=some k'->σ.row p=some k'/\p≠rr:=fun p k' h=>by
  simp only at h
  split at h
  ·cases h
  ·rename_i hq;exact⟨pc _ _ h,fun e=>hq (by rw[e];exact beq_refl rr)⟩
 have hfo:=(OB he).1
 have af2:rr∉fr.map (·.1):=fun hm=>by
  obtain⟨z,hz,ez⟩:=mem_map.1 hm
  obtain⟨k',mi,_⟩:=hfo z.1 z.2 hz
  exact(Z6 _ _ mi).2 ez
 obtain⟨g1,hfz⟩:=AA g (fun p k' h=>(Z6 p k' h).1) hfo
 have hk1:St.row {σ with rows:=aH σ.rows fr} rr=some k:=by
  obtain⟨_,h2⟩:=aX.Yt g (fr:=fr) (fun q z hz=>by
   obtain⟨k',mi,LN,e'⟩:=hfo q z hz
   exact⟨k',(Z6 _ _ mi).1,LN,e'⟩)
  rw[h2 rr k hk,if_neg af2]
 obtain⟨p,q,m,cap,hR,h0,fU,TI⟩:=hx
 obtain⟨v,Pl,D,ad,n,uI,rfl,d0,h1,h2,h3,h4,_,h6⟩:=g1.rows rr k hk1
 rw[hR]at Pl;cases Pl
 have arA:cap≠0:=by omega
 rcases h4 cv with hz|⟨hw,hbp⟩
 ·exact absurd hz arA
 have hw:=hw.plain hho
 rcases hw.2 with⟨hv,_⟩|⟨p',eW,cur,hv,hb,ve,hnc,OG,MD,TG⟩
 ·cases hv
 cases hv
 have NK:(k.elem ix).ev c.ρ=(k.cont.ev c.ρ).list.getD (ix.ev c.ρ).int.toNat (.i 0):=by unfold Rw.elem;rw[bP];rfl
 have hd0:(D.getD (ix.ev c.ρ).int.toNat (.i 0)).er=((k.elem ix).ev c.ρ).er:=by rw[NK];exact Yp (iI d0) _
 have Pv:D.getD (ix.ev c.ρ).int.toNat (.i 0)∈D:=by
  rw[getD_eq_getElem?_getD,getElem?_eq_getElem (by omega)];exact getElem_mem _
 obtain⟨us,hus,hur⟩:=yP TH hkn hy
 obtain⟨d,hd,hdf,hdc,hdl⟩:=WX g1 he hfz hur hd0 (h6 _ Pv)
 have hul:=vo hur
 generalize hi:(ix.ev c.ρ).int.toNat=i at*
 have hil:i<D.length:=by omega
 have Mn:=eC dI (D.getD i (.i 0))
 have TF:=Nv dI D i (D.getD i (.i 0)) hil
 have aoe:D.set i (D.getD i (.i 0))=D:=by
  rw[getD_eq_getElem?_getD,getElem?_eq_getElem hil]
  simp
 rw[aoe]at TF
 have aia:=Nv dI D i d hil
 have EI:=bS dI D
 rw[h1]at EI
 have hi1:i*k.ks.length+k.ks.length<=m*k.ks.length:=by rw[<-succ_mul];exact mul_le_mul_right _ (by omega)
 have hAl:((aE k.agg k.ks D).take (i*k.ks.length)).length=i*k.ks.length:=by rw[length_take,EI];omega
 have aog:=ac3 ((aE k.agg k.ks D).take (i*k.ks.length)) (cY k.agg k.ks (D.getD i (.i 0))) ((aE k.agg k.ks D).drop (i*k.ks.length+k.ks.length)) us off hdl
 rw[<-TF,hAl,<-hdc,<-aia]at aog
 have W7:cur.toList.length=cap*k.ks.length:=by simpa using MD
 have hmul:m*k.ks.length<=cap*k.ks.length:=mul_le_mul_right _ h2
 have aii:=aew hkn hur
 have pW:=run_storeCells_at P p (i*k.ks.length+off) k.el us 0 cur w ve (by
  have:cur.size=cur.toList.length:=by simp
  rw[this,W7]
  rw[Mn]at hdl
  simp;omega) aii
 simp only[Nat.add_zero]at pW
 have aD8:((TV .Yh k.cont ix e).ev c.ρ).er= .l (mS (D.set i d)):=by
  rw[Hs]
  show(Sc.l ((k.cont.ev c.ρ).list.set (ix.ev c.ρ).int.toNat (e.ev c.ρ))).er=_
  rw[sk,Yq,hi,Yq,<-iI d0,hd]
 rw[Mn]at hdl
 have gg:=g1.K8 hk1 cv hR (w':=w.setRow p (cur.toList.take (i*k.ks.length+off)++us++cur.toList.drop (i*k.ks.length+off+us.length)).toArray)
  ⟨rfl,rfl,rfl,by simp[World.setRow],fun j _ hj=>setRow_other w p j _ (fun e'=>hj (by rw[sO (by omega),e']))⟩ (r':=rr) (k':={k with cont:=TV .Yh k.cont ix e}) cv hho (D:=D.set i d) (ad:=some ⟨p,0,none⟩) (n:=m) (cap:=cap) aD8 (by rw[length_set];exact h1) h2 h3
  (.inr ⟨by simp only;rw[bS dI,length_set,h1],.inr ⟨p,cap,_,rfl,zero_le _,setRow_heap w p cur _ k.el _ ve,hnc,OG,by
    simp only[size_toArray,length_append,length_take,length_drop,W7];omega,by
    simp only
    rw[<-aog,<-TG]
    have:=Oh cur.toList us (i*k.ks.length+off) us.length (M:=m*k.ks.length) rfl (by omega) (by omega)
    rw[Nat.add_assoc]at this⊢
    exact this⟩⟩) (.inl rfl) (.inr ⟨rfl,rfl⟩) (fun x hx=>by
     rcases mem_or_eq_of_mem_set hx with hx|rfl
     ·exact h6 x hx
     ·exact hdf)
 have hc:(fun i=>if i=rr then some (Value.slice (some ⟨p,0,none⟩) m cap)else c.R i)=c.R:=by
  funext i
  by_cases h:i=rr
  ·subst h;simp[hR]
  ·simp[h]
 rw[hc]at gg
 simp only[D8]at gg
 rw[<-KQ]at gg
 refine⟨.skip,_,undef,c,?_,.inr ⟨rfl,rfl⟩,.refl c,fun _ _=>rfl,fun _ _=>rfl,⟨[],rfl,trivial⟩,gg⟩
 simp[execOp,ho,Instr.storeAt,TI,Instr.sureAddr,storeVar,dQ kZ,hus,hul,pW]
theorem aeO:∀{l:List SV}{bs:jl}{vs:dm},l.mapM (fun| .c (.a (.ptr p 0))=>some p|_=>none)=some bs->l.length=vs.length->(∀i (h1:i<l.length) (h2:i<vs.length),(l[i]).rel c (vs[i]))->
 ∃ns:jl,bs.map c.β=ns.map some/\vs=ns.map fun n=>Value.pointer (some ⟨n,0,none⟩)
 |[],bs,[],h,_,_=>by simp at h;subst h;exact⟨[],rfl,rfl⟩
 |[],_,_::_,_,hl,_=>by simp at hl
 |_::_,_,[],_,hl,_=>by simp at hl
 |x::l,bs,v::vs,h,hl,hr=>by
  simp only[mapM_cons,Option.bind_eq_bind,Option.pure_def,Option.bind_eq_some_iff]at h
  obtain⟨p,h1,bs',h2,h3⟩:=h
  cases h3
  obtain⟨ns,e1,e2⟩:=aeO h2 (by simpa using hl) (fun i q1 q2=>by
   have:=hr (i+1) (by simp;omega) (by simp;omega)
   simpa using this)
  have h0:=hr 0 (by simp) (by simp)
  simp only[getElem_cons_zero]at h0
  split at h1
  ·cases h1
   obtain⟨n,hb,rfl⟩:=h0
   exact⟨n::ns,by simp[hb,e1],by simp[e2]⟩
  ·cases h1
theorem alq (g:aX P B w0 σ c a w){ty:TypeId}{x:Operand} (ho:o.op= .load ty x){rr:Nat}{ix:Ex}{off q:Nat}{k:Rw} (hx:(At.pel rr k.ks.length ix off).rel c (a.eval x)) (hk:σ.row rr=some k) (dI:dC k.agg k.ks=true) (cv:k.own=true)
 (hho:k.hole=some (ix,off,q)) (hag:EK P ty=some false):eQ P B w0 σ c a w o (il.pure (.at (.vec q))):=by
 obtain⟨n,o',len,cap,e,h0,fU,hx⟩:=hx
 obtain⟨v,Pl,D,ad,m,uI,rfl,d0,h1,h2,h3,h4,_,_⟩:=g.rows _ _ hk
 rw[e]at Pl;cases Pl
 rcases h4 cv with h|⟨⟨H,hw,hr⟩,_⟩
 ·omega
 unfold tG at hr
 rw[hho]at hr
 obtain⟨u,hu,hsl,_,_,ab2,hH⟩:=hr
 rcases hw.2 with⟨hv,_⟩|⟨p,eW,cur,hv,_⟩
 ·cases hv
 cases hv
 have EI:=bS (jp dI).1 D
 have avV:(ix.ev c.ρ).int.toNat*k.ks.length+off<(aE k.agg k.ks D).length:=by
  rw[EI,h1]
  have:(ix.ev c.ρ).int.toNat*k.ks.length+k.ks.length<=len*k.ks.length:=by rw[<-succ_mul];exact mul_le_mul_right _ (by omega)
  omega
 have hcell:=hw.cells (g:=n) rfl ((ix.ev c.ρ).int.toNat*k.ks.length+off) u (by rw[hH,getElem?_set_self avV])
 rw[add_lit,Nat.zero_add]at hcell
 rw[Nat.zero_add]at hx
 have jX:(loadVar ty ⟨n,(ix.ev c.ρ).int.toNat*k.ks.length+off,none⟩).run P w= .ok u w:=by simp[loadVar,sU hag,load,Sem.run,hcell]
 exact eQ.quiet g (v:=u) (by simp[execOp,ho,Instr.loadAt,hx,Instr.sureAddr,jX]) ⟨hu,hsl⟩
theorem aeo (g:aX P B w0 σ c a w){row:tB} (pc:∀p k,row p=some k->σ.row p=some k){ty:TypeId}{x y:Operand} (ho:o.op= .store ty x y){rr:Nat}{ix:Ex}{off:Nat}{k:Rw} (hx:(At.pel rr k.ks.length ix off).rel c (a.eval x))
 (hk:σ.row rr=some k) (cv:k.own=true) (hho:k.hole=none) (EJ:dC k.agg k.ks=true){sv:SV}{xs:qE} (kZ:ni P ty=some xs.length) (TH:sv.cells=some xs) (hkn:xs.all At.known=true) (hy:sv.rel c (a.eval y)){q:Nat}
 (hq:aih pl row rr k off xs=some q):eQ P B w0 σ c a w o ⟨[],none,.t [],[],[(rr,some {k with hole:=some (ix,off,q)})],[],[]⟩:=by
 unfold aih at hq
 split at hq
 rotate_left
 ·cases hq
 rename_i q'
 split at hq
 rotate_left
 ·cases hq
 split at hq
 rotate_left
 ·cases hq
 rename_i kq el hkq NK
 split at hq
 rotate_left
 ·cases hq
 rename_i hc
 cases hq
 simp only[Bool.and_eq_true,Bool.not_eq_true']at hc
 obtain⟨⟨⟨⟨_,_⟩,rP⟩,_⟩,ab2⟩:=hc
 have ab2:off<k.ks.length:=le_of_ble_eq_true (by simpa[blt]using ab2)
 obtain⟨dI,jW⟩:=jp EJ
 obtain⟨us,hus,hur⟩:=yP TH hkn hy
 obtain⟨u,rfl⟩:∃u,us=[u]:=by
  match us,hur with
  |[u],_=>exact⟨u,rfl⟩
  |[],h=>exact h.elim
  |_::_::_,h=>exact h.2.elim
 obtain⟨hRq,hsl⟩:=hur.1
 obtain⟨p,o',m,cap,hR,h0,fU,TI⟩:=hx
 obtain⟨v,Pl,D,ad,n,uI,rfl,d0,h1,h2,h3,h4,_,h6⟩:=g.rows rr k hk
 rw[hR]at Pl;cases Pl
 rcases h4 cv with h|⟨hw,hbp⟩
 ·omega
 have hw:=hw.plain hho
 rcases hw.2 with⟨hv,_⟩|⟨p',eW,cur,hv,hb,ve,hnc,OG,MD,TG⟩
 ·cases hv
 cases hv
 generalize hi:(ix.ev c.ρ).int.toNat=i at*
 have EI:=bS dI D
 rw[h1]at EI
 have hi1:i*k.ks.length+k.ks.length<=m*k.ks.length:=by rw[<-succ_mul];exact mul_le_mul_right _ (by omega)
 have W7:cur.toList.length=cap*k.ks.length:=by simpa using MD
 have hmul:m*k.ks.length<=cap*k.ks.length:=mul_le_mul_right _ h2
 have aii:=aew hkn hur
 have pW:=run_storeCells_at P p (i*k.ks.length+off) k.el [u] 0 cur w ve (by
  have:cur.size=cur.toList.length:=by simp
  rw[this,W7];simp;omega) aii
 simp only[Nat.add_zero]at pW
 have Pw:(aE k.agg k.ks D).set (i*k.ks.length+off) u=(aE k.agg k.ks D).take (i*k.ks.length+off)++[u]++(aE k.agg k.ks D).drop (i*k.ks.length+off+1):=by
  rw[set_eq_take_append_cons_drop,if_pos (by rw[EI];omega)];simp
 have hc:(fun i=>if i=rr then some (Value.slice (some ⟨p,0,none⟩) m cap)else c.R i)=c.R:=by
  funext i
  by_cases h:i=rr
  ·subst h;simp[hR]
  ·simp[h]
 have gg:=g.ahb hk cv hR (w':=w.setRow p (cur.toList.take (i*k.ks.length+off)++[u]++cur.toList.drop (i*k.ks.length+off+[u].length)).toArray)
  ⟨rfl,rfl,rfl,by simp[World.setRow],fun j _ hj=>setRow_other w p j _ (fun e'=>hj (by rw[sO (by omega),e']))⟩ (r':=rr) (k':={k with hole:=some (ix,off,q)}) cv (D:=D) (ad:=some ⟨p,0,none⟩) (n:=m) (cap:=cap) d0 h1 h2 h3
  (.inr ⟨(aE k.agg k.ks D).set (i*k.ks.length+off) u,⟨by rw[length_set];exact EI,.inr ⟨p,cap,_,rfl,zero_le _,setRow_heap w p cur _ k.el _ ve,hnc,OG,by
    simp only[size_toArray,length_append,length_take,length_drop,W7,length_cons,length_nil];omega,by
    simp only
    rw[Pw,<-TG]
    exact Oh cur.toList [u] (i*k.ks.length+off) 1 (M:=m*k.ks.length) rfl (by omega) (by omega)⟩⟩,by
    rw[hc]
    exact⟨u,hRq,hsl,h0,fU,ab2,by rw[hi]⟩⟩) (.inl rfl) (.inr ⟨rfl,rfl⟩) h6
 rw[hc]at gg
 simp only[D8]at gg
 refine⟨.skip,_,undef,c,?_,.inr ⟨rfl,rfl⟩,.refl c,fun _ _=>rfl,fun _ _=>rfl,⟨[],rfl,trivial⟩,gg⟩
 simp[execOp,ho,Instr.storeAt,TI,Instr.sureAddr,storeVar,dQ kZ,hus,pW]
theorem ar8 (g:aX P B w0 σ c a w) (gY:MV σ c a rd){x:Operand} (ho:o.op= .next x true){r:il} (h:po P pl o rd=some r) (hn:∀e∈r.lN,(e.ev c.ρ).bool=true):eQ P B w0 σ c a w o r:=by
 unfold po at h
 simp only[ho]at h
 have hx:=gY.ev x
 split at h
 rotate_left
 ·cases h
 rename_i b h1
 rw[h1]at hx
 obtain⟨n,hβ,hv⟩:=hx
 split at h
 rotate_left
 ·cases h
 rename_i s p ty hb
 cases h
 have qM:=gY.blk _ _ hb
 obtain⟨n',cs,e1,hB,ve,hrl⟩:=g.aO _ _ qM
 rw[hβ]at e1;cases e1
 obtain⟨v0,v1,rfl⟩:∃v0 v1,cs=[v0,v1]:=by
  match cs,hrl with
  |[v0,v1],_=>exact⟨v0,v1,rfl⟩
  |[],h=>exact h.elim
  |[_],h=>exact h.2.elim
  |_::_::_::_,h=>exact h.2.2.elim
 obtain⟨Af,hr1,_⟩:=hrl
 have Af:v0= .string (s.ev c.ρ).str:=Af
 have hr1:v1= .int .i64 (p.ev c.ρ).int:=hr1
 subst Af hr1
 have anQ:w.heap[n]? =some (.stringIter (s.ev c.ρ).str (p.ev c.ρ).int.toNat):=by rw[ve];rfl
 have n1:=hn (iV .le (.i 0) p) (.head _)
 have n2:=hn (iV .le (CB .fD s) (.i 9223372036854775806)) (.tail _ (.head _))
 have n3:=hn (iV .or (CB .not (iV .lt p (CB .fD s))) (iV .lt (iV .Mt s p) (.i 128))) (.tail _ (.tail _ (.head _)))
 rw[bP]at n1 n2 n3
 rw[kR]at n2 n3
 rw[bP,bP,kR]at n3
 have n1:(0:Int)<=(p.ev c.ρ).int:=of_decide_eq_true n1
 have n2:((s.ev c.ρ).str.size:Int)<=9223372036854775806:=of_decide_eq_true n2
 have fU:((iV .lt p (CB .fD s)).ev c.ρ).bool=decide ((p.ev c.ρ).int<((s.ev c.ρ).str.size:Int)):=by rw[bP,kR];rfl
 have arG:(execOp a.eval o).run P w=((Instr.next (.pointer (some ⟨n,0,none⟩)) true o.type).run P w).andThen fun u w'=> .ok (.value u) w':=by
  simp only[execOp,ho,hv,Sem.run_bind]
  cases Sem.run P (Instr.next (.pointer (some ⟨n,0,none⟩)) true o.type) w<;>simp[Result.andThen]
 have hgo:(getObj n).run P w= .ok (.stringIter (s.ev c.ρ).str (p.ev c.ρ).int.toNat) w:=by simp[getObj,Sem.run,anQ]
 by_cases hc:(p.ev c.ρ).int<((s.ev c.ρ).str.size:Int)
 ·have aza:((s.ev c.ρ).str.get! (p.ev c.ρ).int.toNat).toNat<128:=by
   have hb:∀x y:Sc,(U2.or.ev x y).bool=(x.bool||y.bool):=fun _ _=>rfl
   have hl:∀x y:Sc,(U2.lt.ev x y).bool=decide (x.int<y.int):=fun _ _=>rfl
   have hnn:∀x:Sc,(U1.not.ev x).bool= !x.bool:=fun _=>rfl
   have hsl:∀x:Sc,(U1.fD.ev x).int=(x.str.size:Int):=fun _=>rfl
   have hsi:∀x y:Sc,(U2.Mt.ev x y).int=((x.str.data.toList.getD y.int.toNat 0).toNat:Int):=fun _ _=>rfl
   have aCD:((Ex.i 128).ev c.ρ).int=128:=rfl
   rw[hb,hnn,hl,hl,hsl,bP,hsi,aCD,decide_eq_true hc]at n3
   simp only[Bool.not_true,Bool.false_or,decide_eq_true_eq]at n3
   rw[<-Lib.getD_get!']
   omega
  have aDg:Utf8.decode (s.ev c.ρ).str (p.ev c.ρ).int.toNat=(((s.ev c.ρ).str.get! (p.ev c.ρ).int.toNat).toNat,1):=by
   unfold Utf8.decode
   simp only[Nat.add_zero]
   rw[if_pos aza]
  have pK:(p.ev c.ρ).int.toNat<(s.ev c.ρ).str.size:=by omega
  have Pw:(setObj n (.stringIter (s.ev c.ρ).str ((p.ev c.ρ).int.toNat+1))).run P w= .ok () {w with heap:=w.heap.setIfInBounds n (.stringIter (s.ev c.ρ).str ((p.ev c.ρ).int.toNat+1))}:=by simp[setObj,Sem.run,anQ]
  have jX:(execOp a.eval o).run P w= .ok (.value (.tuple #[.bool true,.int .i64 (p.ev c.ρ).int,.int .i32 (((s.ev c.ρ).str.get! (p.ev c.ρ).int.toNat).toNat:Int)])) {w with heap:=w.heap.setIfInBounds n (.stringIter (s.ev c.ρ).str ((p.ev c.ρ).int.toNat+1))}:=by
   rw[arG]
   have at2:(((p.ev c.ρ).int.toNat:Nat):Int)=(p.ev c.ρ).int:=toNat_of_nonneg n1
   simp only[Instr.next,Sem.run_bind,hgo,Result.andThen_ok,pK,if_true,aDg,Pw,goInt,at2,Sem.run_pure]
  have hp1:((TV .ite (iV .lt p (CB .fD s)) (iV (.add .i64) p (.i 1)) p).ev c.ρ).int=(p.ev c.ρ).int+1:=by
   rw[Hs]
   show(if _ then _ else _:Sc).int=_
   rw[if_pos (by rw[fU];simpa using hc),bP]
   exact Ux (by simp[Ex.ev];omega) (by simp[Ex.ev];omega)
  have avV:=(Array.getElem?_eq_some_iff.1 ve).1
  have gg:=g.store qM hβ (cells:=[.str s,.int .i64 (TV .ite (iV .lt p (CB .fD s)) (iV (.add .i64) p (.i 1)) p)]) (cs:=[.string (s.ev c.ρ).str,.int .i64 ((p.ev c.ρ).int+1)]) ⟨rfl,by show _=_;rw[hp1],trivial⟩ (ty:=ty) (kd:=2)
   (w':={w with heap:=w.heap.setIfInBounds n (.stringIter (s.ev c.ρ).str ((p.ev c.ρ).int.toNat+1))})
   ⟨g.below.os,g.below.tape,g.below.output,by simpa using g.below.size,fun j hj hx=>by
     show(w.heap.setIfInBounds n _)[j]? =_
     rw[Array.getElem?_setIfInBounds_ne (fun e'=>by
      subst e'
      rcases hB with h|h
      ·omega
      ·exact hx h)]
     exact g.below.block j hj hx⟩ (by simp) (by
      show(w.heap.setIfInBounds n _)[n]? =_
      rw[Array.getElem?_setIfInBounds_self_of_lt avV]
      show some (Obj.stringIter _ _)=some (Obj.stringIter _ ((p.ev c.ρ).int+1).toNat)
      rw[toNat_add n1 (by omega)];rfl) (fun m hm=>Array.getElem?_setIfInBounds_ne (Ne.symm hm))
  refine⟨_,_,_,c,jX,.inl rfl,.refl c,fun _ _=>rfl,fun _ _=>rfl,?_,gg⟩
  show _=_
  rw[if_pos (by rw[fU];simpa using hc),bP]
  simp only[U2.ev,Sc.acL,<-Lib.getD_get!']
 ·have pK:¬(p.ev c.ρ).int.toNat<(s.ev c.ρ).str.size:=by omega
  have jX:(execOp a.eval o).run P w= .ok (.value (.tuple #[.bool false])) w:=by
   rw[arG]
   simp[Instr.next,hgo,pK]
  have hp1:((TV .ite (iV .lt p (CB .fD s)) (iV (.add .i64) p (.i 1)) p).ev c.ρ).int=(p.ev c.ρ).int:=by
   rw[Hs]
   show(if _ then _ else _:Sc).int=_
   rw[if_neg (by rw[fU];simpa using hc)]
  have gg:=g.store qM hβ (cells:=[.str s,.int .i64 (TV .ite (iV .lt p (CB .fD s)) (iV (.add .i64) p (.i 1)) p)]) (cs:=[.string (s.ev c.ρ).str,.int .i64 (p.ev c.ρ).int]) ⟨rfl,by show _=_;rw[hp1],trivial⟩ (ty:=ty) (kd:=2)
   (w':=w) g.below rfl ve (fun _ _=>rfl)
  refine⟨_,_,_,c,jX,.inl rfl,.refl c,fun _ _=>rfl,fun _ _=>rfl,?_,gg⟩
  show _=_
  rw[if_neg (by rw[fU];simpa using hc)]
theorem aq2 (pK:DC P pl) (g:aX P B w0 σ c a w) (gY:MV σ c a rd){r:il} (hfb:∀i∈r.nb,c.β i=none) (ur:∀i∈r.nr,c.R i=none) (h:po P pl o rd=some r)
 (hn:∀e∈r.lN,(e.ev c.ρ).bool=true):eQ P B w0 σ c a w o r:=by
 have h':=h
 unfold po at h
 split at h
 case h_1 x ho=>cases h;exact eQ.quiet g (by simp[execOp,ho]) (gY.ev x)
 case h_2 x ho=>cases h;exact eQ.quiet g (by simp[execOp,ho]) (gY.ev x)
 case h_3 cx x y ho=>
  have hc:=gY.ev cx
  split at h
  ·rename_i h1;rw[h1]at hc;cases h
   have hc:a.eval cx= .bool true:=hc
   exact eQ.quiet g (by simp[execOp,ho,hc,asBool]) (gY.ev x)
  ·rename_i h1;rw[h1]at hc;cases h
   have hc:a.eval cx= .bool false:=hc
   exact eQ.quiet g (by simp[execOp,ho,hc,asBool]) (gY.ev y)
  ·rename_i e _ _ h1
   rw[h1]at hc
   have hc:a.eval cx= .bool (e.ev c.ρ).bool:=hc
   have hx:=gY.ev x
   have hy:=gY.ev y
   split at h
   ·rename_i p q h2 h3
    cases h
    rw[h2]at hx;rw[h3]at hy
    have hx:a.eval x= .bool (p.ev c.ρ).bool:=hx
    have hy:a.eval y= .bool (q.ev c.ρ).bool:=hy
    exact eQ.quiet g (v:=if(e.ev c.ρ).bool=true then .bool (p.ev c.ρ).bool else .bool (q.ev c.ρ).bool) (by cases hb:(e.ev c.ρ).bool<;>simp[execOp,ho,hc,hb,asBool,hx,hy]) (by
     show _=_
     rw[Hs];cases hb:(e.ev c.ρ).bool<;>simp[U3.ev,hb])
   ·rename_i k p k' q h2 h3
    split at h
    ·rename_i hk
     cases h;subst hk
     rw[h2]at hx;rw[h3]at hy
     have hx:a.eval x= .int k (p.ev c.ρ).int:=hx
     have hy:a.eval y= .int k (q.ev c.ρ).int:=hy
     exact eQ.quiet g (v:=if(e.ev c.ρ).bool=true then .int k (p.ev c.ρ).int else .int k (q.ev c.ρ).int) (by cases hb:(e.ev c.ρ).bool<;>simp[execOp,ho,hc,hb,asBool,hx,hy]) (by
      show _=_
      rw[Hs];cases hb:(e.ev c.ρ).bool<;>simp[U3.ev,hb])
    ·cases h
   ·cases h
  ·cases h
 case h_4 ty ho=>
  split at h
  ·rename_i v hz
   split at h
   ·rename_i cs MD
    split at h
    ·rename_i hk
     cases h
     obtain⟨z,hz1,hz2⟩:=Option.bind_eq_some_iff.1 hz
     obtain⟨vs,hv,hr⟩:=yP MD hk (Up (c:=c) hz2)
     exact amP g (hfb _ (by simp)) hr (by simp[execOp,ho,Instr.alloc,ahj hz1,newVar,newRow,hv])
    ·cases h
   ·cases h
  ·cases h
 case h_5 ty x ho=>
  split at h
  ·rename_i cs MD
   split at h
   ·rename_i hk
    cases h
    obtain⟨vs,hv,hr⟩:=yP MD hk (gY.ev x)
    exact amP g (hfb _ (by simp)) hr (by simp[execOp,ho,Instr.box,newVar,newRow,hv])
   ·cases h
  ·cases h
 case h_6 ty x ho=>
  have hx:=gY.ev x
  split at h
  ·rename_i p off h1
   rw[h1]at hx
   split at h
   ·rename_i k hk
    split at h
    ·rename_i UE
     simp only[Option.map_eq_some_iff]at h
     obtain⟨sv,hs,rfl⟩:=h
     exact aoM g ho hx (gY.blk _ _ hk) UE hs
    ·cases h
   ·cases h
  ·rename_i rr es ix off h1
   rw[h1]at hx
   split at h
   ·rename_i k hk
    split at h
    ·rename_i hc
     obtain⟨rfl,dI⟩:=hc
     split at h
     ·rename_i hho
      split at h
      ·rename_i hs
       cases h
       exact aoN g ho hx (gY.row _ _ hk) hho dI hs ur
      ·cases h
     ·rename_i jx o' q hho
      split at h
      ·rename_i hcc
       cases h
       simp only[Bool.and_eq_true]at hcc
       obtain⟨⟨⟨cv,hjx⟩,ab2⟩,hag⟩:=hcc
       exact alq g ho hx (gY.row _ _ hk) dI cv (by rw[hho,Ex.fX hjx,eq_of_beq_eq_true ab2]) (ah0 hag)
      ·cases h
    ·cases h
   ·cases h
  ·cases h
 case h_7 ty x y ho=>
  have hx:=gY.ev x
  have hy:=gY.ev y
  split at h
  ·rename_i p off xs hd h1 h2
   rw[h1]at hx
   split at h
   ·rename_i k n hk kZ
    split at h
    ·rename_i hc
     obtain⟨UE,rfl,hkn⟩:=hc
     simp only[Option.map_eq_some_iff]at h
     obtain⟨cs,MD,rfl⟩:=h
     exact apZ g ho hx (gY.blk _ _ hk) UE h2 hkn hy kZ MD
    ·cases h
   ·cases h
  ·rename_i rr es ix off xs hd h1 h2
   rw[h1]at hx
   split at h
   ·rename_i k n hk kZ
    split at h
    ·rename_i hc
     simp only[Bool.and_eq_true]at hc
     obtain⟨⟨⟨⟨⟨cv,hho⟩,hnk⟩,hes⟩,dI⟩,hkn⟩:=hc
     have hho:=gr hho
     have hnk:=eq_of_beq_eq_true hnk
     have hes:=eq_of_beq_eq_true hes
     subst hnk
     subst hes
     split at h
     ·rename_i q hq
      cases h
      exact aeo g gY.row ho hx (gY.row _ _ hk) cv hho dI kZ h2 hkn hy hq
     split at h
     ·rename_i e fr he
      cases h
      exact agN g gY.row ho hx (gY.row _ _ hk) cv hho dI kZ h2 hkn hy he
     ·cases h
    ·cases h
   ·cases h
  ·cases h
 case h_8 x ho=>
  have hx:=gY.ev x
  split at h
  ·rename_i p off h1
   cases h
   rw[h1]at hx
   have hx':=hx
   obtain⟨n,_,hv⟩:=hx'
   exact eQ.quiet g (by simp[execOp,ho,hv]) (hv▸hx)
  ·rename_i f cs h1
   cases h
   rw[h1]at hx
   have hx':=hx
   obtain⟨n,_,hv⟩:=hx'
   exact eQ.quiet g (by simp[execOp,ho,hv]) (hv▸hx)
  ·rename_i f m b h1
   cases h
   rw[h1]at hx
   have hx':=hx
   obtain⟨n,_,hv⟩:=hx'
   exact eQ.quiet g (by simp[execOp,ho,hv]) (hv▸hx)
  ·cases h
 case h_9 op ty x y yt ho=>
  obtain⟨hr,v,hv,i8⟩:=ai6 (w:=w) pK h (gY.ev x) (gY.ev y) hn x y
  rw[hr]
  exact eQ.quiet g (v:=v) (by
   have:(execOp a.eval o).run P w=((do eqGuard op ty x y (a.eval x) (a.eval y);binOp op ty (a.eval x) (a.eval y):Sem Value).run P w).andThen fun u w'=> .ok (.value u) w':=by
    simp only[execOp,ho,Sem.run_bind]
    cases Sem.run P (eqGuard op ty x y (a.eval x) (a.eval y)) w<;>simp[Result.andThen]
   rw[this,hv];rfl) i8
 case h_10 op ty x ho=>
  have hx:=gY.ev x
  split at h
  ·rename_i k e h1
   cases h;rw[h1]at hx
   have hx:a.eval x= .int k (e.ev c.ρ).int:=hx
   exact eQ.quiet g (by simp[execOp,ho,hx,Op.unary,Op.intArith];rfl) (by show _=_;rw[bP];simp[U2.ev,Ex.ev])
  ·rename_i k e h1
   cases h;rw[h1]at hx
   have hx:a.eval x= .int k (e.ev c.ρ).int:=hx
   exact eQ.quiet g (by simp only[execOp,ho,hx,Op.unary,Op.intBits];rfl) (by show _=_;rw[bP];rfl)
  ·rename_i e h1
   cases h;rw[h1]at hx
   have hx:a.eval x= .bool (e.ev c.ρ).bool:=hx
   exact eQ.quiet g (by simp[execOp,ho,hx,Op.unary];rfl) (by show _=_;rw[kR];rfl)
  ·cases h
 case h_11 src dst x ho=>
  have hx:=gY.ev x
  split at h
  ·rename_i d k k' e h1 h2 h3
   cases h;rw[h3]at hx
   have hx:a.eval x= .int k' (e.ev c.ρ).int:=hx
   exact eQ.quiet g (by simp[execOp,ho,hx,convert,run_underlying h1,run_underlying h2,Conv.intToInt];rfl) (by show _=_;rw[kR];rfl)
  ·rename_i d e h1 h2 h3
   cases h;rw[h3]at hx
   have hx:a.eval x= .string (e.ev c.ρ).str:=hx
   exact eQ.quiet g (by simp[execOp,ho,hx,convert,run_underlying h1,run_underlying h2]) rfl
  ·cases h
 case h_12 ty x f ho=>
  have hx:=gY.ev x
  split at h
  ·rename_i fd p off h1 h2
   split at h
   ·rename_i m kZ
    cases h;rw[h2]at hx
    obtain⟨fs,hu,hf⟩:=Nt h1
    obtain⟨n,hb,hv⟩:=hx
    exact eQ.quiet g (v:= .pointer (some ((⟨n,off,none⟩:Addr).add fd.offset))) (by simp[execOp,ho,Instr.fieldAt,run_underlying hu,hf,hv,Instr.sureAddr,fieldPlace,dQ kZ]) ⟨n,hb,by rw[add_lit]⟩
   ·cases h
  ·rename_i fd rr es ix off h1 h2
   split at h
   ·rename_i m kZ
    cases h;rw[h2]at hx
    obtain⟨fs,hu,hf⟩:=Nt h1
    obtain⟨n,q,len,cap,e1,e2,e3,hv⟩:=hx
    exact eQ.quiet g (v:= .pointer (some ((⟨n,q+(ix.ev c.ρ).int.toNat*es+off,none⟩:Addr).add fd.offset))) (by simp[execOp,ho,Instr.fieldAt,run_underlying hu,hf,hv,Instr.sureAddr,fieldPlace,dQ kZ]) ⟨n,q,len,cap,e1,e2,e3,by rw[add_lit,Nat.add_assoc]⟩
   ·cases h
  ·cases h
 case h_13 ty x f ho=>
  have hx:=gY.ev x
  split at h
  ·rename_i fd cs h1 h2
   simp only[Option.map_eq_some_iff]at h
   obtain⟨sv,hs,rfl⟩:=h
   rw[h2]at hx
   obtain⟨vs,hv,hr⟩:=hx
   obtain⟨fs,hu,hf⟩:=Nt h1
   obtain⟨v,jX,i8⟩:=Ua hs hr w
   exact eQ.quiet g (v:=v) (by simp[execOp,ho,Instr.field,run_underlying hu,hf,hv,asAgg,jX]) i8
  ·cases h
 case h_14 ty x i ho=>exact aou g gY ho h' hn
 case h_15 ty x i ho=>
  have hx:=gY.ev x
  have hi:=gY.ev i
  split at h
  ·rename_i len el k z cs h1 h2 h3
   rw[h2]at hi;rw[h3]at hx
   have hi:a.eval i= .int k z:=hi
   obtain⟨vs,hv,hr⟩:=hx
   split at h
   ·rename_i n kZ
    split at h
    ·rename_i hz
     simp only[Option.map_eq_some_iff]at h
     obtain⟨sv,hs,rfl⟩:=h
     obtain⟨v,jX,i8⟩:=Ua hs hr w
     exact eQ.quiet g (v:=v) (by simp[execOp,ho,Instr.index,asIntOf,hi,run_underlying h1,hv,hz,dQ kZ,jX]) i8
    ·cases h
   ·cases h
  ·rename_i k e s h1 h2 h3
   cases h
   rw[h2]at hi;rw[h3]at hx
   have hi:a.eval i= .int k (e.ev c.ρ).int:=hi
   have hx:a.eval x= .string (s.ev c.ρ).str:=hx
   have n1:=hn (iV .le (.i 0) e) (by simp)
   have n2:=hn (iV .lt e (CB .fD s)) (by simp)
   rw[bP]at n1 n2
   rw[kR]at n2
   have n1:(0:Int)<=(e.ev c.ρ).int:=of_decide_eq_true n1
   have n2:(e.ev c.ρ).int<((s.ev c.ρ).str.size:Int):=of_decide_eq_true n2
   have fU:(e.ev c.ρ).int.toNat<(s.ev c.ρ).str.size:=by omega
   have arG:(s.ev c.ρ).str[(e.ev c.ρ).int.toNat]? =some ((s.ev c.ρ).str[(e.ev c.ρ).int.toNat]' fU):=by simp[fU]
   exact eQ.quiet g (v:= .int .u8 ((s.ev c.ρ).str[(e.ev c.ρ).int.toNat]' fU).toNat) (by simp[execOp,ho,Instr.index,asIntOf,hi,run_underlying h1,hx,n1,arG]) (by
    show _=_
    rw[bP]
    simp only[U2.ev,Sc.acL]
    congr 2
    have:(s.ev c.ρ).str.data.toList.length=(s.ev c.ρ).str.size:=by simp
    rw[getD_eq_getElem?_getD,getElem?_eq_getElem (by omega)]
    simp
    rfl)
  ·cases h
 case h_16 x i ho=>
  have hx:=gY.ev x
  split at h
  ·rename_i xs h1
   simp only[Option.map_eq_some_iff]at h
   obtain⟨s,hs,rfl⟩:=h
   rw[h1]at hx
   obtain⟨vs,hv,hr⟩:=hx
   obtain⟨v,hg,i8⟩:=Uk hr hs
   exact eQ.quiet g (v:=v) (by simp[execOp,ho,Instr.extract,hv,hg]) i8
  ·rename_i e p ch h1
   rw[h1]at hx
   have hx:a.eval x=if(e.ev c.ρ).bool=true then .tuple #[.bool true,.int .i64 (p.ev c.ρ).int,.int .i32 (ch.ev c.ρ).int]else .tuple #[.bool false]:=hx
   split at h
   ·cases h
    refine eQ.quiet g (v:= .bool (e.ev c.ρ).bool) ?_ rfl
    cases hb:(e.ev c.ρ).bool<;>rw[hb]at hx<;>simp[execOp,ho,Instr.extract,hx]
   ·cases h
    have he:=hn e (by simp)
    rw[if_pos he]at hx
    exact eQ.quiet g (v:= .int .i64 (p.ev c.ρ).int) (by simp[execOp,ho,Instr.extract,hx]) rfl
   ·cases h
    have he:=hn e (by simp)
    rw[if_pos he]at hx
    exact eQ.quiet g (v:= .int .i32 (ch.ev c.ρ).int) (by simp[execOp,ho,Instr.extract,hx]) rfl
   ·cases h
  ·cases h
 case h_17 ty ho=>
  split at h
  ·rename_i n key hm
   cases h
   have hfb:=hfb rd.nb (by simp)
   have hle:c.le {c with β:=fun i=>if i=rd.nb then some w.heap.size else c.β i}:=⟨rfl,rfl,fun i n e=>by
    by_cases h:i=rd.nb
    ·subst h;rw[hfb]at e;cases e
    ·simp[h,e],fun _ _ e=>e⟩
   have gg:=g.alloc hfb (k:=⟨[.keys n .nil],ty,1⟩) (cs:=[.tuple #[]]) ⟨rfl,trivial⟩
   exact⟨_,_,.map (some w.heap.size),_,by simp[execOp,ho,Instr.makeMap,wX,kE,oi],.inl rfl,hle,fun i hi=>by simp at hi;simp[hi],fun _ _=>rfl,⟨_,by simp,rfl⟩,gg⟩
  ·cases h
 case h_18 ty x k ok ho=>
  split at h
  ·rename_i n key hm
   split at h
   ·rename_i b e q h1 h2
    cases h
    obtain⟨elem,hu,hk,hz⟩:=agp hm
    obtain⟨_,r,hv,_,_,hb⟩:=aal g gY h1 (gY.ev x)
    have hq:=acM hk.hn h2 (gY.ev k)
    have jX:=aiQ hu hk hz hb (q.ev c.ρ) ok
    have Ae:((iV (.mem n) e q).ev c.ρ)= .b ((e.ev c.ρ).list.any fun k=>iG n k (q.ev c.ρ)):=by rw[bP];rfl
    cases ok
    ·exact eQ.quiet g (v:= .bool ((e.ev c.ρ).list.any fun k=>iG n k (q.ev c.ρ))) (by simp[execOp,ho,hv,hq,jX]) (by show _=_;rw[Ae];rfl)
    ·exact eQ.quiet g (v:= .tuple #[.bool ((e.ev c.ρ).list.any fun k=>iG n k (q.ev c.ρ)),.bool ((e.ev c.ρ).list.any fun k=>iG n k (q.ev c.ρ))]) (by simp[execOp,ho,hv,hq,jX]) (by
      refine⟨_,rfl,?_,?_,trivial⟩
      ·show _=_;rw[Ae];rfl
      ·show _=_;rw[Ae];rfl)
   ·cases h
  ·cases h
 case h_19 ty x k v ho=>
  split at h
  ·rename_i n key hd hm hvv
   split at h
   ·rename_i b e q h1 h2
    cases h
    obtain⟨elem,hu,hk,hz⟩:=agp hm
    obtain⟨qM,r,hv,hβ,hBr,hb⟩:=aal g gY h1 (gY.ev x)
    have hq:=acM hk.hn h2 (gY.ev k)
    have hval:=gY.ev v
    rw[hvv]at hval
    have hval:a.eval v= .bool true:=hval
    have jX:=aiR hu hk hb (q.ev c.ρ)
    have Ae:((iV (.Fh n) e q).ev c.ρ)= .l (if((e.ev c.ρ).list.any fun k=>iG n k (q.ev c.ρ))=true then(e.ev c.ρ).list else(e.ev c.ρ).list++[q.ev c.ρ]):=by rw[bP];rfl
    have fU:=(Array.getElem?_eq_some_iff.1 hb).1
    have gg:=g.store (k:=⟨[.keys n e],ty,1⟩) qM hβ (cells:=[.keys n (iV (.Fh n) e q)]) (cs:=[.tuple ((if((e.ev c.ρ).list.any fun k=>iG n k (q.ev c.ρ))=true then(e.ev c.ρ).list else(e.ev c.ρ).list++[q.ev c.ρ]).map (jH n)).toArray]) (by
     refine⟨?_,trivial⟩
     show _=_
     rw[Ae];rfl) (ty:=ty) (kd:=1)
     (w':={w with heap:=w.heap.setIfInBounds r (.map (kE ((if((e.ev c.ρ).list.any fun k=>iG n k (q.ev c.ρ))=true then(e.ev c.ρ).list else(e.ev c.ρ).list++[q.ev c.ρ]).map (jH n))) (if((e.ev c.ρ).list.any fun k=>iG n k (q.ev c.ρ))=true then(e.ev c.ρ).list else(e.ev c.ρ).list++[q.ev c.ρ]).length)})
     ⟨g.below.os,g.below.tape,g.below.output,by simpa using g.below.size,fun j hj hx=>by
       show(w.heap.setIfInBounds r _)[j]? =_
       rw[Array.getElem?_setIfInBounds_ne (fun e'=>by
        subst e'
        rcases hBr with h|h
        ·omega
        ·exact hx h)]
       exact g.below.block j hj hx⟩ (by simp) (by
        show(w.heap.setIfInBounds r _)[r]? =_
        rw[Array.getElem?_setIfInBounds_self_of_lt fU]
        simp[wX]) (fun m hm=>Array.getElem?_setIfInBounds_ne (Ne.symm hm))
    exact⟨.skip,_,undef,c,by simp[execOp,ho,hv,hq,hval,jX],.inr ⟨rfl,rfl⟩,.refl c,fun _ _=>rfl,fun _ _=>rfl,⟨[],rfl,trivial⟩,gg⟩
   ·cases h
  ·cases h
 case h_20 ty x ho=>
  split at h
  ·rename_i e hu hx
   cases h
   have TI:=gY.ev x
   rw[hx]at TI
   have TI:a.eval x= .string (e.ev c.ρ).str:=TI
   have hfb:=hfb rd.nb (by simp)
   have hle:c.le {c with β:=fun i=>if i=rd.nb then some w.heap.size else c.β i}:=⟨rfl,rfl,fun i n e=>by
    by_cases h:i=rd.nb
    ·subst h;rw[hfb]at e;cases e
    ·simp[h,e],fun _ _ e=>e⟩
   have gg:=g.alloc hfb (k:=⟨[.str e,.int .i64 (.i 0)],ty,2⟩) (cs:=[.string (e.ev c.ρ).str,.int .i64 0]) ⟨rfl,rfl,trivial⟩
   exact⟨_,_,.pointer (some ⟨w.heap.size,0,none⟩),_,by simp[execOp,ho,Instr.range,run_underlying hu,TI,wX],.inl rfl,hle,fun i hi=>by simp at hi;simp[hi],fun _ _=>rfl,⟨_,by simp,rfl⟩,gg⟩
  ·cases h
 case h_21 x ho=>exact ar8 g gY ho h' hn
 case h_22 ty parts ho=>exact amQ g gY ho h'
 case h_23 ty len parts ho=>exact abo g gY ho hfb ur h'
 case h_24 ty x lo hi mx ho=>exact apS g gY ho ur h' hn
 case h_25 f first mR ho=>
  split at h
  ·rename_i bs hf hb
   cases h
   obtain⟨ns,e1,e2⟩:=aeO (c:=c) (vs:=mR.toList.map a.eval) hb (by simp) (fun i q1 q2=>by simpa using gY.ev _)
   have Rt:first= #[]:=by rw[<-Array.toArray_toList (xs:=first),hf]
   have ajN:mR.map a.eval=(ns.map fun n=>Value.pointer (some ⟨n,0,none⟩)).toArray:=by
    rw[<-e2]
    apply Array.ext'
    simp
   exact eQ.quiet g (v:= .func (.func f) #[] (ns.map fun n=>Value.pointer (some ⟨n,0,none⟩)).toArray) (by simp[execOp,ho,Instr.makeFunc,Rt,ajN]) ⟨ns,e1,rfl⟩
  ·rename_i x hf hb
   obtain⟨ns,e1,e2⟩:=aeO (c:=c) (vs:=mR.toList.map a.eval) hb (by simp) (fun i q1 q2=>by simpa using gY.ev _)
   have Rt:first= #[x]:=by rw[<-Array.toArray_toList (xs:=first),hf]
   have hns:ns=[]:=by cases ns with|nil=>rfl|cons=>simp at e1
   subst hns
   have ajN:mR.map a.eval= #[]:=by
    have:(mR.map a.eval).toList=[]:=by rw[Array.toList_map,e2];rfl
    rw[<-Array.toArray_toList (xs:=mR.map a.eval),this]
   have hx:=gY.ev x
   split at h
   ·rename_i b h1
    cases h
    rw[h1]at hx
    obtain⟨n,hn1,hv⟩:=hx
    exact eQ.quiet g (v:= .func (.func f) #[.pointer (some ⟨n,0,none⟩)] #[]) (by simp[execOp,ho,Instr.makeFunc,Rt,ajN,hv]) ⟨n,hn1,rfl⟩
   ·rename_i b h1
    cases h
    rw[h1]at hx
    obtain⟨n,hn1,hv⟩:=hx
    exact eQ.quiet g (v:= .func (.func f) #[.map (some n)] #[]) (by simp[execOp,ho,Instr.makeFunc,Rt,ajN,hv]) ⟨n,hn1,rfl⟩
   ·cases h
  ·cases h
 case h_26 ty x y ho=>exact aeC g gY ho ur h' hn
 case h_27=>cases h
theorem auz (pK:DC P pl){cons:nw} (g:aX P B w0 σ c a w) (gY:MV σ c a rd){r:il} (hfb:∀i∈r.nb,c.β i=none) (ur:∀i∈r.nr,c.R i=none) (h:ag5 P pl cons o rd=some r) (dU:r.call=none)
 (hn:∀e∈r.lN,(e.ev c.ρ).bool=true):eQ P B w0 σ c a w o r:=by
 unfold ag5 at h
 split at h
 ·rename_i cl ho
  exact ahG g gY ho ur h dU hn
 ·split at h
  ·rename_i r' hr
   split at h
   ·cases h;exact aq2 pK g gY hfb ur hr hn
   ·cases h
  ·cases h
end
end
section
open Go.RowKit
def mD (P:Program) (w:World) (ok:lU):LAs->dm->aP->Prop
 |[],[],[]=>True
 |s::ss,v::vs,x::xs=>rv P w ok s v x/\mD P w ok ss vs xs
 |_,_,_=>False
def SY (P:Program) (w:World) (ok:lU):CS->Value->aP->Prop
 | .a s,v,l=>∃x,l=[x]/\rv P w ok s v x
 | .g ss,v,l=>∃vs,v= .agg vs.toArray/\mD P w ok ss vs l
 | .p _ _,_,_=>False
 | .f _ _,_,_=>False
def J1 (P:Program) (w:World) (ok:lU):LCs->dm->aP->Prop
 |[],[],l=>l=[]
 |s::ss,v::vs,l=>∃l1 l2,l=l1++l2/\SY P w ok s v l1/\J1 P w ok ss vs l2
 |_,_,_=>False
def EV (P:Program) (w:World) (ok:lU) (el:TypeId) (v:Value) (x:Sc):Prop:=
 ∃agg ks D ad n cap,qg P el=some (agg,ks)/\dC agg ks=true/\v= .slice ad n cap/\x.er= .l (mS D)/\D.length=n/\n<=cap/\cap<=maxLen/\
  (cap=0\/w.ownsRow 0 el ks.length v n (aE agg ks D))/\∀x∈D,lW P w ok agg ks x
def Ul (P:Program) (w:World) (ok:lU):RS->Value->aP->dm->aP->Prop
 | .c s,v,xs,us,l=>xs=[]/\us=[]/\SY P w ok s v l
 | .t ss,v,xs,us,l=>xs=[]/\us=[]/\∃vs,v= .tuple vs.toArray/\J1 P w ok ss vs l
 | .o el,v,xs,us,l=>l=[]/\∃x,xs=[x]/\us=[v]/\EV P w ok el v x
 | .ot el ss,v,xs,us,l=>∃x u vs,xs=[x]/\us=[u]/\v= .tuple (u::vs).toArray/\EV P w ok el u x/\J1 P w ok ss vs l
def CS.len:CS->Nat| .a _=>1| .g ss=>ss.length|_=>0
def amK (P:Program) (w:World) (ok:lU):CS->Value->aP->jl->Prop
 | .a s,v,l,ns=>ns=[]/\SY P w ok (.a s) v l
 | .g ss,v,l,ns=>ns=[]/\SY P w ok (.g ss) v l
 | .p _ _,v,l,ns=>l=[]/\∃n,ns=[n]/\v= .pointer (some ⟨n,0,none⟩)
 | .f g ls,v,l,ns=>l=[]/\ns.length=ls.length/\v= .func (.func g) #[] (ns.map fun n=>Value.pointer (some ⟨n,0,none⟩)).toArray
def MZ (P:Program) (w:World) (ok:lU):LCs->dm->aP->jl->Prop
 |[],[],l,ns=>l=[]/\ns=[]
 |s::ss,v::vs,l,ns=>∃l1 l2 n1 n2,l=l1++l2/\ns=n1++n2/\amK P w ok s v l1 n1/\MZ P w ok ss vs l2 n2
 |_,_,_,_=>False
def WS (P:Program) (w:World) (ok:lU) (n:Nat):H0->dm->aP->dm->aP->Prop
 |[],[],xs,us,ys=>xs=[]/\us=[]/\ys=[]
 | .rd k::ss,v::vs,xs,us,ys=>∃y ys',ys=y::ys'/\rv P w ok (.ck k) v y/\WS P w ok n ss vs xs us ys'
 | .ck k::ss,v::vs,xs,us,ys=>∃y ys',ys=y::ys'/\rv P w ok (.ck k) v y/\WS P w ok n ss vs xs us ys'
 | .own el::ss,v::vs,xs,us,ys=>∃x xs' HU,xs=x::xs'/\us=v::HU/\EV P w ok el v x/\WS P w ok n ss vs xs' HU ys
 | .sp::ss,v::vs,xs,us,ys=>(v= .pointer none\/v= .pointer (some ⟨n,0,none⟩))/\WS P w ok n ss vs xs us ys
 |_,_,_,_,_=>False
def adt (P:Program) (w:World) (ok:lU):List (TypeId×H0)->jl->aP->dm->aP->Prop
 |[],[],xs,us,ys=>xs=[]/\us=[]/\ys=[]
 |(ty,ss)::ls,n::ns,xs,us,ys=>∃cs x1 x2 u1 u2 y1 y2,xs=x1++x2/\us=u1++u2/\ys=y1++y2/\w.heap[n]? =some (.cells cs.toArray ty (0,0))/\WS P w ok n ss cs x1 u1 y1/\adt P w ok ls ns x2 u2 y2
 |_,_,_,_,_=>False
def Es (P:Program) (w:World) (ok:lU) (n:Nat):H0->dm->dm->aP->dm->aP->Prop
 |[],[],[],xs,us,ys=>xs=[]/\us=[]/\ys=[]
 | .rd _::ss,v0::vs0,v::vs,xs,us,ys=>v=v0/\Es P w ok n ss vs0 vs xs us ys
 | .ck k::ss,_::vs0,v::vs,xs,us,ys=>∃y ys',ys=y::ys'/\rv P w ok (.ck k) v y/\Es P w ok n ss vs0 vs xs us ys'
 | .own el::ss,_::vs0,v::vs,xs,us,ys=>∃x xs' HU,xs=x::xs'/\us=v::HU/\EV P w ok el v x/\Es P w ok n ss vs0 vs xs' HU ys
 | .sp::ss,_::vs0,v::vs,xs,us,ys=>(v= .pointer none\/v= .pointer (some ⟨n,0,none⟩))/\Es P w ok n ss vs0 vs xs us ys
 |_,_,_,_,_,_=>False
def F4 (P:Program) (w0 w:World) (ok:lU):List (TypeId×H0)->jl->aP->dm->aP->Prop
 |[],[],xs,us,ys=>xs=[]/\us=[]/\ys=[]
 |(ty,ss)::ls,n::ns,xs,us,ys=>∃cs0 cs x1 x2 u1 u2 y1 y2,xs=x1++x2/\us=u1++u2/\ys=y1++y2/\w0.heap[n]? =some (.cells cs0.toArray ty (0,0))/\w.heap[n]? =some (.cells cs.toArray ty (0,0))/\Es P w ok n ss cs0 cs x1 u1 y1/\F4 P w0 w ok ls ns x2 u2 y2
 |_,_,_,_,_=>False
def YR (P:Program) (f:FuncId) (vs:Array Value) (w:World) (R:Value->World->Prop):Prop:=
 ((callFunc f vs).run P w= .ok (.enter f vs) w/\Calls P f vs w fun e w'=>∃v,e= .returned v/\R v w')\/∃v w',(callFunc f vs).run P w= .ok (.value v) w'/\R v w'
class xj (P:Program) where
 G:World->Prop
 lim:Nat
 size:∀w,G w->lim<=w.heap.size
 aoB:∀w w' X,G w->(∀p,X p->lim<=p)->rM w.heap.size X w w'->G w'
def okX (s:Nat) (ok:lU) (o o':jl) (p:Nat):Prop:=(s<=p\/ok p\/p∈o)/\p∉o'
def eH (ns:jl) (us:dm):jl:=ns++us.filterMap dG
def nK.Yw (P:Program) (dr:nK) (F:fF) (lim:Nat) (w:World):Prop:=
 ∀(ok:lU) (vs:dm) (ns:jl) (xs:aP) (us:dm) (ys l rs:aP),MZ P w ok dr.args vs l ns->adt P w ok (fS dr.args) ns xs us ys->(eH ns us).Nodup->
  (∀p∈eH ns us,lim<=p/\p<w.heap.size/\¬ok p)->F (xs++ys++l)=some rs->
  YR P dr.f vs.toArray w fun v w'=>rM w.heap.size (·∈eH ns us) w w'/\∃x1 x2 r ys' u1 u2,rs=x1++x2++(r++ys')/\(eH ns (u1++u2)).Nodup/\(∀p∈eH ns (u1++u2),p∈eH ns us\/w.heap.size<=p)/\
   F4 P w w' (okX w.heap.size ok (eH ns us) (eH ns (u1++u2))) (fS dr.args) ns x1 u1 ys'/\Ul P w' (okX w.heap.size ok (eH ns us) (eH ns (u1++u2))) dr.res v x2 u2 r
def nK.holds (P:Program) [xj P] (dr:nK) (F:fF):Prop:=∀w:World,xj.G P w->dr.Yw P F (xj.lim P) w
section
variable {P:Program}
theorem WN {w w':World}{ok ok':lU} (h:∀p o u,ok p->w.cell? ⟨p,o,none⟩=some u->ok' p/\w'.cell? ⟨p,o,none⟩=some u):∀{s:LAs}{v:dm}{x:aP},mD P w ok s v x->mD P w' ok' s v x
 |[],[],[],_=>trivial
 |_::_,_::_,_::_,hr=>⟨JU h hr.1,WN h hr.2⟩
 |[],[],_::_,hr=>hr.elim
 |[],_::_,_,hr=>hr.elim
 |_::_,[],_,hr=>hr.elim
 |_::_,_::_,[],hr=>hr.elim
theorem Zq {w w':World}{ok ok':lU} (h:∀p o u,ok p->w.cell? ⟨p,o,none⟩=some u->ok' p/\w'.cell? ⟨p,o,none⟩=some u){s:CS}{v:Value}{x:aP} (hr:SY P w ok s v x):SY P w' ok' s v x:=by
 cases s with
 |a s=>obtain⟨y,e,r⟩:=hr;exact⟨y,e,JU h r⟩
 |g ss=>obtain⟨y,e,r⟩:=hr;exact⟨y,e,WN h r⟩
 |p _ _=>exact hr
 |f _ _=>exact hr
theorem M3 {w w':World}{ok ok':lU} (h:∀p o u,ok p->w.cell? ⟨p,o,none⟩=some u->ok' p/\w'.cell? ⟨p,o,none⟩=some u):∀{s:LCs}{v:dm}{x:aP},J1 P w ok s v x->J1 P w' ok' s v x
 |[],[],_,hr=>hr
 |_::_,_::_,_,⟨l1,l2,e,r1,r2⟩=>⟨l1,l2,e,Zq h r1,M3 h r2⟩
 |[],_::_,_,hr=>hr.elim
 |_::_,[],_,hr=>hr.elim
theorem QX {w:World}{ok:lU}:∀{s:LAs}{v:dm}{x:aP},mD P w ok s v x->x.length=s.length
 |[],[],[],_=>rfl
 |_::_,_::_,_::_,hr=>by simp[QX hr.2]
 |[],[],_::_,hr=>hr.elim
 |[],_::_,_,hr=>hr.elim
 |_::_,[],_,hr=>hr.elim
 |_::_,_::_,[],hr=>hr.elim
theorem Ax {w:World}{ok:lU}{s:CS}{v:Value}{l:aP} (hr:SY P w ok s v l):l.length=s.len:=by
 cases s with
 |a s=>obtain⟨y,rfl,r⟩:=hr;rfl
 |g ss=>obtain⟨y,e,r⟩:=hr;exact QX r
 |p _ _=>exact hr.elim
 |f _ _=>exact hr.elim
theorem WW {w w':World}{ok ok':lU} (h:∀p o u,ok p->w.cell? ⟨p,o,none⟩=some u->ok' p/\w'.cell? ⟨p,o,none⟩=some u){agg:Bool}{ks:tE}{x:Sc} (hf:lW P w ok agg ks x):lW P w' ok' agg ks x:=fun i k hk=>(hf i k hk).mono h
end
section
variable {P:Program}{B:mC}{w0:World}{σ σ2:St}{c c2:Ct}{a:Act}{w w':World}{o:Oper}{rd:Rd}
theorem aX.aus (g:aX P B w0 σ c a w) (O:lU) (hb:rM w.heap.size O w w') (hOB:∀p,O p->p<w.heap.size->B.n<=p\/B.X p) (N:Bool×Nat->lU) (old:Bool×Nat->Prop)
 (hN1:∀x y p,N x p->N y p->x=y) (hN2:∀x p,N x p->O p\/w.heap.size<=p) (hNB:∀x p,N x p->B.n<=p\/B.X p) (hold:∀x p,old x->σ.owns c x p->¬O p) (hle:c.le c2) (hsl:σ2.aZ=σ.aZ)
 (qM:∀p k,σ2.blk p=some k->(σ.blk p=some k/\old (false,p)/\c2.β p=c.β p)\/∃n cs,c2.β p=some n/\N (false,p) n/\w'.heap[n]? =some (wX k cs)/\fp c2 k.cells cs)
 {ok':lU} (pc:∀r k,σ2.row r=some k->(σ.row r=some k/\(k.own=true->old (true,r))/\c2.R r=c.R r)\/
  (k.own=true/\k.hole=none/\∃D ad n cap,c2.R r=some (.slice ad n cap)/\(k.cont.ev c2.ρ).er= .l (mS D)/\D.length=n/\n<=cap/\cap<=maxLen/\(cap=0\/w'.ownsRow 0 k.el k.ks.length (.slice ad n cap) n (aE k.agg k.ks D))/\(∀p,dG (.slice ad n cap)=some p->N (true,r) p)/\∀x∈D,lW P w' ok' k.agg k.ks x))
 (arN:∀p,ok' p->(∀x,σ2.owns c2 x p->False)/\(B.n<=p\/c.K p\/B.X p)) (hOk:∀p,O p->(∃r k,σ.row r=some k)->¬fg B σ c p):aX P B w0 σ2 c2 a w':=by
 have jq:∀x p,σ2.owns c2 x p->(old x/\σ.owns c x p)\/N x p:=by
  rintro⟨t,q⟩ p h
  cases t
  ·obtain⟨⟨k,hk⟩,e⟩:=h
   rcases qM q k hk with⟨h1,h2,h3⟩|⟨n,cs,e1,e2,_⟩
   ·exact .inl ⟨h2,⟨k,h1⟩,by rw[<-h3];exact e⟩
   ·rw[e]at e1;cases e1;exact .inr e2
  ·obtain⟨⟨k,hk,ho⟩,v,hv,hp⟩:=h
   rcases pc q k hk with⟨h1,h2,h3⟩|⟨_,_,D,ad,n,cap,e1,_,_,_,_,_,e2,_⟩
   ·exact .inl ⟨h2 ho,⟨k,h1,ho⟩,v,by rw[<-h3];exact hv,hp⟩
   ·rw[hv]at e1;cases e1;exact .inr (e2 p hp)
 have aDN:∀(hr:∃r k,σ.row r=some k) p o u,fg B σ c p->w.cell? ⟨p,o,none⟩=some u->fg B σ2 c2 p/\w'.cell? ⟨p,o,none⟩=some u:=fun hr p o u hp hu=>by
  have fU:=World.block_lt_of_cell? w ⟨p,o,none⟩ hu
  have hnO:¬O p:=fun h=>hOk p h hr hp
  refine⟨⟨fun x hx=> ?_,by rw[hle.K];exact hp.2⟩,by rw[World.cell?_of_block (hb.block p fU hnO)];exact hu⟩
  rcases jq x p hx with⟨_,h⟩|h
  ·exact hp.1 x h
  ·rcases hN2 x p h with h|h
   ·exact hnO h
   ·simp at fU;omega
 refine⟨?_,Nat.le_trans g.hB hb.size,g.defers,by rw[hsl];exact g.size,fun t=> ?_,fun p k hp=> ?_,fun r k hr=> ?_,fun x y p hx hy=> ?_⟩
 ·exact g.below.trans ⟨hb.os,hb.tape,hb.output,hb.size,fun j hj hx=>hb.block j (Nat.lt_of_lt_of_le hj g.hB) (fun h=>by
   rcases hOB j h (Nat.lt_of_lt_of_le hj g.hB)with h|h
   ·omega
   ·exact hx h)⟩
 ·have:σ2.slot t=σ.slot t:=by unfold St.slot;rw[hsl]
  rw[this];exact SV.v7 hle (g.aZ t)
 ·rcases qM p k hp with⟨h1,h2,h3⟩|⟨n,cs,e1,e2,e3,e4⟩
  ·obtain⟨n,cs,e,q1,q2,q3⟩:=g.aO p k h1
   refine⟨n,cs,by rw[h3];exact e,q1,?_,yG hle q3⟩
   rw[hb.block n (Array.getElem?_eq_some_iff.1 q2).1 (hold (false,p) n h2 ⟨⟨k,h1⟩,e⟩)];exact q2
  ·exact⟨n,cs,e1,hNB _ _ e2,e3,e4⟩
 ·rcases pc r k hr with⟨h1,h2,h3⟩|⟨ho,hh,D,ad,n,cap,e1,e2,e3,e4,e5,e6,e7,e8⟩
  ·obtain⟨v,e,q⟩:=g.rows r k h1
   refine⟨v,by rw[h3];exact e,q.mono (aDN ⟨r,k,h1⟩) (fun ho p hp fU=>hb.block p fU (hold (true,r) p (h2 ho) ⟨⟨k,h1,ho⟩,v,e,hp⟩)) (by rw[hle.ρ]) (fun _ _ _ h=>h.le hle)⟩
  ·refine⟨_,e1,D,ad,n,cap,rfl,e2,e3,e4,e5,fun _=>e6.imp id fun h=>⟨.of hh h,fun p hp=>hNB _ _ (e7 p hp)⟩,(fun h=>by rw[ho]at h;cases h),fun x hx=>WW (fun p o u hp hu=>⟨⟨fun x hx=>(arN p hp).1 x hx,by rw[hle.K];exact(arN p hp).2⟩,hu⟩) (e8 x hx)⟩
 ·rcases jq x p hx with⟨o1,h1⟩|h1<;>rcases jq y p hy with⟨o2,h2⟩|h2
  ·exact g.apart x y p h1 h2
  ·rcases hN2 y p h2 with h|h
   ·exact(hold x p o1 h1 h).elim
   ·have:=(g.sI h1).2;omega
  ·rcases hN2 x p h1 with h|h
   ·exact(hold y p o2 h2 h).elim
   ·have:=(g.sI h2).2;omega
  ·exact hN1 x y p h1 h2
theorem aX.akh (g:aX P B w0 σ c a w) (hs:σ2.aZ=σ.aZ) (hr:∀r,σ2.row r=σ.row r) (hb:∀p k2,σ2.blk p=some k2->∃k,σ.blk p=some k/\k2.ty=k.ty/\k2.kd=k.kd/\∀n cs,c.β p=some n->w.heap[n]? =some (wX k cs)->fp c k.cells cs->fp c k2.cells cs):aX P B w0 σ2 c a w:=by
 have jq:∀x p,σ2.owns c x p->σ.owns c x p:=by
  rintro⟨t,q⟩ p h
  cases t
  ·obtain⟨⟨k,hk⟩,e⟩:=h
   obtain⟨k',h1,_⟩:=hb q k hk
   exact⟨⟨k',h1⟩,e⟩
  ·obtain⟨⟨k,hk,ho⟩,e⟩:=h
   rw[hr]at hk
   exact⟨⟨k,hk,ho⟩,e⟩
 refine⟨g.below,g.hB,g.defers,by rw[hs];exact g.size,fun t=>by have:σ2.slot t=σ.slot t:=by unfold St.slot;rw[hs]
                                                               rw[this];exact g.aZ t,fun p k2 hp=> ?_,fun r k hk=> ?_,fun x y p hx hy=>g.apart x y p (jq x p hx) (jq y p hy)⟩
 ·obtain⟨k,h1,h2,h3,h4⟩:=hb p k2 hp
  obtain⟨n,cs,e,q1,q2,q3⟩:=g.aO p k h1
  refine⟨n,cs,e,q1,?_,h4 n cs e q2 q3⟩
  have:wX k2 cs=wX k cs:=by unfold wX;rw[h2,h3]
  rw[this];exact q2
 ·rw[hr]at hk
  obtain⟨v,e,q⟩:=g.rows r k hk
  exact⟨v,e,q.mono (fun p o u hp hu=>⟨⟨fun x hx=>hp.1 x (jq x p hx),hp.2⟩,hu⟩) (fun _ _ _ _=>rfl) rfl (fun _ _ _ h=>h)⟩
end
end
section
open Go.RowKit
section
variable {P:Program}{B:mC}{w0:World}{σ:St}{c:Ct}{a:Act}{w:World}{o:Oper}{rd:Rd}
theorem afi {row:tB}{s:AS}{x:At}{e:Ex}{fr:eJ} (h:ajq P row s x=some (e,fr)):xe row fr:=by
 cases s with
 |ck k=>exact D3 h
theorem Y8 (g:aX P B w0 σ c a w){row:tB}{s:AS}{x:At}{e:Ex}{fr:eJ} (h:ajq P row s x=some (e,fr)) (hfz:Fz row σ fr){v:Value} (hv:x.rel c v):rv P w (fg B σ c) s v (e.ev c.ρ):=by
 cases s with
 |ck k=>exact oR g h hfz hv
theorem acp {row:tB}:∀{ss:LAs}{xs:qE}{es:mA}{fr:eJ},Co P row ss xs=some (es,fr)->xe row fr
 |[],[],es,fr,h=>by simp[Co]at h;obtain⟨rfl,rfl⟩:=h;exact .nil
 |s::ss,x::xs,es,fr,h=>by
  simp only[Co]at h
  split at h
  ·rename_i h1 h2;cases h;exact(afi h1).append (acp h2)
  ·cases h
 |[],_::_,_,_,h=>by simp[Co]at h
 |_::_,[],_,_,h=>by simp[Co]at h
theorem WL (g:aX P B w0 σ c a w){row:tB}:∀{ss:LAs}{xs:qE}{es:mA}{fr:eJ},Co P row ss xs=some (es,fr)->Fz row σ fr->∀{vs:dm},fp c xs vs->
 mD P w (fg B σ c) ss vs (es.map (Ex.ev c.ρ))
 |[],[],es,fr,h,_,vs,hv=>by
  simp[Co]at h
  obtain⟨rfl,rfl⟩:=h
  cases vs with
  |nil=>trivial
  |cons=>exact hv.elim
 |s::ss,x::xs,es,fr,h,hf,vs,hv=>by
  match vs,hv with
  |v::vs,hv=>
   simp only[Co]at h
   split at h
   ·rename_i e r WY rs h1 h2
    cases h
    exact⟨Y8 g h1 hf.left hv.1,WL g h2 hf.right hv.2⟩
   ·cases h
 |[],_::_,_,_,h,_,_,_=>by simp[Co]at h
 |_::_,[],_,_,h,_,_,_=>by simp[Co]at h
theorem adr {row:tB}{s:CS}{x:SV}{es:mA}{fr:eJ} (h:ahA P row s x=some (es,fr)):xe row fr:=by
 unfold ahA at h
 split at h
 ·simp only[Option.map_eq_some_iff,Prod.mk.injEq]at h
  obtain⟨⟨e,r⟩,h1,h2,rfl⟩:=h
  exact afi h1
 ·exact acp h
 ·cases h
theorem US (g:aX P B w0 σ c a w){row:tB}{s:CS}{x:SV}{es:mA}{fr:eJ} (h:ahA P row s x=some (es,fr)) (hf:Fz row σ fr){v:Value} (hv:x.rel c v):
 SY P w (fg B σ c) s v (es.map (Ex.ev c.ρ)):=by
 unfold ahA at h
 split at h
 ·simp only[Option.map_eq_some_iff,Prod.mk.injEq]at h
  obtain⟨⟨e,r⟩,h1,h2,rfl⟩:=h
  subst h2
  exact⟨_,rfl,Y8 g h1 hf hv⟩
 ·obtain⟨vs,rfl,hr⟩:=hv
  exact⟨vs,rfl,WL g h hf hr⟩
 ·cases h
theorem Y9 {row:tB}:∀{ss:LCs}{xs:List SV}{es:mA}{fr:eJ},F2 P row ss xs=some (es,fr)->xe row fr
 |[],[],es,fr,h=>by simp[F2]at h;obtain⟨rfl,rfl⟩:=h;exact .nil
 |s::ss,x::xs,es,fr,h=>by
  simp only[F2]at h
  split at h
  ·rename_i h1 h2;cases h;exact(adr h1).append (Y9 h2)
  ·cases h
 |[],_::_,_,_,h=>by simp[F2]at h
 |_::_,[],_,_,h=>by simp[F2]at h
theorem Za (g:aX P B w0 σ c a w){row:tB}:∀{ss:LCs}{xs:List SV}{es:mA}{fr:eJ},F2 P row ss xs=some (es,fr)->Fz row σ fr->∀{vs:dm},xs.length=vs.length->
 (∀i (h1:i<xs.length) (h2:i<vs.length),(xs[i]).rel c (vs[i]))->J1 P w (fg B σ c) ss vs (es.map (Ex.ev c.ρ))
 |[],[],es,fr,h,_,vs,hl,hv=>by
  simp[F2]at h
  obtain⟨rfl,rfl⟩:=h
  cases vs with
  |nil=>rfl
  |cons=>simp at hl
 |s::ss,x::xs,es,fr,h,hf,vs,hl,hv=>by
  cases vs with
  |nil=>simp at hl
  |cons v vs=>
   simp only[F2]at h
   split at h
   ·rename_i e r WY rs h1 h2
    cases h
    refine⟨_,_,by simp,US g h1 hf.left (hv 0 (by simp) (by simp)),Za g h2 hf.right (vs:=vs) (by simpa using hl) (fun i h1 h2=>by
     have:=hv (i+1) (by simp;omega) (by simp;omega)
     simpa using this)⟩
   ·cases h
 |[],_::_,_,_,h,_,_,_,_=>by simp[F2]at h
 |_::_,[],_,_,h,_,_,_,_=>by simp[F2]at h
theorem au2 {row:tB}{s:CS}{x:SV}{es:mA}{fr:eJ}{bs:jl} (h:avC P row s x=some (es,fr,bs)):xe row fr:=by
 unfold avC at h
 split at h
 ·cases h;exact .nil
 ·split at h
  ·cases h;exact .nil
  ·cases h
 ·simp only[Option.map_eq_some_iff,Prod.mk.injEq]at h
  obtain⟨⟨e,r⟩,h1,rfl,rfl,_⟩:=h
  exact adr h1
theorem amJ (g:aX P B w0 σ c a w){row:tB}{s:CS}{x:SV}{es:mA}{fr:eJ}{bs:jl} (h:avC P row s x=some (es,fr,bs)) (hf:Fz row σ fr){v:Value} (hv:x.rel c v):
 ∃ns,amK P w (fg B σ c) s v (es.map (Ex.ev c.ρ)) ns/\bs.map c.β=ns.map some:=by
 unfold avC at h
 split at h
 ·cases h
  obtain⟨n,h1,h2⟩:=hv
  exact⟨[n],⟨rfl,n,rfl,h2⟩,by simp[h1]⟩
 ·split at h
  ·rename_i hc
   cases h
   simp only[Bool.and_eq_true]at hc
   have h1:=eq_of_beq_eq_true hc.1
   have h2:=eq_of_beq_eq_true hc.2
   subst h1
   obtain⟨ns,q1,q2⟩:=hv
   refine⟨ns,⟨rfl,?_,q2⟩,q1⟩
   have:=congrArg List.length q1
   simp at this
   omega
  ·cases h
 ·rename_i hn1 X7
  simp only[Option.map_eq_some_iff,Prod.mk.injEq]at h
  obtain⟨⟨e,r⟩,h1,rfl,rfl,rfl⟩:=h
  have:=US g h1 hf hv
  cases s with
  |a s=>exact⟨[],⟨rfl,this⟩,rfl⟩
  |g ss=>exact⟨[],⟨rfl,this⟩,rfl⟩
  |p _ _=>exact this.elim
  |f _ _=>exact this.elim
theorem ajr {row:tB}:∀{ss:LCs}{xs:List SV}{es:mA}{fr:eJ}{bs:jl},SH P row ss xs=some (es,fr,bs)->xe row fr
 |[],[],es,fr,bs,h=>by simp[SH]at h;obtain⟨rfl,rfl,rfl⟩:=h;exact .nil
 |s::ss,x::xs,es,fr,bs,h=>by
  simp only[SH]at h
  split at h
  ·rename_i h1 h2;cases h;exact(au2 h1).append (ajr h2)
  ·cases h
 |[],_::_,_,_,_,h=>by simp[SH]at h
 |_::_,[],_,_,_,h=>by simp[SH]at h
theorem acs (g:aX P B w0 σ c a w){row:tB}:∀{ss:LCs}{xs:List SV}{es:mA}{fr:eJ}{bs:jl},SH P row ss xs=some (es,fr,bs)->Fz row σ fr->∀{vs:dm},xs.length=vs.length->
 (∀i (h1:i<xs.length) (h2:i<vs.length),(xs[i]).rel c (vs[i]))->∃ns,MZ P w (fg B σ c) ss vs (es.map (Ex.ev c.ρ)) ns/\bs.map c.β=ns.map some
 |[],[],es,fr,bs,h,_,vs,hl,hv=>by
  simp[SH]at h
  obtain⟨rfl,rfl,rfl⟩:=h
  cases vs with
  |nil=>exact⟨[],⟨rfl,rfl⟩,rfl⟩
  |cons=>simp at hl
 |s::ss,x::xs,es,fr,bs,h,hf,vs,hl,hv=>by
  cases vs with
  |nil=>simp at hl
  |cons v vs=>
   simp only[SH]at h
   split at h
   ·rename_i e r b WY rs bs' h1 h2
    cases h
    obtain⟨n1,q1,q2⟩:=amJ g h1 hf.left (hv 0 (by simp) (by simp))
    obtain⟨n2,q3,q4⟩:=acs g h2 hf.right (vs:=vs) (by simpa using hl) (fun i h1 h2=>by
     have:=hv (i+1) (by simp;omega) (by simp;omega)
     simpa using this)
    exact⟨n1++n2,⟨_,_,n1,n2,by simp,rfl,q1,q3⟩,by simp[q2,q4]⟩
   ·cases h
 |[],_::_,_,_,_,h,_,_,_,_=>by simp[SH]at h
 |_::_,[],_,_,_,h,_,_,_,_=>by simp[SH]at h
def CF (σ:St) (c:Ct):jl->dm->Prop
 |[],[]=>True
 |r::rs,u::us=>(∃k,σ.row r=some k/\k.own=true)/\c.R r=some u/\CF σ c rs us
 |_,_=>False
theorem Bg:∀{r1 r2:jl}{u1 u2:dm},CF σ c r1 u1->CF σ c r2 u2->CF σ c (r1++r2) (u1++u2)
 |[],_,[],_,_,h=>h
 |_::_,_,_::_,_,h,h2=>⟨h.1,h.2.1,Bg h.2.2 h2⟩
 |[],_,_::_,_,h,_=>h.elim
 |_::_,_,[],_,h,_=>h.elim
theorem wc:∀{rs:jl}{us:dm},CF σ c rs us->∀p∈us.filterMap dG,∃r∈rs,σ.owns c (true,r) p
 |[],[],_,p,hp=>by cases hp
 |r::rs,u::us,h,p,hp=>by
  rw[filterMap_cons]at hp
  cases hu:dG u with
  |none=>
   rw[hu]at hp
   obtain⟨r',h1,h2⟩:=wc h.2.2 p hp
   exact⟨r',mem_cons_of_mem _ h1,h2⟩
  |some q=>
   rw[hu]at hp
   rcases mem_cons.1 hp with rfl|hp
   ·exact⟨r,mem_cons_self ..,h.1,u,h.2.1,hu⟩
   ·obtain⟨r',h1,h2⟩:=wc h.2.2 p hp
    exact⟨r',mem_cons_of_mem _ h1,h2⟩
 |[],_::_,h,_,_=>h.elim
 |_::_,[],h,_,_=>h.elim
theorem KU (g:aX P B w0 σ c a w):∀{rs:jl}{us:dm},CF σ c rs us->rs.Nodup->(us.filterMap dG).Nodup
 |[],[],_,_=>nodup_nil
 |r::rs,u::us,h,hd=>by
  rw[nodup_cons]at hd
  have ih:=KU g h.2.2 hd.2
  rw[filterMap_cons]
  cases hu:dG u with
  |none=>exact ih
  |some q=>
   refine nodup_cons.2 ⟨fun hq=> ?_,ih⟩
   obtain⟨r',h1,h2⟩:=wc h.2.2 q hq
   have:=g.apart (true,r') (true,r) q h2 ⟨h.1,u,h.2.1,hu⟩
   cases this
   exact hd.1 h1
 |[],_::_,h,_=>h.elim
 |_::_,[],h,_=>h.elim
theorem uF.fz {row:tB}{x y:uF} (h:xe row x.fr) (k:xe row y.fr):xe row (x.app y).fr:=h.append k
theorem akf {row:tB}{b:Nat}{s:PS}{x:At}{l:uF} (h:aca P row b s x=some l):xe row l.fr:=by
 unfold aca at h
 split at h
 ·obtain⟨⟨e,f⟩,h1,rfl⟩:=Option.map_eq_some_iff.1 h;exact D3 h1
 ·obtain⟨⟨e,f⟩,h1,rfl⟩:=Option.map_eq_some_iff.1 h;exact D3 h1
 ·split at h
  ·split at h
   ·cases h;exact .nil
   ·cases h
  ·cases h
 ·split at h
  ·split at h
   ·cases h;exact .nil
   ·cases h
  ·cases h
 ·split at h
  ·cases h;exact .nil
  ·cases h
 ·cases h
theorem acO {row:tB}{b:Nat}:∀{ss:H0}{xs:qE}{l:uF},CA P row b ss xs=some l->xe row l.fr
 |[],[],l,h=>by simp[CA]at h;subst h;exact .nil
 |s::ss,x::xs,l,h=>by
  simp only[CA]at h
  split at h
  ·rename_i h1 h2;cases h;exact(akf h1).append (acO h2)
  ·cases h
 |[],_::_,_,h=>by simp[CA]at h
 |_::_,[],_,h=>by simp[CA]at h
theorem aak {row:tB}{blk:Nat->Option Bk}:∀{ls:List (TypeId×H0)}{bs:jl}{l:uF},nd P row blk ls bs=some l->xe row l.fr
 |[],[],l,h=>by simp[nd]at h;subst h;exact .nil
 |(ty,ss)::ls,b::bs,l,h=>by
  simp only[nd]at h
  split at h
  ·split at h
   ·split at h
    ·rename_i h1 h2;cases h;exact(acO h1).append (aak h2)
    ·cases h
   ·cases h
  ·cases h
 |[],_::_,_,h=>by simp[nd]at h
 |_::_,[],_,h=>by simp[nd]at h
theorem aeL (g:aX P B w0 σ c a w){r:Nat}{k:Rw} (hk:σ.row r=some k) (cv:k.own=true){el:TypeId}{agg:Bool}{ks:tE} (hT:qg P el=some (agg,ks)) (EJ:dC agg ks=true) (vX:rK el ks agg (some (r,k))=true):
 ∃v,c.R r=some v/\EV P w (fg B σ c) el v (k.cont.ev c.ρ):=by
 simp only[rK,Bool.and_eq_true,beq_iff_eq,decide_eq_true_eq]at vX
 obtain⟨⟨⟨NK,hks⟩,hag⟩,pK⟩:=vX
 have pK:=gr pK
 subst NK hks hag
 obtain⟨v,e,D,ad,n,cap,rfl,h0,h1,h2,h3,h4,h5,h6⟩:=g.rows r k hk
 exact⟨_,e,k.agg,k.ks,D,ad,n,cap,hT,EJ,rfl,h0,h1,h2,h3,(h4 cv).imp id (·.1.plain pK),h6⟩
theorem agU {b n:Nat} (hb:c.β b=some n){x:At} (h:spB b x=true){v:Value} (hv:x.rel c v):v= .pointer none\/v= .pointer (some ⟨n,0,none⟩):=by
 unfold spB at h
 split at h
 ·exact .inl hv
 ·have:=eq_of_beq_eq_true h
  subst this
  obtain⟨m,e,h2⟩:=hv
  rw[hb]at e;cases e
  exact .inr h2
 ·have:=eq_of_beq_eq_true h
  subst this
  rcases hv with h2|⟨m,e,h2⟩
  ·exact .inl h2
  ·rw[hb]at e;cases e;exact .inr h2
 ·cases h
theorem Xb (g:aX P B w0 σ c a w){row:tB}{b n:Nat} (hb:c.β b=some n):∀{ss:H0}{xs:qE}{l:uF},CA P row b ss xs=some l->Fz row σ l.fr->(∀r∈l.rs,∀k,row r=some k->σ.row r=some k)->
 ∀{vs:dm},fp c xs vs->∃us HU,WS P w (fg B σ c) n ss vs (l.os.map (Ex.ev c.ρ)) us (l.es.map (Ex.ev c.ρ))/\us.filterMap dG=HU.filterMap dG/\CF σ c l.rs HU
 |[],[],l,h,_,_,vs,hv=>by
  simp[CA]at h
  subst h
  cases vs with
  |nil=>exact⟨[],[],⟨rfl,rfl,rfl⟩,rfl,trivial⟩
  |cons=>exact hv.elim
 |s::ss,x::xs,l,h,hf,Yx,vs,hv=>by
  match vs,hv with
  |v::vs,hv=>
   simp only[CA]at h
   split at h
   rotate_left
   ·cases h
   rename_i y ys h1 h2
   cases h
   obtain⟨us,HU,i1,i2,i3⟩:=Xb g hb h2 hf.right (fun r hr=>Yx r (mem_append_right _ hr)) hv.2
   unfold aca at h1
   split at h1
   ·obtain⟨⟨e,f⟩,q1,rfl⟩:=Option.map_eq_some_iff.1 h1
    exact⟨us,HU,⟨_,_,rfl,oR g q1 hf.left hv.1,i1⟩,i2,i3⟩
   ·obtain⟨⟨e,f⟩,q1,rfl⟩:=Option.map_eq_some_iff.1 h1
    exact⟨us,HU,⟨_,_,rfl,oR g q1 hf.left hv.1,i1⟩,i2,i3⟩
   ·rename_i el r hv
    split at h1
    ·rename_i k agg ks hk hT
     split at h1
     ·rename_i hc
      cases h1
      simp only[Bool.and_eq_true]at hc
      have mi:=Yx r (by simp[uF.app]) k hk
      obtain⟨u,e,q⟩:=aeL g mi hc.1.1 hT hc.2 hc.1.2
      have e2:c.R r=some v:=hv.1.1
      rw[e]at e2;cases e2
      exact⟨v::us,v::HU,⟨_,_,_,rfl,rfl,q,i1⟩,by rw[filterMap_cons,filterMap_cons,i2],⟨⟨k,mi,hc.1.1⟩,e,i3⟩⟩
     ·cases h1
    ·cases h1
   ·rename_i el
    split at h1
    ·rename_i agg ks hT
     split at h1
     ·rename_i EJ
      cases h1
      obtain⟨ad,rfl⟩:=hv.1
      have Yv:dG (.slice ad 0 0)=none:=by cases ad<;>rfl
      exact⟨.slice ad 0 0::us,HU,⟨_,_,_,rfl,rfl,⟨agg,ks,[],ad,0,0,hT,EJ,rfl,by simp[Ex.ev,Sc.er],rfl,Nat.le_refl _,zero_le _,.inl rfl,fun x hx=>by cases hx⟩,i1⟩,by rw[filterMap_cons,Yv,i2],i3⟩
     ·cases h1
    ·cases h1
   ·split at h1
    ·rename_i hsp
     cases h1
     exact⟨us,HU,⟨agU hb hsp hv.1,i1⟩,i2,i3⟩
    ·cases h1
   ·cases h1
 |[],_::_,_,h,_,_,_,_=>by simp[CA]at h
 |_::_,[],_,h,_,_,_,_=>by simp[CA]at h
theorem TR (g:aX P B w0 σ c a w){row:tB}{blk:Nat->Option Bk} (qM:∀b k,blk b=some k->σ.blk b=some k):∀{ls:List (TypeId×H0)}{bs ns:jl}{l:uF},nd P row blk ls bs=some l->bs.map c.β=ns.map some->Fz row σ l.fr->
 (∀r∈l.rs,∀k,row r=some k->σ.row r=some k)->∃us HU,adt P w (fg B σ c) ls ns (l.os.map (Ex.ev c.ρ)) us (l.es.map (Ex.ev c.ρ))/\us.filterMap dG=HU.filterMap dG/\CF σ c l.rs HU
 |[],[],ns,l,h,hn,_,_=>by
  simp[nd]at h
  subst h
  cases ns with
  |nil=>exact⟨[],[],⟨rfl,rfl,rfl⟩,rfl,trivial⟩
  |cons=>simp at hn
 |(ty,ss)::ls,b::bs,ns,l,h,hn,hf,Yx=>by
  cases ns with
  |nil=>simp at hn
  |cons n ns=>
   simp only[map_cons,List.cons.injEq]at hn
   simp only[nd]at h
   split at h
   rotate_left
   ·cases h
   rename_i k hk
   split at h
   rotate_left
   ·cases h
   rename_i hc
   simp only[Bool.and_eq_true]at hc
   split at h
   rotate_left
   ·cases h
   rename_i y ys h1 h2
   cases h
   have Z9:=eq_of_beq_eq_true hc.1
   have UE:=eq_of_beq_eq_true hc.2
   obtain⟨m,cs,e,_,q2,q3⟩:=g.aO b k (qM b k hk)
   rw[hn.1]at e;cases e
   rw[dY UE,Z9]at q2
   obtain⟨u1,u1',i1,i2,i3⟩:=Xb g hn.1 h1 hf.left (fun r hr=>Yx r (mem_append_left _ hr)) q3
   obtain⟨u2,u2',j1,j2,j3⟩:=TR g qM h2 hn.2 hf.right (fun r hr=>Yx r (mem_append_right _ hr))
   exact⟨u1++u2,u1'++u2',⟨cs,_,_,u1,u2,_,_,by simp[uF.app],rfl,by simp[uF.app],q2,i1,j1⟩,by rw[filterMap_append,filterMap_append,i2,j2],Bg i3 j3⟩
 |[],_::_,_,_,h,_,_,_=>by simp[nd]at h
 |_::_,[],_,_,h,_,_,_=>by simp[nd]at h
theorem DY {ok:lU}{ρ:aP}:∀{ss:LAs}{nv:Nat}{vs:dm}{ys:aP},(∀i,i<ys.length->ρ.getD (nv+i) (.i 0)=ys.getD i (.i 0))->mD P w ok ss vs ys->uH P w ok ρ (fw nv ss) vs
 |[],nv,[],[],_,_=>trivial
 |s::ss,nv,v::vs,y::ys,hy,hr=>by
  refine⟨?_,DY (nv:=nv+1) (fun i hi=>by
   have:=hy (i+1) (by simp;omega)
   rw[show nv+1+i=nv+(i+1)by omega];simpa using this) hr.2⟩
  have h0:=hy 0 (by simp)
  simp only[Nat.add_zero,getD_cons_zero]at h0
  show rv P w ok s v (ρ.getD nv (.i 0))
  rw[h0];exact hr.1
 |[],_,[],_::_,_,hr=>hr.elim
 |[],_,_::_,_,_,hr=>hr.elim
 |_::_,_,[],_,_,hr=>hr.elim
 |_::_,_,_::_,[],_,hr=>hr.elim
theorem Jx (s:CS) (nv nr:Nat):nr<=(v8 P nv nr s).2.2.2/\∀i,i∈(v8 P nv nr s).2.1.map (·.1)↔nr<=i/\i<(v8 P nv nr s).2.2.2:=by
 cases s with
 |a s=>exact KJ nr _ s
 |g ss=>exact v6 _ nr
 |p _ _=>exact⟨Nat.le_refl _,fun i=>by first|(simp[v8];omega)|simp[v8]⟩
 |f _ _=>exact⟨Nat.le_refl _,fun i=>by first|(simp[v8];omega)|simp[v8]⟩
theorem KT:∀(ss:LCs) (nv nr:Nat),nr<=(wY P nv nr ss).2.2.2/\∀i,i∈(wY P nv nr ss).2.1.map (·.1)↔nr<=i/\i<(wY P nv nr ss).2.2.2
 |[],_,nr=>⟨Nat.le_refl _,fun i=>by simp[wY]⟩
 |s::ss,nv,nr=>by
  have h1:=Jx (P:=P) s nv nr
  have h2:=KT ss (v8 P nv nr s).2.2.1 (v8 P nv nr s).2.2.2
  refine⟨Nat.le_trans h1.1 h2.1,fun i=> ?_⟩
  show i∈((v8 P nv nr s).2.1++(wY P (v8 P nv nr s).2.2.1 (v8 P nv nr s).2.2.2 ss).2.1).map (·.1)↔nr<=i/\i<(wY P (v8 P nv nr s).2.2.1 (v8 P nv nr s).2.2.2 ss).2.2.2
  rw[map_append,mem_append,h1.2,h2.2]
  have:=h1.1
  have:=h2.1
  omega
theorem alJ (s:RS) (nv nr q:Nat):nr<=(Ms P nv nr q s).2.2.2/\∀i,i∈(Ms P nv nr q s).2.1.map (·.1)↔nr<=i/\i<(Ms P nv nr q s).2.2.2:=by
 cases s with
 |c s=>exact Jx s nv nr
 |t ss=>exact KT ss nv nr
 |o _=>exact⟨Nat.le_refl _,fun i=>by first|(simp[Ms];omega)|simp[Ms]⟩
 |ot _ ss=>exact KT ss nv nr
theorem aeR (s:CS) (nv nr:Nat):(v8 P nv nr s).2.2.1=nv+s.len:=by
 cases s with
 |a s=>rfl
 |g ss=>rfl
 |p _ _=>rfl
 |f _ _=>rfl
theorem OS {s:CS}{nv nr:Nat}{v:Value}{ys:aP}{ok:lU} (g:aX P B w0 σ c a w) (dI:∀p,ok p->fg B σ c p) (hy:∀i,i<ys.length->c.ρ.getD (nv+i) (.i 0)=ys.getD i (.i 0))
 (hr:SY P w ok s v ys) (hR:∀i,nr<=i->i<(v8 P nv nr s).2.2.2->c.R i=none):
 ∃c',c'.β=c.β/\(∀i,i<nr\/(v8 P nv nr s).2.2.2<=i->c'.R i=c.R i)/\(v8 P nv nr s).1.rel c' v/\
  aX P B w0 {σ with rows:=aH σ.rows (v8 P nv nr s).2.1} c' a w/\Ext σ {σ with rows:=aH σ.rows (v8 P nv nr s).2.1} c c':=by
 cases s with
 |a s=>
  obtain⟨y,rfl,hr⟩:=hr
  have h0:=hy 0 (by simp)
  simp only[Nat.add_zero,getD_cons_zero]at h0
  exact KK (e:= .v nv) g dI (by show rv P w ok s v (c.ρ.getD nv (.i 0));rw[h0];exact hr) hR
 |g ss=>
  obtain⟨vs,rfl,hr⟩:=hr
  obtain⟨c',d1,d2,d3,d4,d5⟩:=ET (ps:=fw nv ss) (nr:=nr) g dI (DY hy hr) hR
  exact⟨c',d1,d2,⟨vs,rfl,d3⟩,d4,d5⟩
 |p _ _=>exact hr.elim
 |f _ _=>exact hr.elim
theorem RK:∀{ss:LCs}{σ:St}{c:Ct}{nv nr:Nat}{vs:dm}{ys:aP}{ok:lU},aX P B w0 σ c a w->(∀p,ok p->fg B σ c p)->(∀i,i<ys.length->c.ρ.getD (nv+i) (.i 0)=ys.getD i (.i 0))->
 J1 P w ok ss vs ys->(∀i,nr<=i->i<(wY P nv nr ss).2.2.2->c.R i=none)->
 ∃c',c'.β=c.β/\(∀i,i<nr\/(wY P nv nr ss).2.2.2<=i->c'.R i=c.R i)/\Pz c' (wY P nv nr ss).1 vs/\
  aX P B w0 {σ with rows:=aH σ.rows (wY P nv nr ss).2.1} c' a w/\Ext σ {σ with rows:=aH σ.rows (wY P nv nr ss).2.1} c c'
 |[],σ,c,nv,nr,[],ys,ok,g,_,_,_,_=>⟨c,rfl,fun _ _=>rfl,trivial,g,.refl c,fun _ _ h=>h⟩
 |s::ss,σ,c,nv,nr,v::vs,ys,ok,g,dI,hy,hr,hR=>by
  obtain⟨l1,l2,rfl,r1,r2⟩:=hr
  have m1:=(Jx (P:=P) s nv nr).1
  have m2:=(KT (P:=P) ss (v8 P nv nr s).2.2.1 (v8 P nv nr s).2.2.2).1
  have hlen:=Ax r1
  have Pl:∀i,nr<=i->i<(wY P (v8 P nv nr s).2.2.1 (v8 P nv nr s).2.2.2 ss).2.2.2->c.R i=none:=hR
  obtain⟨c1,a1,a2,a5,a6,a7⟩:=OS (nv:=nv) (nr:=nr) g dI (fun i hi=>by
   have:=hy i (by simp;omega)
   rw[this];exact bj _ _ _ _ hi) r1 (fun i h1 h2=>Pl i h1 (by omega))
  obtain⟨c2,d1,d2,d4,d5,d6⟩:=RK (ss:=ss) (nv:=(v8 P nv nr s).2.2.1) (nr:=(v8 P nv nr s).2.2.2) (vs:=vs) (ys:=l2) (ok:=ok) a6
   (fun p hp=>⟨fun x hx=>(dI p hp).1 x (a7.owns x p hx),by rw[a7.le.K];exact(dI p hp).2⟩) (fun i hi=>by
     have:=hy (l1.length+i) (by simp;omega)
     rw[a7.le.ρ,aeR,<-hlen,Nat.add_assoc,this]
     rw[getD_eq_getElem?_getD,getElem?_append_right (by omega),Nat.add_sub_cancel_left,<-getD_eq_getElem?_getD]) r2 (fun i h1 h2=>by rw[a2 i (.inr h1)];exact Pl i (by omega) h2)
  refine⟨c2,d1.trans a1,fun i hi=> ?_,⟨SC.v7 d6.le a5,d4⟩,?_,a7.le.trans d6.le,fun x p h=>a7.owns x p (d6.owns x p ?_)⟩
  ·have bN:i<nr\/(wY P (v8 P nv nr s).2.2.1 (v8 P nv nr s).2.2.2 ss).2.2.2<=i:=hi
   rw[d2 i (by omega),a2 i (by omega)]
  ·simp only[wY];rw[eI];exact d5
  ·simp only[wY]at h;rw[eI]at h;exact h
 |[],_,_,_,_,_::_,_,_,_,_,_,hr,_=>hr.elim
 |_::_,_,_,_,_,[],_,_,_,_,_,hr,_=>hr.elim
theorem V8:∀(ss:LCs) (nv nr:Nat),(wY P nv nr ss).2.2.1=nv+(ss.map CS.len).sum
 |[],_,_=>rfl
 |s::ss,nv,nr=>by simp only[wY];rw[V8 ss,aeR];simp;omega
theorem M2 {w:World}{ok:lU}:∀{s:LCs}{v:dm}{l:aP},J1 P w ok s v l->l.length=(s.map CS.len).sum/\v.length=s.length
 |[],[],_,h=>by have h:_=[]:=h;subst h;exact⟨rfl,rfl⟩
 |_::_,_::_,_,⟨l1,l2,e,r1,r2⟩=>by
  obtain⟨i1,i2⟩:=M2 r2
  subst e
  exact⟨by simp[Ax r1,i1],by simp[i2]⟩
 |[],_::_,_,h=>h.elim
 |_::_,[],_,h=>h.elim
theorem DT {w:World}{ok:lU}{el:TypeId}{v:Value}{x:Sc} (h:EV P w ok el v x):∃ad n cap,v= .slice ad n cap:=by
 obtain⟨_,_,_,ad,n,cap,_,_,e,_⟩:=h;exact⟨ad,n,cap,e⟩
theorem ask {s:RS}{w:World}{ok:lU}{v:Value}{xs:aP}{us:dm}{l:aP} (hr:Ul P w ok s v xs us l) (nv nr q:Nat):(Ms P nv nr q s).2.2.1=nv+l.length:=by
 cases s with
 |c s=>obtain⟨_,_,hr⟩:=hr;simp only[Ms];rw[aeR,Ax hr]
 |t ss=>obtain⟨_,_,vs,_,hr⟩:=hr;simp only[Ms];rw[V8,(M2 hr).1]
 |o el=>obtain⟨rfl,_⟩:=hr;rfl
 |ot el ss=>obtain⟨_,_,vs,_,_,_,_,hr⟩:=hr;simp only[Ms];rw[V8,(M2 hr).1]
theorem alK {s:RS}{nv nr q:Nat}{v:Value}{xs:aP}{us:dm}{ys:aP}{ok:lU} (g:aX P B w0 σ c a w) (dI:∀p,ok p->fg B σ c p) (hy:∀i,i<ys.length->c.ρ.getD (nv+i) (.i 0)=ys.getD i (.i 0))
 (hr:Ul P w ok s v xs us ys) (hq:∀u,us=[u]->c.R q=some u) (hR:∀i,nr<=i->i<(Ms P nv nr q s).2.2.2->c.R i=none):
 ∃c',c'.β=c.β/\(∀i,i<nr\/(Ms P nv nr q s).2.2.2<=i->c'.R i=c.R i)/\(Ms P nv nr q s).1.rel c' v/\
  aX P B w0 {σ with rows:=aH σ.rows (Ms P nv nr q s).2.1} c' a w/\Ext σ {σ with rows:=aH σ.rows (Ms P nv nr q s).2.1} c c':=by
 cases s with
 |c s=>
  obtain⟨_,_,hr⟩:=hr
  exact OS (nv:=nv) (nr:=nr) g dI hy hr hR
 |t ss=>
  obtain⟨_,_,vs,rfl,hr⟩:=hr
  obtain⟨c',d1,d2,d3,d4,d5⟩:=RK (nv:=nv) (nr:=nr) g dI hy hr hR
  exact⟨c',d1,d2,⟨vs,rfl,d3⟩,d4,d5⟩
 |o el=>
  obtain⟨_,x,rfl,rfl,hr⟩:=hr
  exact⟨c,rfl,fun _ _=>rfl,⟨hq _ rfl,DT hr⟩,g,⟨.refl c,fun _ _ h=>h⟩⟩
 |ot el ss=>
  obtain⟨x,u,vs,rfl,rfl,rfl,ho,hr⟩:=hr
  obtain⟨c',d1,d2,d3,d4,d5⟩:=RK (nv:=nv) (nr:=nr) g dI hy hr hR
  exact⟨c',d1,d2,⟨u::vs,rfl,⟨d5.le.R _ _ (hq _ rfl),DT ho⟩,d3⟩,d4,d5⟩
end
end
section
open Go.RowKit
section
variable {P:Program}{B:mC}{w0:World}{σ:St}{c:Ct}{a:Act}{w w':World}{o:Oper}{rd:Rd}
def tT (P:Program) (w:World) (ok:lU):uE->dm->aP->Prop
 |[],[],[]=>True
 |el::fG,u::us,x::xs=>EV P w ok el u x/\tT P w ok fG us xs
 |_,_,_=>False
theorem yy {ok:lU}:∀{e1 e2:uE}{u1 u2:dm}{x1 x2:aP},tT P w ok e1 u1 x1->tT P w ok e2 u2 x2->tT P w ok (e1++e2) (u1++u2) (x1++x2)
 |[],_,[],_,[],_,_,h=>h
 |_::_,_,_::_,_,_::_,_,h,k=>⟨h.1,yy h.2 k⟩
 |[],_,_::_,_,_,_,h,_=>h.elim
 |[],_,[],_,_::_,_,h,_=>h.elim
 |_::_,_,[],_,_,_,h,_=>h.elim
 |_::_,_,_::_,_,[],_,h,_=>h.elim
theorem Gk {ok:lU}:∀{e:uE}{u:dm}{x:aP},tT P w ok e u x->u.length=e.length/\x.length=e.length
 |[],[],[],_=>⟨rfl,rfl⟩
 |_::_,_::_,_::_,h=>by obtain⟨i,j⟩:=Gk h.2;exact⟨by simp[i],by simp[j]⟩
 |[],_::_,_,h=>h.elim
 |[],[],_::_,h=>h.elim
 |_::_,[],_,h=>h.elim
 |_::_,_::_,[],h=>h.elim
theorem NZ {ok:lU}:∀{e:uE}{u:dm}{x:aP}{j:Nat}{el:TypeId},tT P w ok e u x->e[j]? =some el->∃v y,u[j]? =some v/\x[j]? =some y/\EV P w ok el v y
 |_::_,v::_,y::_,0,_,h,e=>by simp at e;subst e;exact⟨v,y,rfl,rfl,h.1⟩
 |_::_,_::_,_::_,j+1,_,h,e=>by simpa using NZ (j:=j) h.2 (by simpa using e)
 |[],_,_,_,_,_,e=>by simp at e
 |_::_,[],_,_,_,h,_=>h.elim
 |_::_,_::_,[],_,_,h,_=>h.elim
theorem N1 {ok:lU}:∀{fG:uE}{us:dm}{xs:aP} (nv nr:Nat) (l:List (Option Rw)) (r:Nat),tT P w ok fG us xs->
 (∃j el agg ks,r=nr+j/\fG[j]? =some el/\qg P el=some (agg,ks)/\(aH l (fu P nv nr fG)).getD r none=some ⟨el,ks,agg,.v (nv+j),true,none⟩)\/((r<nr\/nr+fG.length<=r)/\(aH l (fu P nv nr fG)).getD r none=l.getD r none)
 |[],[],[],nv,nr,l,r,_=> .inr ⟨Nat.lt_or_ge r nr,rfl⟩
 |el::fG,u::us,x::xs,nv,nr,l,r,h=>by
  obtain⟨agg,ks,D,ad,n,cap,hT,_⟩:=h.1
  have e:fu P nv nr (el::fG)=(nr,some ⟨el,ks,agg,.v nv,true,none⟩)::fu P (nv+1) (nr+1) fG:=by simp only[fu,hT];rfl
  rw[e]
  simp only[aH]
  rcases N1 (nv+1) (nr+1) (dH none l nr (some ⟨el,ks,agg,.v nv,true,none⟩)) r h.2 with⟨j,el',aqX,OL,h1,h2,h3,h4⟩|⟨h1,h2⟩
  ·exact .inl ⟨j+1,el',aqX,OL,by omega,by simpa using h2,h3,by rw[h4,show nv+1+j=nv+(j+1)by omega]⟩
  ·by_cases hr:r=nr
   ·subst hr
    exact .inl ⟨0,el,agg,ks,rfl,rfl,hT,by rw[h2,tU,if_pos rfl];rfl⟩
   ·refine .inr ⟨by simp;omega,?_⟩
    rw[h2,tU,if_neg hr]
 |[],_::_,_,_,_,_,_,h=>h.elim
 |[],[],_::_,_,_,_,_,h=>h.elim
 |_::_,[],_,_,_,_,_,h=>h.elim
 |_::_,_::_,[],_,_,_,_,h=>h.elim
theorem DU {ok:lU}:∀{fG:uE}{us:dm}{xs:aP} (nv nr i:Nat),tT P w ok fG us xs->(i∈(fu P nv nr fG).map (·.1)↔nr<=i/\i<nr+fG.length)
 |[],[],[],nv,nr,i,_=>by
  refine⟨fun h=>(by cases h),fun h=> ?_⟩
  have:=h.2
  simp at this;omega
 |el::fG,u::us,x::xs,nv,nr,i,h=>by
  obtain⟨agg,ks,D,ad,n,cap,hT,_⟩:=h.1
  have e:fu P nv nr (el::fG)=(nr,some ⟨el,ks,agg,.v nv,true,none⟩)::fu P (nv+1) (nr+1) fG:=by simp only[fu,hT];rfl
  rw[e,map_cons,mem_cons,DU (nv+1) (nr+1) i h.2]
  simp;omega
 |[],_::_,_,_,_,_,h=>h.elim
 |[],[],_::_,_,_,_,h=>h.elim
 |_::_,[],_,_,_,_,h=>h.elim
 |_::_,_::_,[],_,_,_,h=>h.elim
theorem V6:∀{us:dm},(us.filterMap dG).Nodup->∀{i j:Nat}{u v:Value}{p:Nat},us[i]? =some u->us[j]? =some v->dG u=some p->dG v=some p->i=j
 |[],_,_,_,_,_,_,h,_,_,_=>by simp at h
 |x::us,hd,i,j,u,v,p,h1,h2,h3,h4=>by
  rw[filterMap_cons]at hd
  have Pv:∀{k:Nat}{z:Value},us[k]? =some z->dG z=some p->p∈us.filterMap dG:=fun h h'=>mem_filterMap.2 ⟨_,mem_of_getElem? h,h'⟩
  cases i with
  |zero=>
   cases j with
   |zero=>rfl
   |succ j=>
    simp at h1 h2
    subst h1
    rw[h3]at hd
    exact((nodup_cons.1 hd).1 (Pv h2 h4)).elim
  |succ i=>
   cases j with
   |zero=>
    simp at h1 h2
    subst h2
    rw[h4]at hd
    exact((nodup_cons.1 hd).1 (Pv h1 h3)).elim
   |succ j=>
    simp at h1 h2
    congr 1
    refine V6 ?_ h1 h2 h3 h4
    cases hx:dG x with
    |none=>rw[hx]at hd;exact hd
    |some q=>rw[hx]at hd;exact(nodup_cons.1 hd).2
theorem sR:∀(r:List (Nat×Option Bk)) (l:List (Option Bk)) (p:Nat),(∀x∈r,x.1≠p)->(di l r).getD p none=l.getD p none
 |[],_,_,_=>rfl
 |(i,v)::r,l,p,h=>by
  rw[di,sR r _ p (fun x hx=>h x (mem_cons_of_mem _ hx)),je,if_neg (fun e=>h (i,v) (mem_cons_self ..) e.symm)]
theorem Gm:∀(r:eJ) (l:List (Option Rw)) (p:Nat),(∀x∈r,x.1≠p)->(aH l r).getD p none=l.getD p none
 |[],_,_,_=>rfl
 |(i,v)::r,l,p,h=>by
  rw[aH,Gm r _ p (fun x hx=>h x (mem_cons_of_mem _ hx)),je,if_neg (fun e=>h (i,v) (mem_cons_self ..) e.symm)]
theorem AL:∀(r:List (Nat×Option Bk)) (l:List (Option Bk)) (p:Nat),(∃x∈r,x.1=p)->∃v,(p,v)∈r/\(di l r).getD p none=v
 |[],_,_,⟨_,h,_⟩=>by cases h
 |(i,v)::r,l,p,h=>by
  by_cases hr:∃x∈r,x.1=p
  ·obtain⟨v',h1,h2⟩:=AL r (dH none l i v) p hr
   exact⟨v',mem_cons_of_mem _ h1,h2⟩
  ·have hp:p=i:=by
    obtain⟨x,hx,e⟩:=h
    rcases mem_cons.1 hx with rfl|hx
    ·exact e.symm
    ·exact(hr ⟨x,hx,e⟩).elim
   subst hp
   refine⟨v,mem_cons_self ..,?_⟩
   rw[di,sR r _ p (fun x hx e=>hr ⟨x,hx,e⟩),je,if_pos rfl]
theorem Ug:∀(rs:jl) (l:List (Option Rw)) (q:Nat) (k:Rw),(aH l (rs.map fun r=>(r,none))).getD q none=some k->q∉rs/\l.getD q none=some k
 |[],_,_,_,h=>⟨fun h=>(by cases h),h⟩
 |r::rs,l,q,k,h=>by
  obtain⟨h1,h2⟩:=Ug rs (dH none l r none) q k h
  rw[tU]at h2
  by_cases hq:q=r
  ·rw[if_pos hq]at h2;cases h2
  ·rw[if_neg hq]at h2
   exact⟨fun hm=>(mem_cons.1 hm).elim hq h1,h2⟩
theorem wF:∀{l:jl},WV l=true->l.Nodup
 |[],_=>nodup_nil
 |x::xs,h=>by
  simp only[WV,Bool.and_eq_true,Bool.not_eq_true']at h
  refine nodup_cons.2 ⟨fun hm=> ?_,wF h.2⟩
  have:oQ xs x=true:=by
   unfold oQ
   exact any_eq_true.2 ⟨x,hm,beq_refl x⟩
  rw[this]at h;cases h.1
def T5:H0->dm->dm
 | .ck _::ss,v::vs=>v::T5 ss vs
 |_::ss,_::vs=>T5 ss vs
 |_,_=>[]
theorem Et {ok:lU}{n:Nat}:∀{ss:H0}{c0 cs:dm}{xs:aP}{us:dm}{ys:aP},Es P w ok n ss c0 cs xs us ys->c0.length=ss.length/\cs.length=ss.length
 |[],[],[],_,_,_,_=>⟨rfl,rfl⟩
 | .rd _::ss,_::_,_::_,_,_,_,h=>by obtain⟨i,j⟩:=Et h.2;exact⟨by simp[i],by simp[j]⟩
 | .ck _::ss,_::_,_::_,_,_,_,⟨_,_,_,_,h⟩=>by obtain⟨i,j⟩:=Et h;exact⟨by simp[i],by simp[j]⟩
 | .own _::ss,_::_,_::_,_,_,_,⟨_,_,_,_,_,_,h⟩=>by obtain⟨i,j⟩:=Et h;exact⟨by simp[i],by simp[j]⟩
 | .sp::ss,_::_,_::_,_,_,_,h=>by obtain⟨i,j⟩:=Et h.2;exact⟨by simp[i],by simp[j]⟩
 |[],_::_,_,_,_,_,h=>h.elim
 |[],[],_::_,_,_,_,h=>h.elim
 | .rd _::_,[],_,_,_,_,h=>h.elim
 | .rd _::_,_::_,[],_,_,_,h=>h.elim
 | .ck _::_,[],_,_,_,_,h=>h.elim
 | .ck _::_,_::_,[],_,_,_,h=>h.elim
 | .own _::_,[],_,_,_,_,h=>h.elim
 | .own _::_,_::_,[],_,_,_,h=>h.elim
 | .sp::_,[],_,_,_,_,h=>h.elim
 | .sp::_,_::_,[],_,_,_,h=>h.elim
theorem GE {ok:lU}:∀{s1 s2:LAs}{v1 v2:dm}{l1 l2:aP},mD P w ok s1 v1 l1->mD P w ok s2 v2 l2->mD P w ok (s1++s2) (v1++v2) (l1++l2)
 |[],_,[],_,[],_,_,h=>h
 |_::_,_,_::_,_,_::_,_,h,k=>⟨h.1,GE h.2 k⟩
 |[],_,_::_,_,_,_,h,_=>h.elim
 |[],_,[],_,_::_,_,h,_=>h.elim
 |_::_,_,[],_,_,_,h,_=>h.elim
 |_::_,_,_::_,_,[],_,h,_=>h.elim
theorem xD {ok:lU}{n:Nat}:∀{ss:H0}{c0 cs:dm}{xs:aP}{us:dm}{ys:aP},Es P w ok n ss c0 cs xs us ys->
 tT P w ok (ss.filterMap PS.agz) us xs/\mD P w ok ((ss.filterMap PS.awK).map AS.ck) (T5 ss cs) ys
 |[],[],[],_,_,_,⟨rfl,rfl,rfl⟩=>⟨trivial,trivial⟩
 | .rd _::ss,_::_,_::_,_,_,_,h=>xD (ss:=ss) h.2
 | .ck _::ss,_::_,_::_,_,_,_,⟨_,_,rfl,h0,h⟩=>by obtain⟨i,j⟩:=xD h;exact⟨i,h0,j⟩
 | .own _::ss,_::_,_::_,_,_,_,⟨_,_,_,rfl,rfl,h0,h⟩=>by obtain⟨i,j⟩:=xD h;exact⟨⟨h0,i⟩,j⟩
 | .sp::ss,_::_,_::_,_,_,_,h=>xD (ss:=ss) h.2
 |[],_::_,_,_,_,_,h=>h.elim
 |[],[],_::_,_,_,_,h=>h.elim
 | .rd _::_,[],_,_,_,_,h=>h.elim
 | .rd _::_,_::_,[],_,_,_,h=>h.elim
 | .ck _::_,[],_,_,_,_,h=>h.elim
 | .ck _::_,_::_,[],_,_,_,h=>h.elim
 | .own _::_,[],_,_,_,_,h=>h.elim
 | .own _::_,_::_,[],_,_,_,h=>h.elim
 | .sp::_,[],_,_,_,_,h=>h.elim
 | .sp::_,_::_,[],_,_,_,h=>h.elim
theorem u0 {ok:lU}{n b:Nat} (hb:c.β b=some n):∀{ss:H0}{c0 cs:dm}{xs:aP}{us:dm}{ys:aP}{cells:qE}{Y:qE}{V:dm}{nr:Nat},Es P w ok n ss c0 cs xs us ys->fp c cells c0->
 (∀j u,us[j]? =some u->c.R (nr+j)=some u)->fp c Y (T5 ss cs++V)->fp c (dN true b nr ss cells Y).1 cs/\(dN true b nr ss cells Y).2.1=nr+us.length/\fp c (dN true b nr ss cells Y).2.2 V
 |[],[],[],_,_,_,cells,Y,V,nr,⟨rfl,rfl,rfl⟩,_,_,hY=>⟨trivial,rfl,hY⟩
 | .rd _::ss,v0::c0,v::cs,xs,us,ys,x::cells,Y,V,nr,h,hc,hR,hY=>by
   obtain⟨i,j,k⟩:=u0 hb h.2 hc.2 hR hY
   exact⟨⟨h.1▸hc.1,i⟩,j,k⟩
 | .ck _::ss,v0::c0,v::cs,_,_,_,x::cells,y::Y,V,nr,⟨_,_,rfl,_,h⟩,hc,hR,hY=>by
   obtain⟨i,j,k⟩:=u0 (V:=V) hb h hc.2 hR hY.2
   exact⟨⟨hY.1,i⟩,j,k⟩
 | .own _::ss,v0::c0,v::cs,_,_,_,x::cells,Y,V,nr,⟨_,_,us,rfl,rfl,ho,h⟩,hc,hR,hY=>by
   obtain⟨i,j,k⟩:=u0 (nr:=nr+1) hb h hc.2 (fun j u hj=>by have:=hR (j+1) u (by simpa using hj);rw[show nr+1+j=nr+(j+1)by omega];exact this) hY
   exact⟨⟨⟨by simpa using hR 0 v rfl,DT ho⟩,i⟩,by rw[show(dN true b nr (.own _::ss) (x::cells) Y).2.1=(dN true b (nr+1) ss cells Y).2.1 from rfl,j];simp;omega,k⟩
 | .sp::ss,v0::c0,v::cs,xs,us,ys,x::cells,Y,V,nr,h,hc,hR,hY=>by
   obtain⟨i,j,k⟩:=u0 hb h.2 hc.2 hR hY
   exact⟨⟨h.1.imp id fun e=>⟨n,hb,e⟩,i⟩,j,k⟩
 | .ck _::ss,v0::c0,v::cs,xs,us,ys,x::cells,[],V,nr,_,_,_,hY=>hY.elim
 |_::_,_::_,_::_,_,_,_,[],_,_,_,_,hc,_,_=>hc.elim
 |[],_::_,_,_,_,_,_,_,_,_,h,_,_,_=>h.elim
 |[],[],_::_,_,_,_,_,_,_,_,h,_,_,_=>h.elim
 | .rd _::_,[],_,_,_,_,_,_,_,_,h,_,_,_=>h.elim
 | .rd _::_,_::_,[],_,_,_,_,_,_,_,h,_,_,_=>h.elim
 | .ck _::_,[],_,_,_,_,_,_,_,_,h,_,_,_=>h.elim
 | .ck _::_,_::_,[],_,_,_,_,_,_,_,h,_,_,_=>h.elim
 | .own _::_,[],_,_,_,_,_,_,_,_,h,_,_,_=>h.elim
 | .own _::_,_::_,[],_,_,_,_,_,_,_,h,_,_,_=>h.elim
 | .sp::_,[],_,_,_,_,_,_,_,_,h,_,_,_=>h.elim
 | .sp::_,_::_,[],_,_,_,_,_,_,_,h,_,_,_=>h.elim
def NY:List (TypeId×H0)->List dm->dm
 |(_,ss)::ls,cs::css=>T5 ss cs++NY ls css
 |_,_=>[]
def Zi (w:World):List (TypeId×H0)->jl->List dm->Prop
 |[],[],[]=>True
 |(ty,_)::ls,n::ns,cs::css=>w.heap[n]? =some (.cells cs.toArray ty (0,0))/\Zi w ls ns css
 |_,_,_=>False
theorem A7 {ok:lU}:∀{ls:List (TypeId×H0)}{ns:jl}{xs:aP}{us:dm}{ys:aP},F4 P w w' ok ls ns xs us ys->
 tT P w' ok (oX ls) us xs/\∃css,Zi w' ls ns css/\mD P w' ok ((EU ls).map AS.ck) (NY ls css) ys
 |[],[],_,_,_,⟨rfl,rfl,rfl⟩=>⟨trivial,[],trivial,trivial⟩
 |(ty,ss)::ls,n::ns,_,_,_,⟨c0,cs,x1,x2,u1,u2,y1,y2,rfl,rfl,rfl,_,h2,h3,h4⟩=>by
  obtain⟨i,j⟩:=xD h3
  obtain⟨k,css,l,m⟩:=A7 h4
  exact⟨yy i k,cs::css,⟨h2,l⟩,by
   show mD P w' ok ((ss.filterMap PS.awK++EU ls).map AS.ck) _ _
   rw[map_append];exact GE j m⟩
 |[],_::_,_,_,_,h=>h.elim
 |_::_,[],_,_,_,h=>h.elim
theorem Aw {x y:dm}{ty ty':Nat} (h:(some (Obj.cells x.toArray ty (0,0)):Option Obj)=some (.cells y.toArray ty' (0,0))):x=y/\ty=ty':=by
 simp at h;exact h
theorem SI {ok:lU}{blk:Nat->Option Bk}:∀{ls:List (TypeId×H0)}{bs ns:jl}{xs:aP}{us:dm}{ys:aP}{css:List dm}{Y:qE}{V:dm}{nr:Nat},
 F4 P w w' ok ls ns xs us ys->bs.map c.β=ns.map some->(∀b∈bs,∃k n cs,blk b=some k/\c.β b=some n/\w.heap[n]? =some (.cells cs.toArray k.ty (0,0))/\fp c k.cells cs)->Zi w' ls ns css->(∀j u,us[j]? =some u->c.R (nr+j)=some u)->fp c Y (NY ls css++V)->
 (iy true blk nr ls bs Y).map (·.1)=bs/\∀b k2,(b,k2)∈iy true blk nr ls bs Y->∃k n cs,k2=some k/\k.kd=0/\c.β b=some n/\w'.heap[n]? =some (.cells cs.toArray k.ty (0,0))/\fp c k.cells cs
 |[],[],[],_,_,_,css,Y,V,nr,_,_,_,_,_,_=>⟨rfl,fun b k2 h=>by cases h⟩
 |(ty,ss)::ls,b::bs,n::ns,_,_,_,cs::css,Y,V,nr,⟨c0,R0,x1,x2,u1,u2,y1,y2,rfl,rfl,rfl,h1,h2,h3,h4⟩,hn,hbk,hc,hR,hY=>by
  simp only[map_cons,List.cons.injEq]at hn
  obtain⟨k,n',c0',hk,e1,e2,e3⟩:=hbk b (mem_cons_self ..)
  rw[hn.1]at e1;cases e1
  rw[h1]at e2
  obtain⟨rfl,Z9⟩:=Aw e2
  have e4:=hc.1
  rw[h2]at e4
  obtain⟨rfl,_⟩:=Aw e4
  simp only[NY,append_assoc]at hY
  obtain⟨i,j,l⟩:=u0 (V:=NY ls css++V) hn.1 h3 e3 (fun j u hj=>hR j u (by rw[getElem?_append_left (List.getElem?_eq_some_iff.1 hj).1];exact hj)) hY
  obtain⟨p,q⟩:=SI (nr:=nr+u1.length) h4 hn.2 (fun b hb=>hbk b (mem_cons_of_mem _ hb)) hc.2 (fun j u hj=>by
   have:=hR (u1.length+j) u (by rw[getElem?_append_right (by omega),Nat.add_sub_cancel_left];exact hj)
   rw[Nat.add_assoc];exact this) l
  have hB:iy true blk nr ((ty,ss)::ls) (b::bs) Y=(b,some ⟨(dN true b nr ss k.cells Y).1,ty,0⟩)::iy true blk (nr+u1.length) ls bs (dN true b nr ss k.cells Y).2.2:=by
   simp only[iy,hk,j]
  rw[hB]
  refine⟨by rw[map_cons,p],fun b' k2 hm=> ?_⟩
  rcases mem_cons.1 hm with e|hm
  ·cases e
   exact⟨_,n,_,rfl,rfl,hn.1,h2,i⟩
  ·exact q b' k2 hm
 |[],[],_::_,_,_,_,_,_,_,_,h,_,_,_,_,_=>h.elim
 |[],_::_,[],_,_,_,_,_,_,_,_,hn,_,_,_,_=>by simp at hn
 |[],_::_,_::_,_,_,_,_,_,_,_,h,_,_,_,_,_=>h.elim
 |_::_,_,[],_,_,_,_,_,_,_,h,_,_,_,_,_=>h.elim
 |_::_,[],_::_,_,_,_,_,_,_,_,_,hn,_,_,_,_=>by simp at hn
 |_::_,_::_,_::_,_,_,_,[],_,_,_,_,_,_,hc,_,_=>hc.elim
theorem SN {ok:lU}{blk:Nat->Option Bk}:∀{ls:List (TypeId×H0)}{bs ns:jl}{xs:aP}{us:dm}{ys:aP},F4 P w w' ok ls ns xs us ys->bs.map c.β=ns.map some->
 (∀b∈bs,∃(k:Bk) (n:Nat) (cs:dm),blk b=some k/\c.β b=some n/\w.heap[n]? =some (.cells cs.toArray k.ty (0,0))/\fp c k.cells cs)->
 ∀b∈bs,∃(k:Bk) (n:Nat) (cs:dm),blk b=some k/\c.β b=some n/\n∈ns/\w'.heap[n]? =some (.cells cs.toArray k.ty (0,0))/\cs.length=k.cells.length
 |[],[],[],_,_,_,_,_,_,b,hb=>by cases hb
 |(ty,ss)::ls,b::bs,n::ns,_,_,_,⟨c0,R0,x1,x2,u1,u2,y1,y2,rfl,rfl,rfl,h1,h2,h3,h4⟩,hn,hbk,b',Ml=>by
  simp only[map_cons,List.cons.injEq]at hn
  rcases mem_cons.1 Ml with rfl|Ml
  ·obtain⟨k,n',c0',hk,e1,e2,e3⟩:=hbk b' (mem_cons_self ..)
   rw[hn.1]at e1;cases e1
   rw[h1]at e2
   obtain⟨rfl,Z9⟩:=Aw e2
   obtain⟨l1,l2⟩:=Et h3
   exact⟨k,n,R0,hk,hn.1,mem_cons_self ..,by rw[h2,Z9],by rw[l2,<-l1,vo e3]⟩
  ·obtain⟨k,n',cs,q1,q2,q3,q4⟩:=SN h4 hn.2 (fun b hb=>hbk b (mem_cons_of_mem _ hb)) b' Ml
   exact⟨k,n',cs,q1,q2,mem_cons_of_mem _ q3,q4⟩
 |[],[],_::_,_,_,_,h,_,_,_,_=>h.elim
 |[],_::_,[],_,_,_,_,hn,_,_,_=>by simp at hn
 |[],_::_,_::_,_,_,_,h,_,_,_,_=>h.elim
 |_::_,_,[],_,_,_,h,_,_,_,_=>h.elim
 |_::_,[],_::_,_,_,_,_,hn,_,_,_=>by simp at hn
theorem alO {ok:lU}{s:RS}{v:Value}{xs:aP}{us:dm}{l:aP} (h:Ul P w ok s v xs us l):tT P w ok s.agz us xs:=by
 cases s with
 |c s=>obtain⟨rfl,rfl,_⟩:=h;trivial
 |t ss=>obtain⟨rfl,rfl,_⟩:=h;trivial
 |o el=>obtain⟨_,x,rfl,rfl,h⟩:=h;exact⟨h,trivial⟩
 |ot el ss=>obtain⟨x,u,vs,rfl,rfl,_,h,_⟩:=h;exact⟨h,trivial⟩
end
end
section
open Go.RowKit
section
variable {P:Program}{B:mC}{w0:World}{σ:St}{c:Ct}{a:Act}{w w':World}{o:Oper}{rd:Rd}
theorem W2 {gg:Nat}{xs:List SV}:∀{am3:nw}{dr:nK}{es:mA}{fr:eJ}{bs:jl}{l:uF},Nu P rd gg xs am3=some (dr,es,fr,bs,l)->
 dr∈am3/\dr.f=gg/\SH P rd.row dr.args xs=some (es,fr,bs)/\nd P rd.row rd.blk (fS dr.args) bs=some l
 |[],_,_,_,_,_,h=>by simp[Nu]at h
 |x::am3,dr,es,fr,bs,l,h=>by
  unfold Nu at h
  have ih:Nu P rd gg xs am3=some (dr,es,fr,bs,l)->dr∈x::am3/\dr.f=gg/\SH P rd.row dr.args xs=some (es,fr,bs)/\nd P rd.row rd.blk (fS dr.args) bs=some l:=fun h=>by
   obtain⟨i,j⟩:=W2 h
   exact⟨mem_cons_of_mem _ i,j⟩
  split at h
  ·rename_i hf
   split at h
   ·split at h
    ·rename_i h1 _ _ h2
     cases h
     exact⟨mem_cons_self ..,eq_of_beq_eq_true hf,h1,h2⟩
    ·exact ih h
   ·exact ih h
  ·exact ih h
theorem TQ {row:tB}{blk:Nat->Option Bk}:∀{ls:List (TypeId×H0)}{bs:jl}{l:uF},nd P row blk ls bs=some l->∀b∈bs,∃k,blk b=some k/\k.kd=0
 |[],[],_,_,b,hb=>by cases hb
 |(ty,ss)::ls,b::bs,l,h,b',Ml=>by
  simp only[nd]at h
  split at h
  ·rename_i k hk
   split at h
   ·rename_i hc
    simp only[Bool.and_eq_true]at hc
    split at h
    ·rename_i h1 h2
     rcases mem_cons.1 Ml with rfl|Ml
     ·exact⟨k,hk,eq_of_beq_eq_true hc.2⟩
     ·exact TQ h2 b' Ml
    ·cases h
   ·cases h
  ·cases h
 |[],_::_,_,h,_,_=>by simp[nd]at h
 |_::_,[],_,_,_,hb=>by cases hb
theorem aeI:∀{bs ns:jl},bs.map c.β=ns.map some->∀p∈ns,∃b∈bs,c.β b=some p
 |[],[],_,p,hp=>by cases hp
 |b::bs,n::ns,h,p,hp=>by
  simp only[map_cons,List.cons.injEq]at h
  rcases mem_cons.1 hp with rfl|hp
  ·exact⟨b,mem_cons_self ..,h.1⟩
  ·obtain⟨b',h1,h2⟩:=aeI h.2 p hp
   exact⟨b',mem_cons_of_mem _ h1,h2⟩
 |[],_::_,h,_,_=>by simp at h
 |_::_,[],h,_,_=>by simp at h
theorem agv (g:aX P B w0 σ c a w):∀{bs ns:jl},bs.map c.β=ns.map some->bs.Nodup->(∀b∈bs,∃k,σ.blk b=some k)->ns.Nodup
 |[],[],_,_,_=>nodup_nil
 |b::bs,n::ns,h,hd,hb=>by
  simp only[map_cons,List.cons.injEq]at h
  rw[nodup_cons]at hd
  refine nodup_cons.2 ⟨fun hm=> ?_,agv g h.2 hd.2 (fun b Ml=>hb b (mem_cons_of_mem _ Ml))⟩
  obtain⟨b',h1,h2⟩:=aeI h.2 n hm
  have:=g.apart (false,b') (false,b) n ⟨hb b' (mem_cons_of_mem _ h1),h2⟩ ⟨hb b (mem_cons_self ..),h.1⟩
  cases this
  exact hd.1 h1
 |[],_::_,h,_,_=>by simp at h
 |_::_,[],h,_,_=>by simp at h
theorem akl:∀(xs:qE) (vs:dm),vs.length=xs.length->fp c (xs.map fun _=>At.top) vs
 |[],[],_=>trivial
 |_::xs,_::vs,h=>⟨trivial,akl xs vs (by simpa using h)⟩
 |[],_::_,h=>by simp at h
 |_::_,[],h=>by simp at h
theorem YR.mono {f:FuncId}{vs:Array Value}{R R':Value->World->Prop} (h:YR P f vs w R) (hr:∀v w',R v w'->R' v w'):YR P f vs w R':=by
 rcases h with⟨h1,h2⟩|⟨v,w',h1,h2⟩
 ·exact .inl ⟨h1,h2.mono fun e w' ⟨v,e1,e2⟩=>⟨v,e1,hr v w' e2⟩⟩
 ·exact .inr ⟨v,w',h1,hr v w' h2⟩
theorem ahM (g:aX P B w0 σ c a w) (gY:MV σ c a rd){cons:nw}{Γ:Nat->fF} (hΓ:∀dr∈cons,∀w,rM B.n B.X w0 w->dr.Yw P (Γ dr.key) B.lim w)
 {gg:Nat}{xs:List SV}{r:il} (h:J0 P cons rd gg xs=some r){f:Nat}{es:mA}{n:Nat} (hc:r.call=some (f,es,n)){rs:aP} (hF:Γ f (es.map (Ex.ev c.ρ))=some rs) (hρ:∀i,i<rs.length->c.ρ.getD (rd.nv+i) (.i 0)=rs.getD i (.i 0))
 (hR:∀i,i∈r.nr->c.R i=none){vs:dm} (hxl:xs.length=vs.length) (TI:∀i (h1:i<xs.length) (h2:i<vs.length),(xs[i]).rel c (vs[i])):
 YR P gg vs.toArray w fun v w'=>∃c',c.le c'/\c'.β=c.β/\(∀i,i∉r.nr->c'.R i=c.R i)/\r.val.rel c' v/\aX P B w0 {σ with aO:=di σ.aO r.aO,rows:=aH σ.rows r.rows} c' a w':=by
 unfold J0 at h
 split at h
 rotate_left
 ·cases h
 rename_i dr es0 fr bs l vX
 split at h
 rotate_left
 ·cases h
 rename_i jV
 simp only[Bool.and_eq_true,all_eq_true]at jV
 obtain⟨⟨hdb,hdr⟩,hnf⟩:=jV
 have hdb:=wF hdb
 have hdr:=wF hdr
 simp only[Option.some.injEq]at h
 subst h
 simp only[Option.some.injEq,Prod.mk.injEq]at hc
 obtain⟨rfl,rfl,_⟩:=hc
 obtain⟨Pv,hcf,hav,anY⟩:=W2 vX
 have aDb:=hΓ dr Pv w g.below
 obtain⟨g1,hFz⟩:=AA g gY.row ((ajr hav).append (aak anY))
 obtain⟨ns,aC0,hns⟩:=acs g1 hav hFz.left (vs:=vs) hxl TI
 have arP:∀r∈l.rs,∀k,rd.row r=some k->St.row {σ with rows:=aH σ.rows (fr++l.fr)} r=some k:=fun r hr k hk=>by
  show(aH σ.rows (fr++l.fr)).getD r none=some k
  rw[Gm _ _ _ (fun x hx e=>by
   have:=hnf r hr x hx
   rw[e,beq_refl]at this;cases this)]
  exact gY.row _ _ hk
 obtain⟨us,HU,ME,hfm,hro⟩:=TR g1 (fun b k hb=>gY.blk b k hb) anY hns hFz.right arP
 have hbk:∀b∈bs,∃k,σ.blk b=some k/\rd.blk b=some k/\k.kd=0:=fun b hb=>by
  obtain⟨k,h1,h2⟩:=TQ anY b hb
  exact⟨k,gY.blk b k h1,h1,h2⟩
 generalize aAi:({σ with rows:=aH σ.rows (fr++l.fr)}:St)=σ1 at*
 have hb1:σ1.aO=σ.aO:=by rw[<-aAi]
 have anH:∀p,σ1.blk p=σ.blk p:=fun p=>by unfold St.blk;rw[hb1]
 have Hn:∀p∈eH ns us,∃x:Bool×Nat,((x.1=false/\x.2∈bs)\/(x.1=true/\x.2∈l.rs))/\σ1.owns c x p:=fun p hp=>by
  rcases mem_append.1 hp with hp|hp
  ·obtain⟨b,h1,h2⟩:=aeI hns p hp
   obtain⟨k,h3,_⟩:=hbk b h1
   exact⟨(false,b),.inl ⟨rfl,h1⟩,⟨k,by rw[anH];exact h3⟩,h2⟩
  ·rw[hfm]at hp
   obtain⟨r,h1,h2⟩:=wc hro p hp
   exact⟨(true,r),.inr ⟨rfl,h1⟩,h2⟩
 have aDH:(eH ns us).Nodup:=by
  unfold eH
  rw[hfm]
  refine nodup_append.2 ⟨agv g1 hns hdb (fun b hb=>by obtain⟨k,h1,_⟩:=hbk b hb;exact⟨k,by rw[anH];exact h1⟩),KU g1 hro hdr,fun x hx y hy e=> ?_⟩
  subst e
  obtain⟨b,h1,h2⟩:=aeI hns x hx
  obtain⟨k,h3,_⟩:=hbk b h1
  obtain⟨r,h4,h5⟩:=wc hro x hy
  have:=g1.apart (false,b) (true,r) x ⟨⟨k,by rw[anH];exact h3⟩,h2⟩ h5
  cases this
 have aek:∀p∈eH ns us,B.lim<=p/\p<w.heap.size/\¬fg B σ1 c p:=fun p hp=>by
  obtain⟨x,_,hx⟩:=Hn p hp
  have:=g1.sI hx
  refine⟨?_,this.2,fun h=>h.1 x hx⟩
  rcases this.1 with h|h
  ·exact Nat.le_trans B.hn h
  ·exact B.hX p h
 have Z0:=aDb _ vs ns _ us _ _ rs aC0 ME aDH aek (by rw[<-map_append,<-map_append];exact hF)
 rw[hcf]at Z0
 refine Z0.mono ?_
 rintro v w' ⟨aC2,x1,x2,rr,ys',u1,u2,Yx,hnd,Cz,an5,af6⟩
 have cv:=yy (A7 an5).1 (alO af6)
 obtain⟨_,css,aDd,az6⟩:=A7 an5
 have hlen:=Gk cv
 generalize arE:oX (fS dr.args)++dr.res.agz=fG at*
 generalize hU:u1++u2=U at*
 generalize hX:x1++x2=X at*
 obtain⟨hUl,hXl⟩:=hlen
 simp only[]at hR
 have af1:∀i,rd.nr<=i->i<rd.nr+fG.length->c.R i=none:=fun i h1 h2=>hR i (by
  rw[map_append,map_append]
  exact mem_append_left _ (mem_append_left _ ((DU rd.nv rd.nr i cv).2 ⟨h1,h2⟩)))
 let c2:Ct:={c with R:=fun i=>if rd.nr<=i/\i<rd.nr+fG.length then U[i-rd.nr]? else c.R i}
 have X6:c.le c2:=⟨rfl,rfl,fun _ _ e=>e,fun i u e=>by
  show(if rd.nr<=i/\i<rd.nr+fG.length then U[i-rd.nr]? else c.R i)=some u
  rw[if_neg (fun h=>by rw[af1 i h.1 h.2]at e;cases e)];exact e⟩
 have hR2:∀i,¬(rd.nr<=i/\i<rd.nr+fG.length)->c2.R i=c.R i:=fun i h=>if_neg h
 have hRU:∀j u,U[j]? =some u->c2.R (rd.nr+j)=some u:=fun j u h=>by
  have hj:=(List.getElem?_eq_some_iff.1 h).1
  show(if rd.nr<=rd.nr+j/\rd.nr+j<rd.nr+fG.length then U[rd.nr+j-rd.nr]? else c.R (rd.nr+j))=some u
  rw[if_pos (by omega),Nat.add_sub_cancel_left];exact h
 let Wn:List (Nat×Option Bk):=bs.map fun b=>(b,(rd.blk b).map fun k=>⟨k.cells.map fun _=>At.top,k.ty,0⟩)
 let σ2:St:={σ1 with aO:=di σ1.aO Wn,rows:=aH (aH σ1.rows (l.rs.map fun r=>(r,none))) (fu P rd.nv rd.nr fG)}
 have ajW:∀p,(∃x∈Wn,x.1=p)↔p∈bs:=fun p=>by
  constructor
  ·rintro⟨x,hx,rfl⟩
   obtain⟨b,hb,rfl⟩:=mem_map.1 hx
   exact hb
  ·intro h
   exact⟨_,mem_map_of_mem h,rfl⟩
 have auc:∀b∈bs,∃k n cs,rd.blk b=some k/\c.β b=some n/\w.heap[n]? =some (.cells cs.toArray k.ty (0,0))/\fp c k.cells cs:=fun b hb=>by
  obtain⟨k,h1,h2,h3⟩:=hbk b hb
  obtain⟨n,cs,e,_,q2,q3⟩:=g.aO b k h1
  rw[dY h3]at q2
  exact⟨k,n,cs,h2,e,q2,q3⟩
 have ajX:=SN an5 hns auc
 have atZ:∀p k,σ2.blk p=some k->(σ1.blk p=some k/\p∉bs)\/(p∈bs/\∃n cs,c.β p=some n/\n∈ns/\w'.heap[n]? =some (wX k cs)/\fp c2 k.cells cs):=fun p k hk=>by
  have hk:(di σ1.aO Wn).getD p none=some k:=hk
  by_cases hp:p∈bs
  ·obtain⟨v',h1,h2⟩:=AL Wn σ1.aO p ((ajW p).2 hp)
   rw[h2]at hk
   subst hk
   obtain⟨b,hb,e⟩:=mem_map.1 h1
   simp only[Prod.mk.injEq]at e
   obtain⟨rfl,e⟩:=e
   obtain⟨kk,n,cs,q1,q2,q3,q4,q5⟩:=ajX b hb
   rw[q1]at e
   simp only[Option.map_some,Option.some.injEq]at e
   subst e
   exact .inr ⟨hb,n,cs,q2,q3,by rw[dY rfl];exact q4,akl _ _ q5⟩
  ·rw[sR Wn _ p (fun x hx e=>hp ((ajW p).1 ⟨x,hx,e⟩))]at hk
   exact .inl ⟨hk,hp⟩
 have Z7:∀r k,σ2.row r=some k->(σ1.row r=some k/\r∉l.rs/\¬(rd.nr<=r/\r<rd.nr+fG.length))\/
  (k.own=true/\k.hole=none/\∃j u,r=rd.nr+j/\U[j]? =some u/\∃D ad n cap,u= .slice ad n cap/\(k.cont.ev c2.ρ).er= .l (mS D)/\D.length=n/\n<=cap/\cap<=maxLen/\(cap=0\/w'.ownsRow 0 k.el k.ks.length (.slice ad n cap) n (aE k.agg k.ks D))/\∀x∈D,lW P w' (okX w.heap.size (fg B σ1 c) (eH ns us) (eH ns U)) k.agg k.ks x):=fun r k hk=>by
  have hk:(aH (aH σ1.rows (l.rs.map fun r=>(r,none))) (fu P rd.nv rd.nr fG)).getD r none=some k:=hk
  rcases N1 rd.nv rd.nr (aH σ1.rows (l.rs.map fun r=>(r,none))) r cv with⟨j,el,agg,ks,rfl,h2,h3,h4⟩|⟨h1,h2⟩
  ·rw[h4]at hk
   cases hk
   obtain⟨u,y,q1,q2,aqX,OL,D,ad,n,cap,p1,p2,rfl,p4,p5,p6,p7,p8,p9⟩:=NZ cv h2
   rw[h3]at p1;cases p1
   refine .inr ⟨rfl,rfl,j,_,rfl,q1,D,ad,n,cap,rfl,?_,p5,p6,p7,p8,p9⟩
   show(c.ρ.getD (rd.nv+j) (.i 0)).er=_
   have hjX:=(List.getElem?_eq_some_iff.1 q2).1
   rw[hρ j (by rw[Yx];simp;omega),Yx,bj _ _ _ _ hjX,getD_eq_getElem?_getD,q2]
   exact p4
  ·rw[h2]at hk
   obtain⟨q1,q2⟩:=Ug _ _ _ _ hk
   exact .inl ⟨q2,q1,by omega⟩
 have av1:∀x p,σ2.owns c2 x p->(σ1.owns c x p/\¬((x.1=false/\x.2∈bs)\/(x.1=true/\x.2∈l.rs)))\/p∈eH ns U:=by
  rintro⟨t,q⟩ p h
  cases t
  ·obtain⟨⟨k,hk⟩,e⟩:=h
   rcases atZ q k hk with⟨h1,h2⟩|⟨h1,n,cs,h2,h3,_⟩
   ·exact .inl ⟨⟨⟨k,h1⟩,e⟩,by simp[h2]⟩
   ·have e:c.β q=some p:=e
    rw[h2]at e;cases e
    exact .inr (mem_append_left _ h3)
  ·obtain⟨⟨k,hk,ho⟩,v',hv',hp⟩:=h
   rcases Z7 q k hk with⟨h1,h2,h3⟩|⟨_,_,j,u,rfl,hu,_⟩
   ·rw[hR2 q h3]at hv'
    exact .inl ⟨⟨⟨k,h1,ho⟩,v',hv',hp⟩,by simp[h2]⟩
   ·rw[hRU j u hu]at hv';cases hv'
    exact .inr (mem_append_right _ (mem_filterMap.2 ⟨_,mem_of_getElem? hu,hp⟩))
 have an4:∀p,okX w.heap.size (fg B σ1 c) (eH ns us) (eH ns U) p->fg B σ2 c2 p:=fun p hp=>by
  refine⟨fun x hx=> ?_,?_⟩
  ·rcases av1 x p hx with⟨h1,h2⟩|h
   ·rcases hp.1 with h|h|h
    ·have:=(g1.sI h1).2;omega
    ·exact h.1 x h1
    ·obtain⟨y,hy1,hy2⟩:=Hn p h
     have:=g1.apart x y p h1 hy2
     subst this
     exact h2 hy1
   ·exact hp.2 h
  ·rcases hp.1 with h|h|h
   ·exact .inl (Nat.le_trans g1.hB h)
   ·exact h.2
   ·obtain⟨y,_,hy2⟩:=Hn p h
    rcases(g1.sI hy2).1 with h|h
    ·exact .inl h
    ·exact .inr (.inr h)
 have hnB:∀p∈eH ns U,B.n<=p\/B.X p:=fun p hp=>by
  rcases Cz p hp with h|h
  ·obtain⟨y,_,hy2⟩:=Hn p h
   exact(g1.sI hy2).1
  ·exact .inl (Nat.le_trans g1.hB h)
 have ael:=nodup_append.1 hnd
 have g2:aX P B w0 σ2 c2 a w':=by
  refine g1.aus (σ2:=σ2) (c2:=c2) (fun p=>p∈eH ns us) aC2 (fun p hp _=>by
   obtain⟨y,_,hy2⟩:=Hn p hp
   exact(g1.sI hy2).1) (fun x p=>(x.1=false/\x.2∈bs/\c.β x.2=some p/\p∈ns)\/(∃j u,x=(true,rd.nr+j)/\U[j]? =some u/\dG u=some p)) (fun x=>¬((x.1=false/\x.2∈bs)\/(x.1=true/\x.2∈l.rs))) ?_ ?_ ?_ ?_ X6 rfl ?_ (ok':=okX w.heap.size (fg B σ1 c) (eH ns us) (eH ns U)) ?_ (fun p hp=>⟨fun x hx=>(an4 p hp).1 x hx,(an4 p hp).2⟩) (fun p hp _ hk=>by
    obtain⟨y,_,hy2⟩:=Hn p hp
    exact hk.1 y hy2)
  ·rintro x y p (⟨a1,a2,a3,a4⟩|⟨j,u,rfl,hu,hp⟩) (⟨b1,b2,b3,b4⟩|⟨j',u',rfl,hu',LN⟩)
   ·obtain⟨k,h1,_⟩:=hbk x.2 a2
    obtain⟨k',W6,_⟩:=hbk y.2 b2
    obtain⟨t,q⟩:=x
    obtain⟨t',q'⟩:=y
    simp only at a1 b1
    subst a1;subst b1
    exact g.apart (false,q) (false,q') p ⟨⟨k,h1⟩,a3⟩ ⟨⟨k',W6⟩,b3⟩
   ·exact(ael.2.2 p a4 p (mem_filterMap.2 ⟨u',mem_of_getElem? hu',LN⟩) rfl).elim
   ·exact(ael.2.2 p b4 p (mem_filterMap.2 ⟨u,mem_of_getElem? hu,hp⟩) rfl).elim
   ·rw[V6 ael.2.1 hu hu' hp LN]
  ·rintro x p (⟨a1,a2,a3,a4⟩|⟨j,u,rfl,hu,hp⟩)
   ·exact .inl (mem_append_left _ a4)
   ·exact Cz p (mem_append_right _ (mem_filterMap.2 ⟨u,mem_of_getElem? hu,hp⟩))
  ·rintro x p (⟨a1,a2,a3,a4⟩|⟨j,u,rfl,hu,hp⟩)
   ·exact hnB p (mem_append_left _ a4)
   ·exact hnB p (mem_append_right _ (mem_filterMap.2 ⟨u,mem_of_getElem? hu,hp⟩))
  ·intro x p hx h1 hp
   obtain⟨y,hy1,hy2⟩:=Hn p hp
   have:=g1.apart x y p h1 hy2
   subst this
   exact hx hy1
  ·intro p k hk
   rcases atZ p k hk with⟨h1,h2⟩|⟨h1,n,cs,h2,h3,h4,h5⟩
   ·exact .inl ⟨h1,by simp[h2],rfl⟩
   ·exact .inr ⟨n,cs,h2,.inl ⟨rfl,h1,h2,h3⟩,h4,h5⟩
  ·intro r k hk
   rcases Z7 r k hk with⟨h1,h2,h3⟩|⟨h1,h2,j,u,rfl,hu,D,ad,n,cap,rfl,h3,h4,h5,h6,h7,h8⟩
   ·exact .inl ⟨h1,fun _=>by simp[h2],hR2 r h3⟩
   ·exact .inr ⟨h1,h2,D,ad,n,cap,hRU j _ hu,h3,h4,h5,h6,h7,fun p hp=> .inr ⟨j,_,rfl,hu,hp⟩,h8⟩
 have hrl:rs.length=fG.length+(rr.length+ys'.length):=by rw[Yx];simp[hXl]
 have hr1:=alJ (P:=P) dr.res (rd.nv+fG.length) (rd.nr+fG.length) (rd.nr+(oX (fS dr.args)).length)
 have Z4:=v6 (P:=P) (fw (Ms P (rd.nv+fG.length) (rd.nr+fG.length) (rd.nr+(oX (fS dr.args)).length) dr.res).2.2.1 ((EU (fS dr.args)).map AS.ck)) (Ms P (rd.nv+fG.length) (rd.nr+fG.length) (rd.nr+(oX (fS dr.args)).length) dr.res).2.2.2
 have hnv:=ask af6 (rd.nv+fG.length) (rd.nr+fG.length) (rd.nr+(oX (fS dr.args)).length)
 have aD7:u1.length=(oX (fS dr.args)).length:=by
  obtain⟨p1,_⟩:=A7 an5
  exact(Gk p1).1
 obtain⟨c3,d1,d2,d3,g3,d5⟩:=alK (nv:=rd.nv+fG.length) (nr:=rd.nr+fG.length) (q:=rd.nr+(oX (fS dr.args)).length) g2 an4 (fun i hi=>by
  show c.ρ.getD (rd.nv+fG.length+i) (.i 0)=_
  rw[Nat.add_assoc,hρ (fG.length+i) (by omega),Yx,getD_eq_getElem?_getD,getElem?_append_right (by omega),hXl,Nat.add_sub_cancel_left,getElem?_append_left hi,<-getD_eq_getElem?_getD]) af6 (fun u hu=>by
  refine hRU _ u ?_
  rw[<-hU,hu,<-aD7,getElem?_append_right (Nat.le_refl _),Nat.sub_self];rfl) (fun i h1 h2=>by
  rw[hR2 i (by omega)]
  exact hR i (by
   rw[map_append,map_append]
   exact mem_append_left _ (mem_append_right _ ((hr1.2 i).2 ⟨h1,h2⟩))))
 generalize aFY:Ms P (rd.nv+fG.length) (rd.nr+fG.length) (rd.nr+(oX (fS dr.args)).length) dr.res=RR at*
 obtain⟨vv,rs',nv1,OP⟩:=RR
 simp only at hr1 Z4 hnv d2 d3 g3 d5 hR⊢
 obtain⟨c4,f1,f2,f3,g4,f5⟩:=ET (nr:=OP) (ps:=fw nv1 ((EU (fS dr.args)).map AS.ck)) (ok:=okX w.heap.size (fg B σ1 c) (eH ns us) (eH ns U)) g3
  (fun p hp=>⟨fun x hx=>(an4 p hp).1 x (d5.owns x p hx),by rw[d5.le.K];exact(an4 p hp).2⟩) (DY (nv:=nv1) (fun i hi=>by
    rw[d5.le.ρ]
    show c.ρ.getD (nv1+i) (.i 0)=_
    rw[hnv,Nat.add_assoc,Nat.add_assoc,hρ (fG.length+(rr.length+i)) (by omega),Yx,getD_eq_getElem?_getD,getElem?_append_right (by omega),hXl,Nat.add_sub_cancel_left,getElem?_append_right (by omega),Nat.add_sub_cancel_left,<-getD_eq_getElem?_getD]) az6) (fun i h1 h2=>by
    have aDU:=hr1.1
    rw[d2 i (.inr h1),hR2 i (by omega)]
    exact hR i (by
     rw[map_append]
     exact mem_append_right _ ((Z4.2 i).2 ⟨h1,h2⟩)))
 have aoo:c4.β=c.β:=f1.trans d1
 have azS:c.le c4:=X6.trans (d5.le.trans f5.le)
 obtain⟨e1,e2⟩:=SI (c:=c4) (w:=w) (w':=w') (blk:=rd.blk) (V:=[]) (nr:=rd.nr) an5 (by rw[aoo];exact hns) (fun b hb=>by
  obtain⟨k,n,cs,q1,q2,q3,q4⟩:=auc b hb
  exact⟨k,n,cs,q1,by rw[aoo];exact q2,q3,yG azS q4⟩) aDd (fun j u hj=>(d5.le.trans f5.le).R _ _ (hRU j u (by rw[<-hU,getElem?_append_left (List.getElem?_eq_some_iff.1 hj).1];exact hj))) (by rw[append_nil];exact f3)
 have g5:=g4.akh (σ2:={σ2 with aO:=di σ.aO (iy true rd.blk rd.nr (fS dr.args) bs (lO P OP (fw nv1 ((EU (fS dr.args)).map AS.ck))).1),rows:=aH (aH σ2.rows rs') (lO P OP (fw nv1 ((EU (fS dr.args)).map AS.ck))).2.1}) rfl (fun _=>rfl) (fun p k2 pJ=>by
  have pJ:(di σ.aO (iy true rd.blk rd.nr (fS dr.args) bs (lO P OP (fw nv1 ((EU (fS dr.args)).map AS.ck))).1)).getD p none=some k2:=pJ
  by_cases hp:p∈bs
  ·obtain⟨v',h1,h2⟩:=AL (iy true rd.blk rd.nr (fS dr.args) bs (lO P OP (fw nv1 ((EU (fS dr.args)).map AS.ck))).1) σ.aO p (by
    rw[<-e1]at hp
    obtain⟨x,hx,e⟩:=mem_map.1 hp
    exact⟨x,hx,e⟩)
   rw[h2]at pJ
   subst pJ
   obtain⟨k,n,cs,q1,q2,q3,q4,q5⟩:=e2 p _ h1
   cases q1
   obtain⟨v2,z1,z2⟩:=AL Wn σ1.aO p ((ajW p).2 hp)
   obtain⟨b,hb,e⟩:=mem_map.1 z1
   simp only[Prod.mk.injEq]at e
   obtain⟨rfl,e⟩:=e
   obtain⟨kk,n',R0,r1,r2,r3,r4,r5⟩:=ajX b hb
   rw[r1]at e
   simp only[Option.map_some]at e
   rw[aoo]at q3
   rw[r2]at q3;cases q3
   rw[r4]at q4
   obtain⟨rfl,Z9⟩:=Aw q4
   refine⟨⟨kk.cells.map fun _=>At.top,kk.ty,0⟩,by show(di σ1.aO Wn).getD b none=_;rw[z2,<-e],Z9.symm,q2,fun n2 cs2 a1 a2 _=> ?_⟩
   rw[aoo,r2]at a1;cases a1
   rw[dY rfl,r4]at a2
   obtain⟨rfl,_⟩:=Aw a2
   exact q5
  ·rw[sR _ _ p (fun x hx e=>hp (by rw[<-e1];exact mem_map.2 ⟨x,hx,e⟩))]at pJ
   refine⟨k2,?_,rfl,rfl,fun _ _ _ _ h=>h⟩
   show(di σ1.aO Wn).getD p none=_
   rw[sR Wn _ p (fun x hx e=>hp ((ajW p).1 ⟨x,hx,e⟩)),hb1];exact pJ)
 refine⟨c4,azS,aoo,fun i hi=> ?_,SV.v7 f5.le d3,?_⟩
 ·rw[map_append,map_append]at hi
  have h1:¬(rd.nr<=i/\i<rd.nr+fG.length):=fun h=>hi (mem_append_left _ (mem_append_left _ ((DU rd.nv rd.nr i cv).2 h)))
  have h2:¬(rd.nr+fG.length<=i/\i<OP):=fun h=>hi (mem_append_left _ (mem_append_right _ ((hr1.2 i).2 h)))
  have h3:¬(OP<=i/\i<(lO P OP (fw nv1 ((EU (fS dr.args)).map AS.ck))).2.2):=fun h=>hi (mem_append_right _ ((Z4.2 i).2 h))
  have aDU:=hr1.1
  have aHN:=Z4.1
  rw[f2 i (by omega),d2 i (by omega),hR2 i h1]
 ·have afZ:({σ2 with aO:=di σ.aO (iy true rd.blk rd.nr (fS dr.args) bs (lO P OP (fw nv1 ((EU (fS dr.args)).map AS.ck))).1),rows:=aH (aH σ2.rows rs') (lO P OP (fw nv1 ((EU (fS dr.args)).map AS.ck))).2.1}:St)=
   {σ with aO:=di σ.aO (iy true rd.blk rd.nr (fS dr.args) bs (lO P OP (fw nv1 ((EU (fS dr.args)).map AS.ck))).1),rows:=aH σ.rows ((fr++l.fr)++l.rs.map (fun r=>(r,none))++(fu P rd.nv rd.nr fG++rs'++(lO P OP (fw nv1 ((EU (fS dr.args)).map AS.ck))).2.1))}:=by
   simp only[eI]
   show({σ1 with aO:=_,rows:=_}:St)=_
   simp only[σ2,<-aAi,eI]
  rw[<-afZ];exact g5
end
end
end Go.Proofs.YtlklkgdaegncaaaGreatDoor
