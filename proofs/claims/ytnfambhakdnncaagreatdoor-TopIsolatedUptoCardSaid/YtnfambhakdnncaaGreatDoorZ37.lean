/-
  TopIsolated: a further site, which nobody is linked with, changes nothing for the other sites. The condition: what it reads is of bulk at most 1048576.
-/
import Derived.Test.YtnfambhakdnncaaGreatDoorZ27
import Derived.Test.YtnfambhakdnncaaGreatDoorZ35
import Derived.Test.YtnfambhakdnncaaGreatDoorZ36
import Derived.Test.YtnfambhakdnncaaGreatDoorCards
import Derived.Test.YtnfambhakdnncaaGreatDoorTie
import Derived.SevenTiedAt
import Derived.LaidMore
import Derived.OpenShut
import Derived.Stop.Joined
import Derived.Stop.LaidErr
import Derived.Deep.DeepWitnessRowRef
namespace Go.Proofs.YtnfambhakdnncaaGreatDoor
set_option linter.all false
set_option maxRecDepth 1000000
set_option maxHeartbeats 80000000
open List Nat Int Go.RowKit
namespace topIsolated
open Go.ChangeShapes Go.WideShapes Go.ChangeAt
mutual
def Z5{H:Type}:∀(d:DataW H),∀x∈jX d,x.list.length<Rows.uptoBulk d
 | .lit l,x,hx=>by have:=rY (.lit l:DataW H);cases l<;>(simp[jX]at hx;subst hx;exact mC Nat.zero_lt_one this)
 | .nil,x,hx=>by simp[jX]at hx;subst hx;exact mC Nat.zero_lt_one (rY _)
 | .ptr d,x,hx=>by simp[jX]at hx;subst hx;exact mC Nat.zero_lt_one (rY _)
 | .iface t d,x,hx=>by simp[jX]at hx;subst hx;exact mC Nat.zero_lt_one (rY _)
 | .map es,x,hx=>by simp[jX]at hx;subst hx;exact mC Nat.zero_lt_one (rY _)
 | .held h,x,hx=>by simp[jX]at hx;subst hx;exact mC Nat.zero_lt_one (rY _)
 | .slice elems sp,x,hx=>by rw[jX]at hx;rw[cw.1 hx];have:=GX elems;simp only[Rows.uptoBulk];show(IK elems).length<_;rw[vF,Ab];omega
 | .agg parts,x,hx=>by rw[jX]at hx;have:=Ua parts x hx;simp only[Rows.uptoBulk];omega
def Ua{H:Type}:∀(l:List (DataW H)),∀x∈yZ l,x.list.length<Rows.uptoBulkAll l
 |[],x,hx=>by rw[yZ]at hx;cases hx
 |d::r,x,hx=>by
  rw[yZ]at hx;simp only[Rows.uptoBulkAll];rcases ic.1 hx with h|h
  ·have:=Z5 d x h;omega
  ·have:=Ua r x h;omega
end
def So{P:Program}{w:World}{ok:dg}{s:CS}{ss:sX}{v:Value}{vs:aW}{l1 l2:ab}(h1:qj P w ok [s] [v] l1 [])(h2:qj P w ok ss vs l2 []):qj P w ok (s::ss) (v::vs) (l1++l2) []:=by obtain⟨a,b,n1,n2,rfl,e,h,rfl,rfl⟩:=h1;rw[uP]at e⊢;subst e;exact⟨a,l2,[],[],rfl,rfl,h,h2⟩
def own:ownKnob Tryz.prog.godebug=none:=by kernel_rfl
def laidOut:laidOutB Tryz.prog=true:=by kernel_rfl
def Ah:Value:= .slice none 0 0
def aaJ:Value:= .agg #[.string ByteArray.empty,Ah,Ah,Ah]
def aaK:Value:= .agg #[.string ByteArray.empty,Ah,Ah,Ah,Ah,Ah,Ah,Ah,Ah,Ah,Ah,Ah,Ah]
def aaL:Value:= .agg #[Ah,.int .i64 0,.bool false,.int .i64 0]
def Xl(os:Os)(args:Array Value):laidMetH Tryz.prog Rows.topIsolatedUptoRow.laid ((World.doorLaid Tryz.prog 34 os).forCall (fun _ _=>0) ⟨#[],args,[]⟩).memory:=
 laidMetH_of_parts3 (fuel:=8) (laidMet_of_run' 8 (by kernel_rfl) (by kernel_rfl)) (by kernel_rfl) (by kernel_rfl)
def reads(os:Os){H:Type}(enc:TypeId×Value->H):∃places,DataW.whole enc Tryz.prog ((World.doorLaid Tryz.prog 34 os).forCall (fun _ _=>0) ⟨#[],#[aaJ,aaK,aaL],[]⟩).memory Tryz.f3.params.toList Rows.topIsolatedSpec.vars false #[aaJ,aaK,aaL].toList 8=some ([.agg [.lit (.string []),.nil,.nil,.nil],.agg [.lit (.string []),.nil,.nil,.nil,.nil,.nil,.nil,.nil,.nil,.nil,.nil,.nil,.nil],.agg [.nil,.lit (.int .i64 0),.lit (.bool false),.lit (.int .i64 0)]],[],places):=
 ⟨[],by kernel_rfl⟩
def contract(H:Type)(enc:TypeId×Value->H)(W:World)(base:Nat)(args:Array Value)(ds gs:List (DataW H))(before:List MemPlace)(hval:∀(j:Nat) t v,Tryz.f3.params[j]? =some t->args[j]? =some v->Value.okWide Tryz.prog W .any base t v)(hW:DataW.Whole enc Tryz.prog Tryz.f3.params.toList Rows.topIsolatedSpec.vars false W args.toList ds gs before)(hk:Rows.uptoSmall H (ds++gs)=true)(hL:laidMetH Tryz.prog Rows.topIsolatedUptoRow.laid W):
 Calls Tryz.prog 3 args W fun e W'=>∃v,e= .returned v/\Rows.topIsolatedSpec.post enc Tryz.prog Tryz.f3 false true false false W args v W':=by
 have hW':=hW
 obtain⟨p,q,hA0,hV,rfl,hfz,hnd⟩:=hW
 have hA:DataW.TrodAll enc Tryz.prog W 0 (fun _=>true) true Tryz.f3.params.toList args.toList ds p:=hA0
 rw[Tryz.params3]at hA hval
 obtain⟨v0,Ef,d0,ds0,p0,q0,dH,rfl,rfl,h0,r0⟩:=trodAll_cons hA
 obtain⟨v1,vs1,d1,ds1,p1,q1,rfl,rfl,rfl,h1,r1⟩:=trodAll_cons r0
 obtain⟨v2,vs2,d2,ds2,p2,q2,rfl,rfl,rfl,h2,r2⟩:=trodAll_cons r1
 obtain⟨rfl,rfl,rfl⟩:=trodAll_nil r2
 obtain rfl:args= #[v0,v1,v2]:=by cases args;simp_all
 obtain⟨rfl,rfl⟩:=trodVars_none hV
 have k0:=h0
 have k1:=h1
 have k2:=h2
 have lt0:∀x∈p0,x.block<W.heap.size:=by obtain⟨m,hm⟩:=k0;exact DataW.trod_lt m _ _ _ hm
 have lt1:∀x∈p1,x.block<W.heap.size:=by obtain⟨m,hm⟩:=k1;exact DataW.trod_lt m _ _ _ hm
 have lt2:∀x∈p2,x.block<W.heap.size:=by obtain⟨m,hm⟩:=k2;exact DataW.trod_lt m _ _ _ hm
 have ok0:=hval 0 26 v0 rfl rfl
 have ok1:=hval 1 35 v1 rfl rfl
 have ok2:=hval 2 38 v2 rfl rfl
 have hb:Rows.uptoBulkAll [d0,d1,d2]<=1048576:=fv hk
 simp only[Rows.uptoBulkAll]at hb
 have hG:=Mh hL
 obtain⟨f0,Mu⟩:=h0
 obtain⟨f1,hf1⟩:=h1
 obtain⟨f2,hf2⟩:=h2
 have m0:=MU (ks:=[.str,.sl 115,.sl 35,.sl 134]) (d:=d0) (by kernel_rfl) (by decide) ⟨_,_,Mu⟩ (by unfold BN;omega)
 have m1:=MU (ks:=[.str,.sl 115,.sl 184,.sl 193,.sl 200,.sl 9,.sl 9,.sl 9,.sl 9,.sl 9,.sl 63,.sl 111,.sl 408]) (d:=d1) (by kernel_rfl) (by decide) ⟨_,_,hf1⟩ (by unfold BN;omega)
 have m2:=MU (ks:=[.sl 117,.int .i64,.bool,.int .i64]) (d:=d2) (by kernel_rfl) (by decide) ⟨_,_,hf2⟩ (by unfold BN;omega)
 have g0:=Rp F0 Tryz.underlying26 (ks:=[.str,.sl 115,.sl 35,.sl 134]) (by kernel_rfl) (by decide) ok0 k0
 have g1:=Rp F0 Tryz.underlying35 (ks:=[.str,.sl 115,.sl 184,.sl 193,.sl 200,.sl 9,.sl 9,.sl 9,.sl 9,.sl 9,.sl 63,.sl 111,.sl 408]) (by kernel_rfl) (by decide) ok1 k1
 have g2:=Rp F0 Tryz.underlying38 (ks:=[.sl 117,.int .i64,.bool,.int .i64]) (by kernel_rfl) (by decide) ok2 k2
 have hlen:=Z5 d0
 have gg:=So g0 (So g1 g2)
 have hF:Gf 3 (jX d0++(jX d1++jX d2))=some [.b true]:=by
  generalize jX d0=s0 at m0 hlen;generalize jX d1=s1 at m1;generalize jX d2=s2 at m2
  match s0,bb m0,m0,hlen with
  |[a0,a1,a2,a3],_,m0,hlen=>
  match s1,bb m1,m1 with
  |[b0,b1,b2,b3,b4,b5,b6,b7,b8,b9,b10,b11,b12],_,m1=>
  match s2,bb m2,m2 with
  |[c0,c1,c2,c3],_,m2=>
  obtain⟨n1,⟨z,rfl⟩,⟨b,rfl⟩,⟨u,rfl⟩,_⟩:=m2;have q2:II pm0 35 a2:=m0.2.2.1;obtain⟨S,rfl⟩:=wL Bn (k:=35) (by decide+kernel) q2;have hSl:S.length<Rows.uptoBulk d0:=hlen (.l S) (by simp);exact ana m0 m1 n1 (by omega)
 clear hA0
 refine(Vt (c:=cq 3 [1000,1001,1002] (rc 2)) (d9 (i:=0) (by kernel_rfl)) (Tryz.call3 _ _) rfl (vs:=[v0,v1,v2]) gg rfl rfl hF rfl hG).mono fun e W' ⟨he,bel⟩=> ?_
 subst he
 exact⟨_,rfl,_,_,_,[],_,[],hW',trodAll_mk1 (shut_bool Tryz.underlying4 _),(trodAll_cons_mk (Below.trod laidOut (by kernel_rfl) (fv (by kernel_rfl)) k0 bel lt0) (trodAll_cons_mk (Below.trod laidOut (by kernel_rfl) (fv (by kernel_rfl)) k1 bel lt1) (trodAll_cons_mk (Below.trod laidOut (by kernel_rfl) (fv (by kernel_rfl)) k2 bel lt2) trodAll_mk0))),rfl,bel.frame _,nofun⟩
def lifted(os:Os)(started:os.Started)(H:Type)(enc:TypeId×Value->H)(F:Stop.Interp):
 ReturnsInHanded {} Tryz.checked os 3 .any ((Rows.OpenSpec.upto Rows.topIsolatedSpec).preRow enc Tryz.prog Tryz.f3 Rows.topIsolatedUptoRow.domain false Rows.topIsolatedUptoRow.laid) (((Rows.OpenSpec.upto Rows.topIsolatedSpec).at F).post enc Tryz.prog Tryz.f3 false true false false):=by
 obtain⟨places,hx⟩:=reads os enc
 refine returnsInHanded_of_row (C:=Tryz.checked) (s:=Rows.OpenSpec.upto Rows.topIsolatedSpec) own started (by kernel_rfl) Tryz.func3
  (witness_row_atRef (enc:=enc) (C:=Tryz.checked) false (World.doorLaid Tryz.prog 34 os) #[aaJ,aaK,aaL] rfl (by kernel_rfl) (by kernel_rfl) (by kernel_rfl)
    (OpenSpec.preRow_of_cond 8 hx (by kernel_rfl) (fun k hk=>by cases hk;kernel_rfl) (by kernel_rfl) (Xl os _))) ?_
 intro W base args ds gs before hval hW _ eQ _ hL _ _
 exact contract H enc W base args ds gs before hval hW (eQ _ rfl) hL
def Z3:Rows.TopIsolatedUptoSaid:=
 OpenClaim.holds_of_cond 3 Tryz.f3 rfl rfl rfl rfl rfl rfl rfl ⟨rfl,rfl,rfl,rfl,rfl⟩ rfl rfl rfl rfl rfl (by kernel_rfl) Tryz.func3 closed
  (fv (by kernel_rfl)) (by unfold Func.isWrapper;first|(rw[aA (by decide+kernel)];kernel_rfl)|(rw[aE (by decide+kernel)];exact⟨rfl,rfl⟩))
  (fun os started H enc _ F=>by rw[OpenClaim.pre_eq_preRow];exact lifted os started H enc F)
def plain(f:FuncId)(fn:Func)(hf:Tryz.pinned.checked.prog.funcNamed Rows.topIsolatedUptoRow.func=some f)(hfn:Tryz.pinned.checked.prog.funcs[f]? =some fn):
 true=Tryz.pinned.checked.prog.looks []/\∀(j:Nat) t,fn.params[j]? =some t->Tryz.pinned.checked.prog.wantsStandIn t=false:=by
 obtain rfl:f=3:=xX ((show Tryz.prog.funcNamed Rows.topIsolatedUptoRow.func=some 3 by kernel_rfl).symm.trans hf)|>.symm
 obtain rfl:fn=Tryz.f3:=(xX (Tryz.func3.symm.trans hfn)).symm
 refine⟨by kernel_rfl,fun j t ht=> ?_⟩
 have wh:(Tryz.f3.params.toList.all fun t=> !Tryz.prog.wantsStandIn t)=true:=by kernel_rfl
 have hm:t∈Tryz.f3.params.toList:=Array.mem_toList_iff.2 (Array.mem_of_getElem? ht)
 exact(by simpa using lO.1 wh t hm:Tryz.prog.wantsStandIn t=false)
theorem proved:Rows.TopIsolatedUptoCardSaid:=
 Claim7.holds_tied_plain_at .later [] _ _ _ _ Z3 (nofun) (by kernel_rfl) (nofun) topIsolatedUpto_row_tie rfl ⟨rfl,rfl⟩ (by kernel_rfl) rfl plain goes
end topIsolated
end Go.Proofs.YtnfambhakdnncaaGreatDoor
