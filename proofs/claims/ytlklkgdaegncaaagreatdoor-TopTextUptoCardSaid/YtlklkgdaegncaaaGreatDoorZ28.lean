/-
  TopText: the text of a model is read as the same model, and compiled to the same program. The condition: what it reads is of bulk at most 1048576.
-/
import Derived.Test.YtlklkgdaegncaaaGreatDoorZ13
import Derived.Test.YtlklkgdaegncaaaGreatDoorZ18
import Derived.Test.YtlklkgdaegncaaaGreatDoorZ26
import Derived.Test.YtlklkgdaegncaaaGreatDoorZ27
import Derived.Test.YtlklkgdaegncaaaGreatDoorCards
import Derived.Test.YtlklkgdaegncaaaGreatDoorTie
import Derived.SevenTiedAt
import Derived.LaidMore
import Derived.OpenShut
import Derived.Stop.Joined
import Derived.Stop.LaidErr
import Derived.Lib.LaidTab
import Derived.Deep.DeepWitnessRowRef
namespace Go.Proofs.YtlklkgdaegncaaaGreatDoor
set_option linter.unusedVariables false
set_option linter.unusedSimpArgs false
set_option maxRecDepth 20000
set_option maxHeartbeats 8000000
open List
open Nat
open Int
namespace topText
open Go.ChangeShapes Go.WideShapes Go.ChangeAt Go.RowKit
theorem apg:(Rows.laid_internal_strconv_uint64pow10:DataW Unit)=Lib.tabData .u64 Lib.pow10Tab:=by kernel_rfl
theorem third {P:Program}{W:World}{x y:String×DataW Unit}{name:String}{d:DataW Unit}{r:List (String×DataW Unit)}{zs:uD}{k:IntKind}{g:Nat}{t e:TypeId}{n:Nat} (hd:d=Lib.tabData k zs) (hp:laidMetH P (x::y::(name,d)::r) W=laidMet P (x::y::(name,d)::r) W) (h:laidMetH P (x::y::(name,d)::r) W)
 (hg:P.globalNamed name=some g) (Z9:(P.globals[g]?).map (·.type)=some t) (ht:P.underlying t=some (.array n e)) (he:P.underlying e=some (.int k)) (hce:P.cellsOf e=1) (hct:P.cellsOf t=n):
 JY W g=some (zs.map fun z=>Value.int k z).toArray:=by
 subst hd
 rw[hp]at h
 exact(aeX hg).1 (Lib.tabIs_of_head hg Z9 ht he hce hct h.tail.tail)
theorem aed {W:World} (h:laidMetH Tryz.prog Rows.topTextUptoRow.laid W):xj.G Tryz.prog W:=
 third (t:=360) (e:=284) (n:=20) apg (MakeChecks.laidMetH_plain _ _ _ (by kernel_rfl)) h laysItoa.m17 (by kernel_rfl) Tryz.underlying360 Tryz.underlying284 (by kernel_rfl) (by kernel_rfl)
theorem own:ownKnob Tryz.prog.godebug=none:=by kernel_rfl
theorem laidOut:laidOutB Tryz.prog=true:=by kernel_rfl
def zero:Value:= .agg #[.string ByteArray.empty,.slice none 0 0,.slice none 0 0,.slice none 0 0]
theorem am7 (os:Os) (args:Array Value):laidMetH Tryz.prog Rows.topTextUptoRow.laid ((World.doorLaid Tryz.prog 62 os).forCall (fun _ _=>0) ⟨#[],args,[]⟩).memory:=
 laidMetH_of_parts3 (fuel:=8) (laidMet_of_run' 8 (by kernel_rfl) (by kernel_rfl)) (by kernel_rfl) (by kernel_rfl)
theorem reads (os:Os){H:Type} (enc:TypeId×Value->H):∃places,DataW.whole enc Tryz.prog ((World.doorLaid Tryz.prog 62 os).forCall (fun _ _=>0) ⟨#[],#[zero],[]⟩).memory Tryz.f3.params.toList Rows.topTextSpec.vars false #[zero].toList 8=some ([.agg [.lit (.string []),.nil,.nil,.nil]],[],places):=
 ⟨[],by kernel_rfl⟩
set_option maxRecDepth 100000 in
theorem contract (H:Type) (enc:TypeId×Value->H) (W:World) (base:Nat) (args:Array Value) (ds gs:List (DataW H)) (before:List MemPlace)
 (hval:∀(j:Nat) t v,Tryz.f3.params[j]? =some t->args[j]? =some v->Value.okWide Tryz.prog W .any base t v)
 (hW:DataW.Whole enc Tryz.prog Tryz.f3.params.toList Rows.topTextSpec.vars false W args.toList ds gs before) (hk:Rows.uptoSmall H (ds++gs)=true) (hL:laidMetH Tryz.prog Rows.topTextUptoRow.laid W):
 Calls Tryz.prog 3 args W fun e W'=>∃v,e= .returned v/\Rows.topTextSpec.post enc Tryz.prog Tryz.f3 false true false false W args v W':=by
 have hW':=hW
 obtain⟨p,q,hA0,hV,rfl,hfz,hnd⟩:=hW
 have hA:DataW.TrodAll enc Tryz.prog W 0 (fun _=>true) true Tryz.f3.params.toList args.toList ds p:=hA0
 rw[Tryz.params3]at hA hval
 obtain⟨v0,vs0,d0,ds0,p0,q0,kY,rfl,rfl,h0,r0⟩:=trodAll_cons hA
 obtain⟨rfl,rfl,rfl⟩:=trodAll_nil r0
 obtain rfl:args= #[v0]:=by cases args;simp_all
 obtain⟨rfl,rfl⟩:=trodVars_none hV
 have k0:=h0
 have lt0:∀x∈p0,x.block<W.heap.size:=by obtain⟨m,hm⟩:=k0;exact DataW.trod_lt m _ _ _ hm
 have ok0:=hval 0 26 v0 rfl rfl
 have hb:Rows.uptoBulkAll [d0]<=1048576:=of_decide_eq_true hk
 simp only[Rows.uptoBulkAll]at hb
 have hG:=aed hL
 obtain⟨fuel,hf⟩:=h0
 obtain⟨m,em,hl⟩:=awR (n:=fuel) (d:=d0) ⟨_,_,hf⟩ (by unfold BN;omega)
 have g0:=awH arn Tryz.underlying26 (ks:=[.str,.sl 86,.sl 50,.sl 75]) (by kernel_rfl) (by decide) ok0 k0
 rw[em]at g0
 clear hA0
 refine(aoH pi (Tryz.call3 _ _) rfl (vs:=[v0]) g0 (amd m hl) rfl hG).mono fun e W' ⟨he,bel⟩=> ?_
 subst he
 exact⟨_,rfl,_,_,_,[],_,[],hW',trodAll_mk1 (shut_bool Tryz.underlying4 _),(trodAll_cons_mk (Below.trod laidOut (by kernel_rfl) (of_decide_eq_true (by kernel_rfl)) k0 bel lt0) trodAll_mk0),rfl,bel.frame _,fun h=>by cases h⟩
set_option maxRecDepth 100000 in
theorem lifted (os:Os) (started:os.Started) (H:Type) (enc:TypeId×Value->H) (F:Stop.Interp):
 ReturnsInHanded {} Tryz.checked os 3 .any ((Rows.OpenSpec.upto Rows.topTextSpec).preRow enc Tryz.prog Tryz.f3 Rows.topTextUptoRow.domain false Rows.topTextUptoRow.laid) (((Rows.OpenSpec.upto Rows.topTextSpec).at F).post enc Tryz.prog Tryz.f3 false true false false):=by
 obtain⟨places,hx⟩:=reads os enc
 refine returnsInHanded_of_row (C:=Tryz.checked) (s:=Rows.OpenSpec.upto Rows.topTextSpec) own started (by kernel_rfl) Tryz.func3
  (witness_row_atRef (enc:=enc) (C:=Tryz.checked) false (World.doorLaid Tryz.prog 62 os) #[zero] rfl (by kernel_rfl) (by kernel_rfl) (by kernel_rfl)
    (OpenSpec.preRow_of_cond 8 hx (by kernel_rfl) (fun k hk=>by cases hk;kernel_rfl) (by kernel_rfl) (am7 os _))) ?_
 intro W base args ds gs before hval hW _ jV _ hL _ _
 exact contract H enc W base args ds gs before hval hW (jV _ rfl) hL
theorem apF:Rows.TopTextUptoSaid:=
 OpenClaim.holds_of_cond 3 Tryz.f3 rfl rfl rfl rfl rfl rfl rfl ⟨rfl,rfl,rfl,rfl,rfl⟩ rfl rfl rfl rfl rfl (by kernel_rfl) Tryz.func3 closed
  (of_decide_eq_true (by kernel_rfl)) (by unfold Func.isWrapper;first|(rw[if_pos (by decide+kernel)];kernel_rfl)|(rw[if_neg (by decide+kernel)];exact⟨rfl,rfl⟩))
  (fun os started H enc _ F=>by rw[OpenClaim.pre_eq_preRow];exact lifted os started H enc F)
theorem plain (f:FuncId) (fn:Func) (hf:Tryz.pinned.checked.prog.funcNamed Rows.topTextUptoRow.func=some f) (hfn:Tryz.pinned.checked.prog.funcs[f]? =some fn):
 true=Tryz.pinned.checked.prog.looks []/\∀(j:Nat) t,fn.params[j]? =some t->Tryz.pinned.checked.prog.wantsStandIn t=false:=by
 obtain rfl:f=3:=Option.some.inj ((show Tryz.prog.funcNamed Rows.topTextUptoRow.func=some 3 by kernel_rfl).symm.trans hf)|>.symm
 obtain rfl:fn=Tryz.f3:=(Option.some.inj (Tryz.func3.symm.trans hfn)).symm
 refine⟨by kernel_rfl,fun j t ht=> ?_⟩
 have Rp:(Tryz.f3.params.toList.all fun t=> !Tryz.prog.wantsStandIn t)=true:=by kernel_rfl
 have hm:t∈Tryz.f3.params.toList:=Array.mem_toList_iff.2 (Array.mem_of_getElem? ht)
 exact(by simpa using all_eq_true.1 Rp t hm:Tryz.prog.wantsStandIn t=false)
theorem proved:Rows.TopTextUptoCardSaid:=
 Claim7.holds_tied_plain_at .later [] _ _ _ _ apF (fun _ h=>by cases h) (by kernel_rfl) (fun _ h=>by cases h) topTextUpto_row_tie rfl ⟨rfl,rfl⟩ (by kernel_rfl) rfl plain goes
end topText
end Go.Proofs.YtlklkgdaegncaaaGreatDoor
