/-
  A part of the proof of TopIsolated: Tp2, OpT, OpI, GlF, L33a, J0.
-/
import Derived.Test.YtnfambhakdnncaaGreatDoorZ23
import Derived.Test.YtnfambhakdnncaaGreatDoorZ24
import Derived.Test.YtnfambhakdnncaaGreatDoorZ26
import Derived.Test.YtnfambhakdnncaaGreatDoorZ03
import Derived.Lib.SmallJoins
import Derived.DataShut
import Derived.OpenShut
import Derived.Deep.Slices
import Derived.Test.YtnfambhakdnncaaGreatDoorRows
import Derived.Test.YtnfambhakdnncaaGreatDoorZ04
import Derived.MakeChecks
import Derived.ChangeBears2
import Derived.Laws.World
import Derived.JoinedCond
import Derived.KernelRfl
namespace Go.Proofs.YtnfambhakdnncaaGreatDoor
set_option linter.all false
set_option maxRecDepth 1000000
set_option maxHeartbeats 80000000
open List Nat Int Go.RowKit
def akY{pm:Pm}(hp:dG pm):Ca 0 pm where
 c:=⟨(nd pm hp 0 _ (d9 (i:=172) (by kernel_rfl))),(nd pm hp 0 _ (d9 (i:=173) (by kernel_rfl))),(nd pm hp 0 _ (d9 (i:=162) (by kernel_rfl))),(nd pm hp 0 _ (d9 (i:=175) (by kernel_rfl))),(nd pm hp 0 _ (d9 (i:=233) (by kernel_rfl))),(nd pm hp 0 _ (d9 (i:=216) (by kernel_rfl))),(nd pm hp 0 _ (d9 (i:=177) (by kernel_rfl))),(nd pm hp 0 _ (d9 (i:=201) (by kernel_rfl))),(nd pm hp 0 _ (d9 (i:=202) (by kernel_rfl))),(nd pm hp 0 _ (d9 (i:=174) (by kernel_rfl))),(nd pm hp 0 _ (d9 (i:=258) (by kernel_rfl)))⟩
 bm:=(nd pm hp 0 _ (d9 (i:=204) (by kernel_rfl)))
 cc:=(nd pm hp 0 _ (d9 (i:=150) (by kernel_rfl)))
 wn:=(nd pm hp 0 _ (d9 (i:=107) (by kernel_rfl)))
 pk:=(nd pm hp 0 _ (d9 (i:=77) (by kernel_rfl)))
 ws:=(nd pm hp 0 _ (d9 (i:=2) (by kernel_rfl)))
 wc:=(nd pm hp 0 _ (d9 (i:=75) (by kernel_rfl)))
 li:=(nd pm hp 0 _ (d9 (i:=265) (by kernel_rfl)))
 br:=(nd pm hp 0 _ (d9 (i:=266) (by kernel_rfl)))
 ts:=adS 0
section
open Go.ChangeShapes Go.WideShapes Go.ChangeAt
def OY(sh:TypeId->Option jj)(cells:TypeId->Nat):List Field->Nat->Option jj
 |[],_=>some []|f::fs,n=>match sh f.type with
  |some ks=>if f.offset=n/\cells f.type=ks.length then(OY sh cells fs (n+ks.length)).map (ks++·)else none
  |none=>none
def P8(P:Program):Nat->TypeId->Option jj
 |0,_=>none|d+1,t=>match P.underlying t with
  |some (.int k)=>some [.int k]|some .bool=>some [.bool]|some .string=>some [.str]|some (.slice e)=>some [.sl e]|some (.struct fs)=>match OY (P8 P d) P.cellsOf fs.toList 0 with
   |some ks=>if P.cellsOf t=ks.length then some ks else none
   |none=>none
  |_=>none
def qh(P:Program)(e:TypeId):Bool:=match P.underlying e with|some (.struct _)=>true|some (.array _ _)=>true|_=>false
def sA(S:ip)(ks:jj):Bool:=ks.all fun k=>match k with| .sl e=>S.contains e|_=>true
def UW(P:Program)(S:ip):Bool:=S.all fun e=>match P8 P 8 e with
 |some ks=>decide (eC P e=some (qh P e,ks))&&(decide (P.cellsOf e=ks.length)&&(bF (qh P e) ks&&sA S ks))|none=>false
def XB{P:Program}{S:ip}(h:UW P S=true){e:TypeId}(he:S.contains e=true):∃ks,P8 P 8 e=some ks/\eC P e=some (qh P e,ks)/\P.cellsOf e=ks.length/\bF (qh P e) ks=true/\sA S ks=true:=by
 have:=lO.1 h e (by simpa using he);split at this
 ·rename_i ks hk;simp only[aL,ei]at this;exact⟨ks,hk,this.1,this.2.1,this.2.2.1,this.2.2.2⟩
 ·cases this
def KP{S:ip}{a b:jj}:sA S (a++b)=true↔sA S a=true/\sA S b=true:=by unfold sA;rw[all_append,aL]
def Hh(agg:Bool)(ys:ab):Sc:=if agg then .l ys else ys.getD 0 (.i 0)
def Hj:∀(ks:jj)(ys zs:ab),ys.length=ks.length->jD (.l (zs++ys)) ks zs.length=zipWith CK.val ks ys
 |[],[],_,_=>rfl|k::ks,y::ys,zs,h=>by have ih:=Hj ks ys (zs++[y]) (by simpa using h);rw[eh,singleton_append,fR,BM]at ih;simp[jD,ih]
 |[],_::_,_,h=>by simp at h
 |_::_,[],_,h=>by simp at h
def Oc{agg:Bool}{ks:jj}{ys:ab}(bT:oL agg ks)(h:ys.length=ks.length):bP agg ks (Hh agg ys)=zipWith CK.val ks ys:=by
 cases agg with
 |true=>exact Hj ks ys [] h|false=>
  rcases bT with h1|h1
  ·cases h1
  ·match ks,ys,h1,h with
   |[k],[y],_,_=>rfl
def ab2{agg:Bool}{ks:jj}(bT:oL agg ks)(i8:0<ks.length){l:ab}{j:Nat}{u:Value}(h:(ag agg ks l)[j]? =some u):
 j/ks.length<l.length/\(bP agg ks (l.getD (j/ks.length) (.i 0)))[j%ks.length]? =some u:=by
 have bi:j<l.length*ks.length:=by rw[<-aD bT];exact(kK.1 h).1
 have h1:j/ks.length<l.length:=by rw[Uy i8];exact bi
 refine⟨h1,?_⟩
 have hm:j%ks.length<(bP agg ks (l.getD (j/ks.length) (.i 0))).length:=by rw[cg bT];exact mod_lt _ i8
 have:=flat_get bT l (j/ks.length) (j%ks.length) _ h1 (cB hm)
 rw[Kf,tu]at this
 rw[this]at h
 rw[cB hm];exact h
def Xy:∀z:Sc,z.er.er=z.er
 | .i _| .b _| .s _=>by simp[Sc.er]
 | .l xs=>by simp only[Sc.er,map_map,Sc.l.injEq];exact ND fun x hx=>Xy x
 | .r _ _ _ xs=>by simp only[Sc.er,map_map,Sc.l.injEq];exact ND fun x hx=>Xy x
def oG{H:Type}:DataW H->Bool| .agg _=>true|_=>false
mutual
def jX{H:Type}:DataW H->ab
 | .lit (.int _ n)=>[.i n]| .lit (.bool b)=>[.b b]| .lit (.string s)=>[.s ⟨s.toArray⟩]| .slice elems _=>[.l (IK elems)]| .agg parts=>yZ parts|_=>[.l []]
def yZ{H:Type}:List (DataW H)->ab
 |[]=>[]|d::r=>jX d++yZ r
def IK{H:Type}:List (DataW H)->ab
 |[]=>[]|d::r=>Hh (oG d) (jX d)::IK r
end
def vF{H:Type}:∀l:List (DataW H),IK l=l.map fun d=>Hh (oG d) (jX d)
 |[]=>by rw[IK];rfl
 |d::r=>by rw[IK,vF r];rfl
section
variable{P:Program}{w:World}{base:Nat}{H:Type}{enc:TypeId×Value->H}{spare:Nat->Bool}{held:Bool}
structure Qb(P:Program)(w:World)(ks:jj)(cs:aW)(zs:ab):Prop where
 len:zs.length=ks.length
 val:cs=zipWith CK.val ks zs
 fits:∀i k,ks[i]? =some k->Fits P w (fun _=>True) k (zs.getD i (.i 0))
def Qb.one{k:CK}{z:Sc}(h:Fits P w (fun _=>True) k z):Qb P w [k] [k.val z] [z]:=⟨rfl,rfl,fun i k' hk=>by
 cases i with
 |zero=>cases hk;exact h
 |succ i=>simp at hk⟩
def Qb.app{k1 k2:jj}{c1 c2:aW}{z1 z2:ab}(h1:Qb P w k1 c1 z1)(h2:Qb P w k2 c2 z2):Qb P w (k1++k2) (c1++c2) (z1++z2):=by
 refine⟨by simp[h1.len,h2.len],?_,fun i k hk=> ?_⟩
 ·rw[zipWith_append (by rw[h1.len]),h1.val,h2.val]
 ·rcases xU i k1.length with hi|hi
  ·rw[gA hi]at hk;rw[aZ _ _ _ _ (by rw[h1.len];exact hi)];exact h1.fits i k hk
  ·rw[lR hi]at hk;rw[cE,lR (by rw[h1.len];exact hi),h1.len,<-cE];exact h2.fits _ k hk
def Qb.nil:Qb P w [] [] []:=⟨rfl,rfl,fun i k hk=>by simp at hk⟩
def V4{a:Addr}{n:Nat}{cs:aW}(h:w.cells? base a n=some cs)(hn:0<n):a.spot=none:=by
 obtain⟨_,h2,h3⟩:=World.cells?_some h;have:=h3 0 hn;have e:a.add 0=a:=by unfold Addr.add;rw[aA rfl]
 rw[e,cB (by omega)]at this;unfold World.cell? at this;split at this
 ·cases hs:a.spot with|none=>rfl|some x=>rw[hs]at this;simp at this
 ·cases this
def I7{S:ip}(hS:UW P S=true):∀(fuel d:Nat)(t:TypeId)(ks:jj)(cs:aW)(x:DataW H×List MemPlace),P8 P d t=some ks->sA S ks=true->DataW.trod enc P w base spare held fuel t cs=some x->
 ∃zs,Qb P w ks cs zs/\dP zs=jX x.1/\oG x.1=qh P t:=by
 intro fuel
 induction fuel with
 |zero=>intro d t ks cs x _ _ hx;simp[DataW.trod]at hx|succ fuel ih=>
  intro d t ks cs x h mZ hx;cases d with
  |zero=>simp[P8]at h|succ d=>
  simp only[P8]at h;split at h
  ·rename_i k hu;cases h
   obtain⟨n,rfl,e,hw⟩:=DataW.trod_int hu hx;subst e;exact⟨[.i n],.one (k:= .int k) (z:= .i n) (.int ..),by simp[jX,dP],by simp[oG,qh,hu]⟩
  ·rename_i hu;cases h
   obtain⟨b,rfl,e⟩:=DataW.trod_bool hu hx;subst e;exact⟨[.b b],.one (k:= .bool) (z:= .b b) (.bool ..),by simp[jX,dP,Sc.er],by simp[oG,qh,hu]⟩
  ·rename_i hu;cases h
   obtain⟨s,rfl,e,hs⟩:=DataW.trod_string hu hx;subst e;exact⟨[.s s],.one (k:= .str) (z:= .s s) (.str ..),by simp[jX,dP,Sc.er],by simp[oG,qh,hu]⟩
  ·rename_i e hu;cases h
   have he:S.contains e=true:=by unfold sA at mZ;simpa using mZ
   obtain⟨ks,hk,hT,hc,hf,acf⟩:=XB hS he;obtain⟨bT,i8⟩:=dq hf;have Cj:qh P t=false:=by simp[qh,hu]
   rcases DataW.trod_slice hu hx with⟨h0,rfl⟩|⟨a,len,cap,elems,rest,n,hn,h0,rfl,hb,hl,hm,hlen,rQ,_,_⟩
   ·subst h0;exact⟨[.r none 0 0 []],.one (k:= .sl e) (z:= .r none 0 0 []) (.sl hT rfl (aX _) (by simp[maxLen]) (fun j u hj=>by simp[ag]at hj) (nofun)),by simp[jX,dP,Sc.er],by simp[oG,Cj]⟩
   ·subst h0;cases hn
    have wh:∀i,i<len->∃zs:ab,(∃Ap,w.cells? base (a.add (i*P.cellsOf e)) (P.cellsOf e)=some Ap/\Qb P w ks Ap zs)/\(∃y,elems[i]? =some y/\dP zs=jX y.1/\oG y.1=qh P e):=by intro i hi;have:=rQ i hi;rw[cB (by omega)]at this;obtain⟨Ap,h1,h2⟩:=AL.1 this;obtain⟨zs,q1,q2,q3⟩:=ih 8 e ks Ap _ hk acf h2;exact⟨zs,⟨Ap,h1,q1⟩,_,cB (by omega),q2,q3⟩
    obtain⟨Z,hZ⟩:=Go.Deep.choose_lt (α:=ab) (n:=len) (p:=fun i zs=>(∃Ap,w.cells? base (a.add (i*P.cellsOf e)) (P.cellsOf e)=some Ap/\Qb P w ks Ap zs)/\(∃y,elems[i]? =some y/\dP zs=jX y.1/\oG y.1=qh P e)) wh;refine⟨[.r (some a) len cap ((range len).map fun i=>Hh (qh P e) (Z i))],.one (k:= .sl e) (z:= .r (some a) len cap ((range len).map fun i=>Hh (qh P e) (Z i))) (.sl hT (by simp) hl hm (fun j u hj=> ?_) (fun x hx i k hki=> ?_)),?_,by simp[oG,Cj]⟩
    ·obtain⟨j1,j2⟩:=ab2 bT i8 hj;simp only[Ab,length_range]at j1;obtain⟨⟨Ap,c1,c2⟩,_⟩:=hZ _ j1;have h00:0<len:=Nat.lt_of_le_of_lt (xA _) j1;obtain⟨⟨Jh,d1,_⟩,_⟩:=hZ 0 h00;have aeA:a.spot=none:=by
      rw[Nz]at d1;have e0:a.add 0=a:=by unfold Addr.add;rw[aA rfl]
      rw[e0]at d1;exact V4 d1 (by rw[hc];exact i8)
     have he':((range len).map fun i=>Hh (qh P e) (Z i)).getD (j/ks.length) (.i 0)=Hh (qh P e) (Z (j/ks.length)):=by simp[cE,j1]
     rw[he',Oc bT c2.len,<-c2.val]at j2;have hcell:=(World.cells?_some c1).2.2 (j%ks.length) (by rw[hc];exact mod_lt _ i8);obtain⟨blk,off,spot⟩:=a;simp only at aeA;subst aeA;refine⟨blk,off,rfl,?_,trivial⟩;rw[add_lit,add_lit,hc]at hcell;have ej:off+j/ks.length*ks.length+j%ks.length=off+j:=by rw[td,Kf,tu]
     rw[ej]at hcell;rw[hcell];exact j2
    ·obtain⟨q,hq,rfl⟩:=pB.1 hx;obtain⟨⟨Ap,_,c2⟩,_⟩:=hZ q (mem_range.1 hq);have:=c2.fits i k hki;cases agN:qh P e with
     |true=>exact this|false=>
      rw[agN]at bT;rcases bT with h1|h1
      ·cases h1
      ·have:i=0:=by have:=(kK.1 hki).1;omega
       subst this;exact this
    ·have e1:dP [Sc.r (some a) len cap ((range len).map fun i=>Hh (qh P e) (Z i))]=[.l (dP ((range len).map fun i=>Hh (qh P e) (Z i)))]:=by simp[dP,Sc.er]
     rw[e1,jX,vF];congr 2;apply f9;intro i;by_cases hi:i<len
     ·obtain⟨_,y,y1,y2,y3⟩:=hZ i hi;simp only[dP,vR,y1,Option.map_some,map_map];rw[getElem?_range hi];simp only[Option.map_some,Function.comp,eF];rw[<-y2,<-y3];cases oG y.1 with
      |true=>simp[Hh,Sc.er,dP]|false=>
       simp only[Hh,qM,na,dP,cE,vR];cases(Z i)[0]? <;>simp[]
     ·rw[mB (by simp[dP];omega),mB (by simp;omega)]
  ·rename_i fs hu;split at h
   ·rename_i Wu Mo;split at h
    ·rename_i hc;cases h
     obtain⟨xs,n,hn,e,hl,hlen,hf⟩:=DataW.trod_struct hu hx;cases hn
     subst e;have hfs:∀(l:List Field)(m:Nat)(ks:jj)(i:Nat),OY (P8 P d) P.cellsOf l m=some ks->sA S ks=true->(∀j f,l[j]? =some f->fs[i+j]? =some f)->i+l.length=fs.size->
      ∃zs,Qb P w ks ((cs.drop m).take ks.length) zs/\(m+ks.length<=cs.length\/ks=[])/\dP zs=yZ ((xs.drop i).map (·.1)):=by
      intro l
      induction l with
      |nil=>
       intro m ks i hk _ _ hi;simp only[OY,eF]at hk;subst hk;refine⟨[],by simpa using Qb.nil,.inr rfl,?_⟩;rw[rV (by simp at hi;omega)];simp[yZ,dP]
      |cons f l ih2=>
       intro m ks i hk mZ hi eT;simp only[OY]at hk;split at hk
       ·rename_i k1 Tc;split at hk
        ·rename_i DP;obtain⟨k2,m5,rfl⟩:=nW.1 hk;have hfi:=hi 0 f rfl;rw[pA]at hfi;have bi:i<fs.size:=(iX.1 hfi).1;have:=hf i f hfi;rw[cB (by omega)]at this;obtain⟨atl,agY⟩:=KP.1 mZ;obtain⟨z1,e1,g1,_⟩:=ih d f.type k1 _ _ Tc atl this;simp only[AM]at eT;obtain⟨z2,e2,b2,g2⟩:=ih2 (m+k1.length) k2 (i+1) m5 agY (fun j g hj=>by have:=hi (j+1) g (by simpa using hj);rw[show i+1+j=i+(j+1)by omega];exact this) (by omega)
         rw[DP.1,DP.2]at e1;have l1:((cs.drop m).take k1.length).length=k1.length:=by rw[e1.val];simp[e1.len]
         have hb:k1.length<=(cs.drop m).length:=by rw[iW]at l1;omega
         refine⟨z1++z2,?_,?_,?_⟩
         ·rw[fR,take_add,drop_drop];exact e1.app e2
         ·by_cases h0:k1++k2=[]
          ·exact .inr h0
          ·left;rw[fR];rcases b2 with h|h
           ·omega
           ·subst h;simp only[uP]at h0;have:0<k1.length:=length_pos_iff.2 h0;rw[tc]at hb;simp;omega
         ·rw[sf,g1,g2,xD (by omega:i<xs.length),jQ,yZ]
        ·cases hk
       ·cases hk
     obtain⟨zs,e1,_,g1⟩:=hfs fs.toList 0 ks 0 Mo mZ (fun j f hj=>by simpa using hj) (by simp);refine⟨zs,?_,?_,by simp[oG,qh,hu]⟩
     ·rw[Ki,lQ (by omega)]at e1;exact e1
     ·rw[g1,Ki,jX]
    ·cases h
   ·cases h
  ·cases h
def GQ:∀{ks:jj}{cs:aW}{zs:ab},Qb P w ks cs zs->fe P w (fun _=>True) (ks.map .ck) cs (dP zs)
 |[],cs,zs,h=>by
  have:=h.len;have e:=h.val;cases zs with
  |nil=>simp at e;subst e;trivial|cons=>simp at this
 |k::ks,cs,zs,h=>by
  cases zs with
  |nil=>have:=h.len;simp at this
  |cons z zs=>
   have e:=h.val;simp only[zipWith_cons_cons]at e;subst e;exact⟨⟨z,(Xy z).symm,rfl,h.fits 0 k rfl⟩,GQ ⟨by have:=h.len;simpa using this,rfl,fun i k' hk=>h.fits (i+1) k' hk⟩⟩
def Rp{S:ip}(hS:UW P S=true){r:Reach}{b0:Nat}{t:TypeId}{v:Value}{d:DataW H}{p:List MemPlace}{ks:jj}{fs:Array Field}(hu:P.underlying t=some (.struct fs))(hk:P8 P 8 t=some ks)(mZ:sA S ks=true)(ok:Value.okWide P w r b0 t v)(h:DataW.Trod enc P w base spare held t v d p):
 qj P w (fun _=>True) [.g (ks.map .ck)] [v] (jX d) []:=by
 obtain⟨cs,rfl,_⟩:=okWide_struct hu ok
 obtain⟨fuel,hf⟩:=h
 obtain⟨zs,h1,h2,_⟩:=I7 hS fuel 8 t ks _ _ hk mZ hf
 have h2:dP zs=jX d:=h2
 have h1:Qb P w ks cs.toList zs:=h1
 rw[<-h2]
 exact⟨_,[],[],[],by simp,rfl,⟨rfl,cs.toList,by simp,GQ h1⟩,rfl,rfl⟩
end
section
variable{P:Program}{w:World}{base:Nat}{H:Type}{enc:TypeId×Value->H}{spare:Nat->Bool}{held:Bool}
def PY(enc:TypeId×Value->H)(P:Program)(w:World)(base:Nat)(spare:Nat->Bool)(held:Bool)(n:Nat)(t:TypeId)(d:DataW H):Prop:=∃cs pl,DataW.trod enc P w base spare held n t cs=some (d,pl)
def WC(enc:TypeId×Value->H)(P:Program)(w:World)(base:Nat)(spare:Nat->Bool)(held:Bool)(n:Nat):ip->List (DataW H)->Prop
 |[],[]=>True|t::ts,d::ds=>PY enc P w base spare held n t d/\WC enc P w base spare held n ts ds|_,_=>False
variable{n:Nat}{t e:TypeId}{d:DataW H}
def PY.int{k:IntKind}(h:PY enc P w base spare held n t d)(hu:P.underlying t=some (.int k)):∃z,d= .lit (.int k z):=by obtain⟨cs,pl,h⟩:=h;obtain⟨z,_,e,_⟩:=DataW.trod_int hu h;exact⟨z,congrArg Prod.fst e⟩
def PY.bool(h:PY enc P w base spare held n t d)(hu:P.underlying t=some .bool):∃b,d= .lit (.bool b):=by obtain⟨cs,pl,h⟩:=h;obtain⟨z,_,e⟩:=DataW.trod_bool hu h;exact⟨z,congrArg Prod.fst e⟩
def PY.str(h:PY enc P w base spare held n t d)(hu:P.underlying t=some .string):∃b:List UInt8,d= .lit (.string b):=by obtain⟨cs,pl,h⟩:=h;obtain⟨z,_,e,_⟩:=DataW.trod_string hu h;exact⟨_,congrArg Prod.fst e⟩
def PY.slice(h:PY enc P w base spare held n t d)(hu:P.underlying t=some (.slice e)):d= .nil\/∃m elems sp,n=m+1/\d= .slice elems sp/\∀x∈elems,PY enc P w base spare held m e x:=by
 obtain⟨cs,pl,h⟩:=h;rcases DataW.trod_slice hu h with⟨_,e⟩|⟨a,len,cap,elems,rest,m,hn,_,e,_,_,_,hlen,rQ,_,_⟩
 ·exact .inl (congrArg Prod.fst e)
 ·refine .inr ⟨m,_,_,hn,congrArg Prod.fst e,fun x hx=> ?_⟩;obtain⟨y,hy,rfl⟩:=pB.1 hx;obtain⟨i,hi⟩:=mem_iff_getElem?.1 hy;have:=rQ i (by have:=(kK.1 hi).1;omega);rw[hi]at this;obtain⟨Ap,_,h2⟩:=AL.1 this;exact⟨Ap,y.2,h2⟩
def ZG{m:Nat}{fs:Array Field}{cs:aW}{xs:List (DataW H×List MemPlace)}(hf:∀(i:Nat)(f:Field),fs[i]? =some f->DataW.trod enc P w base spare held m f.type ((cs.drop f.offset).take (P.cellsOf f.type))=xs[i]?)(hl:xs.length=fs.size):
 ∀(l:List Field)(i:Nat),(∀j f,l[j]? =some f->fs[i+j]? =some f)->i+l.length=fs.size->WC enc P w base spare held m (l.map (·.type)) ((xs.drop i).map (·.1))
 |[],i,_,h=>by rw[rV (by simp at h;omega)];trivial
 |f::l,i,hi,h=>by
  simp only[AM]at h;have hfi:=hi 0 f rfl;rw[pA]at hfi;have:=hf i f hfi;rw[cB (by omega)]at this;rw[xD (by omega:i<xs.length),jQ];exact⟨⟨_,_,this⟩,ZG hf hl l (i+1) (fun j g hj=>by have:=hi (j+1) g (by simpa using hj);rw[show i+1+j=i+(j+1)by omega];exact this) (by omega)⟩
def PY.struct{fs:Array Field}{ts:ip}(h:PY enc P w base spare held n t d)(hu:P.underlying t=some (.struct fs))(ht:fs.toList.map (·.type)=ts):∃m ds,n=m+1/\d= .agg ds/\WC enc P w base spare held m ts ds:=by obtain⟨cs,pl,h⟩:=h;obtain⟨xs,m,hn,e,_,hl,hf⟩:=DataW.trod_struct hu h;refine⟨m,_,hn,congrArg Prod.fst e,?_⟩;have:=ZG hf hl fs.toList 0 (fun j f hj=>by simpa using hj) (by simp);rw[ht]at this;simpa using this
def WC.cons{m:Nat}{ts:ip}:∀{ds:List (DataW H)},WC enc P w base spare held m (t::ts) ds->∃x r,ds=x::r/\PY enc P w base spare held m t x/\WC enc P w base spare held m ts r
 |[],h=>h.elim|x::r,h=>⟨x,r,rfl,h.1,h.2⟩
def WC.nil{m:Nat}:∀{ds:List (DataW H)},WC enc P w base spare held m [] ds->ds=[]
 |[],_=>rfl|_::_,h=>h.elim
end
end
section
open Go.ChangeShapes Go.WideShapes Go.ChangeAt
theorem rY{H:Type}(d:DataW H):1<=Rows.uptoBulk d:=by
 cases d with
 |lit l=>cases l<;>simp[Rows.uptoBulk]
 |nil=>simp[Rows.uptoBulk]|ptr d=>simp[Rows.uptoBulk]|slice elems spare=>simp[Rows.uptoBulk]|agg parts=>simp[Rows.uptoBulk]|iface t d=>simp[Rows.uptoBulk]|map entries=>simp[Rows.uptoBulk]|held h=>simp[Rows.uptoBulk]
theorem Kp{H:Type}{d:DataW H}:∀{l:List (DataW H)},d∈l->Rows.uptoBulk d<=Rows.uptoBulkAll l
 |x::r,h=>by
  simp only[Rows.uptoBulkAll];rcases bX.1 h with rfl|h
  ·omega
  ·have:=Kp h;omega
theorem GX{H:Type}:∀l:List (DataW H),l.length<=Rows.uptoBulkAll l
 |[]=>xA _|d::r=>by have:=rY d;have:=GX r;simp only[Rows.uptoBulkAll,AM];omega
def BN:Nat:=1048576
def Ka:CK->Ty
 | .int _=> .int| .bool=> .bool| .str=> .str 4294967296| .sl e=> .ae e
def XA(P:Program)(S:ip):Bool:=S.all fun e=>match P8 P 8 e with
 |some ks=>(if qh P e then(match am.tk e with| .row cs=>decide (cs=ks.map Ka)|_=>false)else(match am.tk e,ks with| .vec t,[k]=>decide (t=Ka k)|_,_=>false))&&((am.ma e).isEmpty&&(ble BN (am.cap e)&& ! sj.any (Nat.beq e)))|none=>false
theorem ao8{P:Program}{S:ip}(h:XA P S=true){e:TypeId}(he:S.contains e=true){ks:jj}(hk:P8 P 8 e=some ks):(if qh P e=true then am.tk e= .row (ks.map Ka)else ∃k,ks=[k]/\am.tk e= .vec (Ka k))/\am.ma e=[]/\BN<=am.cap e/\sj.any (Nat.beq e)=false/\cT am e=true:=by
 have:=lO.1 h e (by simpa using he);rw[hk]at this;simp only[aL,NC]at this;obtain⟨h1,h2,h3,h4⟩:=this;have key:(if qh P e=true then am.tk e= .row (ks.map Ka)else ∃k,ks=[k]/\am.tk e= .vec (Ka k)):=by
  split at h1
  ·rename_i ha;rw[aA ha];split at h1
   ·rename_i cs hc;rw[hc,fv h1]
   ·cases h1
  ·rename_i ha;rw[aE ha];split at h1
   ·rename_i t k hc;exact⟨k,rfl,by rw[hc,fv h1]⟩
   ·cases h1
 refine⟨key,uO.1 h2,oo h3,h4,?_⟩;unfold cT;split at key
 ·rw[key]
 ·obtain⟨k,_,hk⟩:=key;rw[hk]
theorem KH{I:Nat->Sc->Prop}:∀{ts us:List Ty}{xs ys:ab},fl I ts xs->fl I us ys->fl I (ts++us) (xs++ys)
 |[],_,[],_,_,h2=>h2|_::_,_,_::_,_,h1,h2=>⟨h1.1,KH h1.2 h2⟩|[],_,_::_,_,h,_=>h.elim|_::_,_,[],_,h,_=>h.elim
section
variable{P:Program}{w:World}{base:Nat}{H:Type}{enc:TypeId×Value->H}{spare:Nat->Bool}{held:Bool}{pm:Pm}(hp:dG pm){S:ip}(hS:UW P S=true)(hY:XA P S=true)
include hp hS hY
theorem T1{m d':Nat}(ih:∀(t:TypeId)(ks:jj)(d:DataW H),P8 P d' t=some ks->sA S ks=true->PY enc P w base spare held m t d->Rows.uptoBulk d<=BN->fl (II pm) (ks.map Ka) (jX d)):
 ∀(fs:List Field)(n:Nat)(ks:jj)(ds:List (DataW H)),OY (P8 P d') P.cellsOf fs n=some ks->sA S ks=true->WC enc P w base spare held m (fs.map (·.type)) ds->Rows.uptoBulkAll ds<=BN->fl (II pm) (ks.map Ka) (yZ ds)
 |[],n,ks,ds,hk,_,hr,_=>by simp only[OY,eF]at hk;subst hk;rw[WC.nil hr,yZ];exact trivial
 |f::fs,n,ks,ds,hk,mZ,hr,hb=>by
  simp only[OY]at hk;obtain⟨x,r,rfl,h1,h2⟩:=WC.cons hr;simp only[Rows.uptoBulkAll]at hb;split at hk
  ·rename_i k1 e1;split at hk
   ·obtain⟨k2,e2,rfl⟩:=nW.1 hk;obtain⟨i1,i2⟩:=KP.1 mZ;rw[BP,yZ];exact KH (ih _ _ _ e1 i1 h1 (by omega)) (T1 ih fs _ _ _ e2 i2 h2 (by omega))
   ·cases hk
  ·cases hk
theorem anG:∀(n d':Nat)(t:TypeId)(ks:jj)(d:DataW H),P8 P d' t=some ks->sA S ks=true->PY enc P w base spare held n t d->Rows.uptoBulk d<=BN->fl (II pm) (ks.map Ka) (jX d):=by
 intro n;induction n using Nat.strongRecOn with
 |_ n ihn=>
 intro d' t ks d h mZ hr hb;cases d' with
 |zero=>simp[P8]at h|succ d'=>
 simp only[P8]at h;split at h
 ·rename_i k hu;cases h
  obtain⟨z,rfl⟩:=hr.int hu;exact⟨⟨z,by simp[]⟩,trivial⟩
 ·rename_i hu;cases h
  obtain⟨b,rfl⟩:=hr.bool hu;exact⟨⟨b,by simp[]⟩,trivial⟩
 ·rename_i hu;cases h
  obtain⟨b,rfl⟩:=hr.str hu;simp only[Rows.uptoBulk]at hb;exact⟨⟨⟨b.toArray⟩,rfl,by show b.toArray.size<=_;rw[Jq];unfold BN at hb;omega⟩,trivial⟩
 ·rename_i e hu;cases h
  have he:S.contains e=true:=by unfold sA at mZ;simpa using mZ
  obtain⟨ks,hk,_,_,_,acf⟩:=XB hS he;obtain⟨h1,h2,h3,h4,h5⟩:=ao8 hY he hk;rcases hr.slice hu with rfl|⟨m,elems,sp,rfl,rfl,hx⟩
  ·exact⟨qd hp h5 h4,trivial⟩
  ·simp only[Rows.uptoBulk]at hb;have hlen:=GX elems;have key:II pm e (.l (IK elems)):=by
    refine Ej hp h5 h4 (by rw[vF,Ab];omega) fun y hy=> ?_;rw[vF]at hy;obtain⟨x,Ws,rfl⟩:=pB.1 hy;have hrx:=hx x Ws;have Wl:=Kp Ws;have Rb:=ihn m (lt_succ_self m) 8 e ks x hk acf hrx (by omega);obtain⟨cs,pl,ht⟩:=hrx;obtain⟨zs,_,_,Cj⟩:=I7 hS m 8 e ks _ _ hk acf ht;have Cj:oG x=qh P e:=Cj;rw[Cj];unfold cA;cases ha:qh P e with
    |true=>
     rw[ha]at h1;rw[aA rfl]at h1;rw[h1];exact⟨⟨_,rfl,Rb⟩,fun q hq=>by rw[h2]at hq;cases hq⟩
    |false=>
     rw[ha,aE (by simp)]at h1;obtain⟨k,rfl,h1⟩:=h1;rw[h1]
     match hz:jX x,Rb with
     |[z],Rb=>exact Rb.1
   exact⟨key,trivial⟩
 ·rename_i fs hu;split at h
  ·rename_i Wu hf;split at h
   ·cases h
    obtain⟨m,ds,rfl,rfl,hds⟩:=hr.struct hu rfl;simp only[Rows.uptoBulk]at hb;rw[jX];exact T1 hp hS hY (fun t ks d h1 h2 h3 h4=>ihn m (lt_succ_self m) d' t ks d h1 h2 h3 h4) fs.toList 0 ks ds hf mZ hds (by omega)
   ·cases h
  ·cases h
 ·cases h
end
end
section
open Go.ChangeShapes Go.WideShapes Go.ChangeAt
def ahb{c:tr}(hc:c∈GK){l rs:ab}(h:Gf c.key l=some rs):∃F,c.holds Tryz.prog F/\F l=some rs:=by
 refine XK Ay (A8 nl) jJ (fun c hc hm=> ?_) LG (fun m hm=> ?_) hc h
 ·rw[FQ]at hc;rcases ic.1 hc with h|h
  ·obtain⟨m,h1,rfl⟩:=pB.1 h;exact absurd rfl (hm m h1)
  ·obtain⟨k,h1,rfl⟩:=pB.1 h;have hn:=LG;rw[FQ,BP]at hn;have P7:=(Kh.1 hn).2.1;rw[map_map]at P7;rw[XN P7 k h1];exact k.holds
 ·have h:m.bd∈Ay.map (·.bd)++nl.map (·.bd):=iv _ (NB hm);exact(congrArg (fun L=>m.bd∈L) FQ).mpr h
def noW:sX->Bool
 |[]=>true| .w _ _::_=>false|_::r=>noW r
def aaD{P:Program}{w:World}{ok:dg}:∀{ss:sX}{vs:aW}{X:ab}{U:aW},noW ss=true->nN P w ok ss vs X U->X=[]/\U=[]
 |[],[],_,_,_,h=>h|[],_::_,_,_,_,h=>h.elim|_::_,[],_,_,_,h=>h.elim|s::ss,v::vs,X,U,hn,h=>by
  obtain⟨X1,U1,X2,U2,rfl,rfl,h1,h2⟩:=h;cases s<;>first
   |(cases hn;done)
   |(obtain⟨rfl,rfl⟩:=h1
     obtain⟨rfl,rfl⟩:=aaD (ss:=ss) hn h2
     exact⟨rfl,rfl⟩)
def aaE{P:Program}{w:World}{ok:dg}:∀{ss:sX}{vs:aW},noW ss=true->ss.length=vs.length->Dd P w ok ss vs [] []
 |[],[],_,_=>⟨rfl,rfl⟩|[],_::_,_,h=>by cases h
 |_::_,[],_,h=>by cases h
 |s::ss,v::vs,hn,h=>by
  have h2:ss.length=vs.length:=Nat.succ.inj h;clear h;cases s<;>first
   |(cases hn;done)
   |exact⟨[],[],[],[],rfl,rfl,⟨rfl,rfl⟩,aaE (ss:=ss) hn h2⟩
def Vt{c:tr}(hc:c∈GK){S:dg}{w:World}{vs:aW}{l:ab}(cC:(callFunc c.f vs.toArray).run Tryz.prog w= .ok (.enter c.f vs.toArray) w)(hl:bf c.args=[])(dH:qj Tryz.prog w (fun _=>True) c.args vs l [])(hnw:noW c.args=true)(uK:c.args.length=vs.length)(hF:Gf c.key l=some [.b true])(JS:c.res= .c (.a (.ck .bool)))(hG:ol.G Tryz.prog S w):
 Calls Tryz.prog c.f vs.toArray w fun e w'=>e= .returned (.bool true)/\Below w.heap.size w w':=by
 obtain⟨F,hh,hF⟩:=ahb hc hF
 rcases hh S w hG (fun _=>True) vs [] [] [] [] [] [] l _ dH (by rw[hl];exact⟨rfl,rfl,rfl⟩) (aaE hnw uK) (by simp[bC]) (fun _ _=>trivial) (fun p hp=>by simp[bC]at hp) hF with⟨_,h⟩|⟨v,w',h,_⟩
 rotate_left
 ·rw[cC]at h;cases h
 refine h.mono ?_
 rintro e w' ⟨v,rfl,hb,x1,xb,x2,r,Gw,u1,ub,u2,e1,_,_,ho,hk,hr,_⟩
 rw[JS]at hr
 rw[hl]at ho
 obtain⟨rfl,rfl,rfl⟩:=ho
 obtain⟨rfl,rfl⟩:=aaD hnw hk
 obtain⟨rfl,rfl,x,rfl,dd,hd,hx,_⟩:=hr
 simp only[rU,uP,uQ,and_true]at e1
 subst e1
 have hx:v= .bool dd.bool:=hx
 have:dd= .b true:=by cases dd<;>simp_all [Sc.er]
 subst this
 exact⟨by rw[hx];rfl,⟨hb.os,hb.tape,hb.output,hb.size,fun k hk=>hb.block k hk (by simp[bC])⟩⟩
def asm:ip:=[344]
def abZ:UW Tryz.prog asm=true:=by kernel_rfl
def Mh{W:World}(h:laidMetH Tryz.prog Rows.topIsolatedUptoRow.laid W):ol.G Tryz.prog (fun p=>p<W.heap.size) W:=by
 rw[MakeChecks.laidMetH_plain _ _ _ (by kernel_rfl)]at h;obtain⟨ps,hL,_,_⟩:=h;obtain⟨g,t,cs,fuel,p,q,h1,h2,h3,h4,_,_⟩:=hL;have g0:g=0:=xX (h1.symm.trans (by kernel_rfl));subst g0;have t0:t=345:=xX (h2.symm.trans (by kernel_rfl));subst t0;obtain⟨zs,hl,he,_⟩:=I7 abZ fuel 8 345 [.sl 344] _ _ (by kernel_rfl) (by decide) h4;have hlen:=hl.len;obtain⟨z,rfl⟩:∃z,zs=[z]:=by
  match zs,hlen with
  |[z],_=>exact⟨z,rfl⟩
 have hf:=hl.fits 0 _ rfl;have hf:Fits Tryz.prog W (fun _=>True) (.sl 344) z:=hf;have hv:=hl.val;cases hf with
 | @sl _ agg ks ad n cap xs hT Wt hc hm hcell mZ=>
   have nP:cs.toList=[.slice ad n cap]:=hv;have Nq:W.cell? ⟨0,0,none⟩=some (.slice ad n cap):=by rw[var?_cell h1 h3 0,<-qf,nP];rfl
   have hx:dP xs=Hs:=by
    have he:dP [Sc.r ad n cap xs]=jX (Rows.laid_simulator_code_forms:DataW Unit):=he;rw[show dP [Sc.r ad n cap xs]=[Sc.l (dP xs)]by simp[dP,Sc.er]]at he;have e2:jX (Rows.laid_simulator_code_forms:DataW Unit)=[Sc.l Hs]:=by kernel_rfl
    rw[e2]at he;exact Sc.l.inj (GF he).1
   refine⟨fun p hp=>hp,World.block_lt_of_cell? _ _ Nq,xs,ad,n,cap,fun ρ=> ?_,Wt,hc,hm,Nq,fun Jr Wu U6 j u hj=> ?_⟩
   ·show(Dz.ev ρ).er=_;rw[U0,hx];simp[Hs,DA,Sc.er,Ex.ev]
   ·have U6:eC Tryz.prog 344=some (Jr,Wu):=U6;rw[hT]at U6;cases U6
    obtain⟨p,o,e1,e2,_⟩:=hcell j u hj;exact⟨p,o,e1,e2,World.block_lt_of_cell? _ _ e2⟩
end
section
open Go.ChangeShapes Go.WideShapes Go.ChangeAt
def pm0:Pm:=⟨fun k=>if k∈sj then some 0 else none,fun _ _=>False,fun _=>some 0,.l []⟩
def Gj{k:Nat}(h:k∈sj):pm0.len k=some 0:=aA h
def Bn:dG pm0 where
 len k h:=by
  show k∈sj;by_cases hk:k∈sj
  ·exact hk
  ·exact absurd (show(if k∈sj then some 0 else none)=none from aE hk) h
 nat _ _ _ _ h:=h.elim
 isr _ h:=h.elim
 inr q hq:=by
  have h:∀q∈am.inr,q.2∈sj:=by decide+kernel
  exact⟨0,Gj (h q hq),fun _ h=>h.elim⟩
 Vs L hL n hn:=by
  have h:pm0.len gq=some 0:=Gj (by decide+kernel);rw[h]at hL;cases hL
  omega
 FL _ _ h:=h.elim
 aC:=⟨0,Gj (by decide+kernel)⟩
 rvl:=Gj (by decide+kernel)
 rvs n hn:=by have hn:n<0:=hn;omega
 ins n hn:=by have hn:n<0:=hn;omega
 hand n hn:=by have hn:n<0:=hn;omega
def agC:ip:=[3,9,35,63,100,105,109,111,115,117,134,184,193,200,270,408,411]
def F0:UW Tryz.prog agC=true:=by kernel_rfl
def ab0:XA Tryz.prog agC=true:=by kernel_rfl
section
variable{w:World}{base:Nat}{H:Type}{enc:TypeId×Value->H}{spare:Nat->Bool}{held:Bool}
def MU{t:TypeId}{ks:jj}{d:DataW H}{n:Nat}(hk:P8 Tryz.prog 8 t=some ks)(mZ:sA agC ks=true)(h:PY enc Tryz.prog w base spare held n t d)(hb:Rows.uptoBulk d<=BN):fl (II pm0) (ks.map Ka) (jX d):=
 anG Bn F0 ab0 n 8 t ks d hk mZ h hb
end
def ana{nm P L x0 x1 x2 x3 x4 x5 x6 x7 x8 x9 kI lu lx g:Sc}{S:ab}{s u:Int}{d:Bool}(hm:fl (II pm0) [.str 4294967296,.ae 115,.ae 35,.ae 134] [nm,P,.l S,L])(hx:fl (II pm0) [.str 4294967296,.ae 115,.ae 184,.ae 193,.ae 200,.ae 9,.ae 9,.ae 9,.ae 9,.ae 9,.ae 63,.ae 111,.ae 408] [x0,x1,x2,x3,x4,x5,x6,x7,x8,x9,kI,lu,lx])(hg:II pm0 117 g)(hS:S.length<1048576):Gf 3 [nm,P,.l S,L,x0,x1,x2,x3,x4,x5,x6,x7,x8,x9,kI,lu,lx,g,.i s,.b d,.i u]=some [.b true]:=by
 obtain⟨h1,h2,h3,h4,_⟩:=hm
 have h3:II pm0 35 (.l S):=h3
 obtain⟨lk,rfl⟩:=wL Bn (k:=134) (by decide+kernel) h4
 refine ao5 Bn (akY Bn) (x:= .l [x0,x1,x2,x3,x4,x5,x6,x7,x8,x9,kI,lu,lx]) rfl ⟨bA h1,bA h2,h3,h4⟩ ⟨bA h1,bA h2,?_,h4⟩ hg UA
 refine Ej Bn (by decide+kernel) (by decide+kernel) ?_ fun y hy=> ?_
 ·rw[fR,BM];exact bI hS (by decide+kernel)
 ·rcases ic.1 hy with hy|hy
  ·exact jM Bn (by decide+kernel) h3 y hy
  ·rw[cw.1 hy];exact Oe C1 (by kernel_rfl) hx
end
namespace topIsolated
open Go
noncomputable abbrev jP:=Tryz.pinned.checked.prog
noncomputable abbrev jR:=Rows.topIsolatedUptoRow
noncomputable abbrev jF:=Tryz.f3
noncomputable abbrev jS:=(Rows.OpenSpec.upto Rows.topIsolatedSpec).bare
noncomputable abbrev jT:=jF.params.toList++jS.plain.varTypes jP
noncomputable abbrev jU:=jF.params.toList++jS.plain.varTypes jP++jF.resultTypes.toList
end topIsolated
end Go.Proofs.YtnfambhakdnncaaGreatDoor
