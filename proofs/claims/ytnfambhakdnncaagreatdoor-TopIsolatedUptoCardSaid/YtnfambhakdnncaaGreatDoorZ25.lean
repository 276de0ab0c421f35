/-
  A part of the proof of TopIsolated: Av1, Al1, Al2, Al3, Al4.
-/
import Derived.Test.YtnfambhakdnncaaGreatDoorZ04
import Derived.KernelRfl
namespace Go.Proofs.YtnfambhakdnncaaGreatDoor
set_option linter.all false
set_option maxRecDepth 1000000
set_option maxHeartbeats 80000000
open List Nat Int Go.RowKit
inductive BT(M:Type) where
 |nil|ah (m:M)|node (k:Nat) (a b:BT M)
section
variable{M:Type}(kf:M->Nat)
def BT.of:Nat->List M->BT M
 |0,_=> .nil|_+1,[]=> .nil|_+1,[m]=> .ah m|n+1,a::b::l=>match(a::b::l).drop ((a::b::l).length/2)with
  |[]=> .nil|m::r=> .node (kf m) (BT.of n ((a::b::l).take ((a::b::l).length/2))) (BT.of n (m::r))
def BT.get:BT M->Nat->Option M
 | .nil,_=>none| .ah m,key=>bif Nat.beq (kf m) key then some m else none| .node m a b,key=>bif blt key m then a.get key else b.get key
def BT.QJ{key:Nat}{m:M}:∀{n:Nat}{l:List M},(BT.of kf n l).get kf key=some m->m∈l/\Nat.beq (kf m) key=true
 |0,_,h=>by cases h
 |_+1,[],h=>by cases h
 |_+1,[x],h=>by
  simp only[BT.of,BT.get]at h;cases hb:Nat.beq (kf x) key with
  |false=>rw[hb]at h;cases h
  |true=>rw[hb]at h;cases h;exact⟨by simp,hb⟩
 |n+1,a::b::l,h=>by
  unfold BT.of at h;split at h
  ·cases h
  ·rename_i y r hd;simp only[BT.get]at h;cases hb:blt key (kf y)with
   |false=>
    rw[hb]at h;have:=BT.QJ h;exact⟨xB (by rw[hd];exact this.1),this.2⟩
   |true=>
    rw[hb]at h;have:=BT.QJ h;exact⟨vS this.1,this.2⟩
def EG{key:Nat}{m:M}:∀{l:List M},(l.map kf).Nodup->m∈l->Nat.beq (kf m) key=true->l.find? (fun x=>Nat.beq (kf x) key)=some m
 |[],_,h,_=>by cases h
 |a::l,hn,h,hk=>by
  simp only[jQ,xV]at hn;rw[find?_cons];rcases bX.1 h with rfl|h
  ·rw[hk]
  ·have:Nat.beq (kf a) key=false:=by
    cases e:Nat.beq (kf a) key with|false=>rfl|true=>exact absurd (pB.2 ⟨m,h,by rw[fh hk,fh e]⟩) hn.1
   rw[this];exact EG hn.2 h hk
end
def SP{P:Program}[ol P]{key:Nat}{l r:ab}:∀{L:List (uN P)},A8 L key l=some r->∃k∈L,k.bd.key=key
 |[],h=>by cases h
 |k::L,h=>by
  simp only[A8]at h;split at h
  ·exact⟨k,by simp,‹_›⟩
  ·obtain⟨x,hx,e⟩:=SP h;exact⟨x,by simp[hx],e⟩
def Zk:(Ay.map fun m=>m.bd.key).Nodup/\∀m∈Ay,∀k∈nl,m.bd.key≠k.bd.key:=by have h:=LG;rw[FQ,BP,map_map,map_map,Kh]at h;exact⟨h.1,fun m hm k hk=>h.2.2 _ (NB hm) _ (NB hk)⟩
mutual
def VW:Sc->Sc->Bool
 | .i x,.i y=>decide (x=y)| .b x,.b y=>x==y| .s x,.s y=>decide (x.data.toList=y.data.toList)| .l x,.l y=>Py x y|_,_=>false
def Py:ab->ab->Bool
 |[],[]=>true|x::xs,y::ys=>VW x y&&Py xs ys|_,_=>false
end
mutual
def ac7:∀{x y:Sc},VW x y=true->x=y
 | .i x,.i y,h=>by rw[VW]at h;rw[fv h]
 | .b x,.b y,h=>by rw[VW]at h;rw[eq_of_beq h]
 | .s x,.s y,h=>by
   rw[VW]at h;have h:=fv h;congr 1;cases x;cases y
   congr 1;exact Array.toList_inj.1 h
 | .l x,.l y,h=>by rw[VW]at h;rw[IL h]
def IL:∀{x y:ab},Py x y=true->x=y
 |[],[],_=>rfl|x::xs,y::ys,h=>by rw[Py,aL]at h;rw[ac7 h.1,IL h.2]
end
structure Fk where
 k:Nat
 a:ab
 r:ab
noncomputable def avT:BT (Mb Tryz.prog GK):=BT.of (·.bd.key) 12 Ay
section
variable(ms:List Fk)
noncomputable def gT:Nat->Nat->dK
 |0,_,_=>none|n+1,key,l=>match ms.find? fun m=>Nat.beq m.k key&&Py m.a l with
  |some m=>some m.r|none=>match avT.get (·.bd.key) key with
   |some q=>bif Nat.beq l.length q.bd.width then q.t.aF (gT n) l []else none|none=>A8 nl key l
variable{ms}
def uZ{Γ1 Γ2:Nat->dK}(h1:∀f a r,Γ1 f a=some r->Γ2 f a=some r):∀(t:T bZ)(ρ:ab)(K1 K2:List dK),K1.length=K2.length->(∀(l:Nat)(k1 k2:dK),K1[l]? =some k1->K2[l]? =some k2->∀v r,k1 v=some r->k2 v=some r)->∀r,t.aF Γ1 ρ K1=some r->t.aF Γ2 ρ K2=some r
 | .ah es,ρ,K1,K2,hK,hk,r,h=>by simpa only[T.aF]using h
 | .fail _,ρ,K1,K2,hK,hk,r,h=>by simp[T.aF]at h
 | .ite c a b,ρ,K1,K2,hK,hk,r,h=>by
   simp only[T.aF]at h⊢;split
   ·rename_i hh;rw[aA hh]at h;exact uZ h1 a ρ K1 K2 hK hk r h
   ·rename_i hh;rw[aE hh]at h;exact uZ h1 b ρ K1 K2 hK hk r h
 | .aa c k,ρ,K1,K2,hK,hk,r,h=>by
   simp only[T.aF]at h⊢;split
   ·rename_i hh;rw[aA hh]at h;exact uZ h1 k ρ K1 K2 hK hk r h
   ·rename_i hh;rw[aE hh]at h;cases h
 | .call f es n k,ρ,K1,K2,hK,hk,r,h=>by
   simp only[T.aF]at h⊢;cases hg:Γ1 f (es.map (Ex.ev ρ))with
   |none=>rw[hg]at h;cases h
   |some rs=>
    rw[hg]at h;rw[h1 f _ _ hg];simp only at h⊢;split
    ·rename_i hh;rw[aA hh]at h;exact uZ h1 k (ρ++rs) K1 K2 hK hk r h
    ·rename_i hh;rw[aE hh]at h;cases h
 | .loop jH body,ρ,K1,K2,hK,hk,r,h=>by
   simp only[T.aF]at h⊢;have key:∀n v r,cH (fun rec v=>body.aF Γ1 (ρ++v) (K1++[rec])) n v=some r->cH (fun rec v=>body.aF Γ2 (ρ++v) (K2++[rec])) n v=some r:=by
    intro n;induction n with
    |zero=>intro v r h;cases h
    |succ n ih=>
     intro v r h;simp only[cH]at h⊢;refine uZ h1 body (ρ++v) _ _ (by simp[hK]) ?_ r h;intro l k1 k2 e1 e2 v r hv;by_cases bi:l<K1.length
     ·rw[gA bi]at e1;rw[gA (by omega)]at e2;exact hk l k1 k2 e1 e2 v r hv
     ·rw[lR (by omega)]at e1;rw[lR (by omega)]at e2;by_cases hz:l=K1.length
      ·rw[show l-K1.length=0 by omega]at e1;rw[show l-K2.length=0 by omega]at e2;cases e1;cases e2
       exact ih v r hv
      ·rw[mB (by simp;omega)]at e1;cases e1
   exact key fg _ r h
 | .next l vs,ρ,K1,K2,hK,hk,r,h=>by
   simp only[T.aF]at h⊢;cases e1:K1[l]? with
   |none=>rw[e1]at h;cases h
   |some k1=>
    rw[e1]at h;have bi:l<K2.length:=by
     rw[<-hK];by_cases hh:l<K1.length
     ·exact hh
     ·rw[mB (by omega)]at e1;cases e1
    rw[cB bi];exact hk l k1 _ e1 (cB bi) _ r h
def aln(hm:∀m∈ms,Gf m.k m.a=some m.r):∀n key l r,gT ms n key l=some r->Gf key l=some r:=by
 intro n;induction n with
 |zero=>intro key l r h;cases h
 |succ n ih=>
  intro key l r h;unfold gT at h;split at h
  ·rename_i m hf;cases h
   have h2:=find?_some hf;rw[aL]at h2;rw[<-fh h2.1,<-IL h2.2];exact hm m (mem_of_find?_eq_some hf)
  split at h
  ·rename_i q hg;obtain⟨h1,h2⟩:=BT.QJ _ hg;rw[Wz (EG _ Zk.1 h1 h2)];cases hb:Nat.beq l.length q.bd.width with
   |false=>rw[hb]at h;cases h
   |true=>
    rw[hb]at h;rw[aA (fh hb)];exact uZ (fun f a r h=>ih f a r h) _ _ [] [] rfl (fun l k1 k2 e=>by simp at e) r h
  ·obtain⟨k,hk,e⟩:=SP h;exact(congrFun (SN Ay (A8 nl) (find?_eq_none.2 fun m hm e2=>Zk.2 m hm k hk (by rw[e,fh e2]))) l).trans h
end
abbrev Fs(ms:List Fk):Prop:=∀m∈ms,Gf m.k m.a=some m.r
def al0:List Fk:=[]
def ap0:Fs al0:=nofun
def kZ{ms:List Fk}{f:Fk}(h:Fs ms)(e:gT ms 60 f.k f.a=some f.r):Fs (f::ms):=fun m hm=>by
 rcases bX.1 hm with rfl|hm
 ·exact aln h 60 _ _ _ e
 ·exact h m hm
instance (n:Nat):OfNat Sc n:=⟨.i n⟩
abbrev bN:Sc:= .l []
def Nl:Sc:= .s ⟨#[]⟩
def Wf:Sc:= .b false
def da2:Sc:= .l [(.l [2,(.s ⟨#[100]⟩),(.s ⟨#[117]⟩),0,Nl,0,bN,0,Nl,0,bN,bN,2,1,4,0,bN,bN,Wf,bN,bN]),(.l [5,Nl,Nl,7,Nl,0,(.l [(.l [3,(.s ⟨#[100]⟩),0,bN])]),0,Nl,0,bN,bN,0,0,0,0,bN,bN,Wf,bN,bN]),(.l [17,(.s ⟨#[99]⟩),Nl,1,Nl,1,bN,0,Nl,0,bN,bN,0,0,0,0,bN,bN,Wf,bN,bN])]
def af1:Fk:=⟨92,[da2],[0]⟩
def al1:List Fk:=af1::al0
def ap1:Fs al1:=kZ ap0 (by kernel_rfl)
def FW:Sc:= .s ⟨#[109]⟩
def da4:Sc:= .s ⟨#[112]⟩
def da5:Sc:= .l [(.l [(.s ⟨#[100]⟩),1])]
def da6:Sc:= .l [(.l [da4,bN,3,0,0])]
def JX:Sc:= .l [(.l [(.s ⟨#[97]⟩),bN,bN,bN,bN,bN,(.l [(.s ⟨#[117]⟩)]),bN,bN,(.l [(.s ⟨#[99]⟩)]),(.l [(.l [da4,bN,da5,da2])]),da6,bN])]
def af2:Fk:=⟨47,[FW,bN,JX,bN],[0]⟩
def al2:List Fk:=af2::al1
def ap2:Fs al2:=kZ ap1 (by kernel_rfl)
def af3:Fk:=⟨48,[FW,bN,JX,bN,0,da5,da2],[0]⟩
def al3:List Fk:=af3::al2
def ap3:Fs al3:=kZ ap2 (by kernel_rfl)
def af4:Fk:=⟨22,[FW,bN,JX,bN],[0]⟩
def al4:List Fk:=af4::al3
def ap4:Fs al4:=kZ ap3 (by kernel_rfl)
def da8:Sc:= .l [(.l [3,0,0,0,0,Nl,0,bN,0,Nl,0,bN,bN,2,1,4,0,bN,bN,Wf]),(.l [6,0,0,0,7,Nl,0,(.l [(.l [25,Nl,0,bN])]),0,Nl,0,bN,bN,0,0,0,0,bN,bN,Wf]),(.l [18,0,0,0,1,Nl,1,bN,0,Nl,0,bN,bN,0,0,0,0,bN,bN,Wf]),(.l [19,0,0,0,0,Nl,0,bN,0,Nl,0,bN,bN,0,0,0,0,bN,bN,Wf])]
def SF:Sc:= .l [(.l [(.s ⟨#[97]⟩),bN,bN,bN,bN,bN,(.l [(.s ⟨#[117]⟩)]),bN,bN,(.l [(.s ⟨#[99]⟩)]),(.l [(.l [da4,bN,da5,bN])]),da6,bN,(.l [(.l [da4,0,1,da8])])])]
def af5:Fk:=⟨33,[FW,SF,bN],[0]⟩
def al5:List Fk:=af5::al4
def ap5:Fs al5:=kZ ap4 (by kernel_rfl)
def af6:Fk:=⟨13,[FW,bN,JX,bN,bN],[FW,bN,JX,bN,0]⟩
def al6:List Fk:=af6::al5
def ap6:Fs al6:=kZ ap5 (by kernel_rfl)
def af7:Fk:=⟨29,[FW,bN,JX,bN],[FW,bN,JX,bN,0]⟩
def al7:List Fk:=af7::al6
def ap7:Fs al7:=kZ ap6 (by kernel_rfl)
def af8:Fk:=⟨31,[FW,bN,JX,bN,0,0],[da4,0,1,da8,0]⟩
def al8:List Fk:=af8::al7
def ap8:Fs al8:=kZ ap7 (by kernel_rfl)
def af9:Fk:=⟨14,[FW,bN,JX,bN],[FW,SF,bN,0]⟩
def al9:List Fk:=af9::al8
def ap9:Fs al9:=kZ ap8 (by kernel_rfl)
def abP:Sc:= .l [(.l [3,2,0,0,0,3,0,0,bN])]
def abQ:Sc:= .l [(.l [13187652179984800840,0,Wf])]
def uY:Sc:= .l [0]
def arq:Fk:=⟨34,[FW,SF,bN,0,5,Wf],[0,0,1,abP,bN,0,bN,bN,bN,bN,bN,abQ,bN,bN,uY,uY,uY,0,0]⟩
def ajB:List Fk:=arq::al9
def arN:Fs ajB:=kZ ap9 (by kernel_rfl)
def Xe:Sc:= .l [(.l [0,0,1,abP,bN,0,bN,bN,bN,bN,bN,abQ,bN,bN,uY,uY,uY,0])]
def arr:Fk:=⟨15,[FW,SF,bN,5,Wf],[Xe,0]⟩
def ajC:List Fk:=arr::ajB
def arO:Fs ajC:=kZ arN (by kernel_rfl)
def ars:Fk:=⟨7,[FW,bN,JX,bN,bN,5,Wf],[FW,SF,bN,Xe,0]⟩
def ajD:List Fk:=ars::ajC
def arP:Fs ajD:=kZ arO (by kernel_rfl)
end Go.Proofs.YtnfambhakdnncaaGreatDoor
