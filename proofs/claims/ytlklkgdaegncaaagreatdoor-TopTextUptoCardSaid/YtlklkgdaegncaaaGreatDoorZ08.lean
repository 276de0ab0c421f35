/-
  A part of the proof of TopText: KtP, KtH, Pa, KtK, Dat, Pb, Txt, Pc, Kt1, Kt2.
-/
import Derived.Test.YtlklkgdaegncaaaGreatDoorZ07
import Derived.Shelf.Strconv.AtoiAll
import Derived.WalkKit
import Derived.KernelRfl
import Derived.Lib.ItoaNum
import Derived.Lib.Join
namespace Go.Proofs.YtlklkgdaegncaaaGreatDoor
set_option linter.unusedVariables false
set_option linter.unusedSimpArgs false
set_option linter.defProp false
set_option maxRecDepth 20000
set_option maxHeartbeats 8000000
open List
open Nat
open Int
section
open Go.RowKit Go.Shelf Go.Lib
theorem aor (n:Int) (h0: -1000000000000<=n) (h1:n<=1000000000000) (w:World):Calls Tryz.prog 182 #[.int .i64 n] w fun e w'=>e= .returned (.bool true)/\w'=w:=by
 have mixed:Tryz.prog.follows .mixedOrders=true:=ym
 have t3:=Tryz.underlying3;have a3:=Tryz.isAgg3;have z3:=Tryz.sizeOf3;have u3:=run_underlying Tryz.underlying3
 have t4:=Tryz.underlying4;have a4:=Tryz.isAgg4;have z4:=Tryz.sizeOf4
 have d0:decide (-1000000000000<=n)=true:=by simpa using h0
 have d1:decide (n<=1000000000000)=true:=by simpa using h1
 go_enter Tryz.func182,Tryz.ntmps182
 go_wp2
 go_ret
 exact⟨rfl,rfl⟩
theorem aja (n:Int) (h0: -9223372036854775808<=n) (h1:n<=9223372036854775807) (w:World) (hG:Uc w):Calls Tryz.prog 18 #[.int .i64 n] w fun e w'=>e= .returned (.string ⟨(Lib.itoa n).toArray⟩)/\Below w.heap.size w w':=by
 have mixed:Tryz.prog.follows .mixedOrders=true:=ym
 have c1:=Tryz.call49
 have t3:=Tryz.underlying3;have a3:=Tryz.isAgg3;have z3:=Tryz.sizeOf3;have u3:=run_underlying Tryz.underlying3
 have hI:Calls Tryz.prog 49 #[.int .i64 n] w fun e w'=>e= .returned (.string ⟨(Lib.itoa n).toArray⟩)/\∃k os,w'=Sort.grow (w.drewN k) os:=Any.strconv_Itoa laysItoa n h0 h1 w ((aeX laysItoa.m17).2 hG)
 go_enter Tryz.func18,Tryz.ntmps18
 go_wp2_with (go_at_fn 49;fail)
 refine hI.mono ?_
 rintro e w' ⟨rfl,k,os,rfl⟩
 go_wp2
 go_ret
 exact⟨rfl,ZP w k os⟩
theorem aiC {w w':World} (h:Uc w) (hb:Below w.heap.size w w'):Uc w':=by
 have fU:=aas h
 unfold Uc JY at h⊢
 rw[hb.block _ fU];exact h
theorem agC (v:Int) (h0: -1000000000000<=v) (h1:v<=1000000000000) (h:Lib.atoiAll (Lib.itoa v)= .ok v) (hs:(Lib.itoa v).length<=9223372036854775806) (w:World) (hG:Uc w):Calls Tryz.prog 231 #[.string ⟨(Lib.itoa v).toArray⟩] w fun e w'=>e= .returned (.tuple #[.int .i64 v,.bool true])/\Below w.heap.size w w':=by
 have mixed:Tryz.prog.follows .mixedOrders=true:=ym
 have c1:=Tryz.call279
 have c2:=Tryz.call182
 have c3:=Tryz.call18
 have t3:=Tryz.underlying3;have a3:=Tryz.isAgg3;have z3:=Tryz.sizeOf3;have u3:=run_underlying Tryz.underlying3
 have t4:=Tryz.underlying4;have a4:=Tryz.isAgg4;have z4:=Tryz.sizeOf4;have u4:=run_underlying Tryz.underlying4
 have t9:=Tryz.underlying9;have a9:=Tryz.isAgg9;have z9:=Tryz.sizeOf9;have u9:=run_underlying Tryz.underlying9
 have hA:Calls Tryz.prog 279 #[.string ⟨(Lib.itoa v).toArray⟩] w fun e w'=>e= .returned (.tuple #[.int .i64 v,.nilIface])/\(w'=w\/∃t,w'=Lib.bytesWorld w (laysAtoi_ren.t 5) t):=Any.strconv_Atoi_ok laysAtoi ⟨(Lib.itoa v).toArray⟩ (by simpa[ByteArray.size]using hs) v (by simpa using h) w
 go_enter Tryz.func231,Tryz.ntmps231
 have hB:∀w':World,(w'=w\/∃t,w'=Lib.bytesWorld w (laysAtoi_ren.t 5) t)->Below w.heap.size w w':=fun w' h=>by
  rcases h with rfl|⟨t,rfl⟩
  ·exact .refl _ _
  ·exact Lib.bytesWorld_below w _ t
 have hN:=fun w'=>aor v h0 h1 w'
 have hT:=fun(w':World) (hb:Below w.heap.size w w')=>aja v (by omega) (by omega) w' (aiC hG hb)
 go_wp2_with (go_at_fn 279;fail)
 refine hA.mono ?_
 rintro e w1 ⟨rfl,hw1⟩
 have hb1:=hB w1 hw1
 go_wp2_with (go_at_fn 182;fail)
 refine(hN w1).mono ?_
 rintro e w2 ⟨rfl,rfl⟩
 go_wp2_with (go_at_fn 18;fail)
 refine(hT w2 hb1).mono ?_
 rintro e w3 ⟨rfl,hb3⟩
 go_wp2
 go_ret2
 exact⟨rfl,hb3.os.trans hb1.os,hb3.tape.trans hb1.tape,hb3.output.trans hb1.output,Nat.le_trans hb1.size hb3.size,fun j hj=>(hb3.block j (Nat.lt_of_lt_of_le hj hb1.size)).trans (hb1.block j hj)⟩
def aaq:fF
 |[.s s]=>match Lib.atoiAll s.data.toList with
  | .ok v=>if-1000000000000<=v/\v<=1000000000000/\Lib.itoa v=s.data.toList/\(Lib.itoa v).length<=9223372036854775806 then some [.i v,.b true]else none
  |_=>none
 |_=>none
def SU:nK:=⟨231,231,[AS.ck .str].map CS.a,.t [.a (.ck (.int .i64)),.a (.ck .bool)]⟩
theorem agD:SU.holds Tryz.prog aaq:=by
 refine Rq fun w ok vs l rs hG kY hF=> ?_
 obtain⟨v,x,rfl,rfl,h1⟩:=aqY kY
 have hv:=vR (fun _ h=>by cases h) h1
 unfold aaq at hF
 split at hF
 ·rename_i s he
  cases he
  split at hF
  ·rename_i n hn
   split at hF
   ·rename_i hc
    cases hF
    obtain⟨c1,c2,c3,c4⟩:=hc
    have hs:s=⟨(Lib.itoa n).toArray⟩:=by
     cases s with
     |mk d=>simp only[c3]
    rw[<-c3]at hn
    subst hv
    subst hs
    refine .inl ⟨Tryz.call231 _ _,(agC n c1 c2 hn c4 w hG).mono ?_⟩
    rintro e w' ⟨rfl,hb⟩
    exact⟨_,rfl,hb,[],[],[.i n,.b true],rfl,nodup_nil,(fun p hp=>by cases hp),rfl,rfl,[.int .i64 n,.bool true],rfl,[.i n],[.b true],rfl,⟨_,rfl,_,rfl,rfl,.int _ _⟩,[.b true],[],rfl,⟨_,rfl,_,rfl,rfl,.bool _⟩,rfl⟩
   ·cases hF
  ·cases hF
 ·cases hF
noncomputable def B5:rj Tryz.prog:=⟨SU,aaq,agD⟩
end

section
def bs (l:List UInt8):ByteArray:=⟨l.toArray⟩
@[simp] theorem aq5 (l:List UInt8):(bs l).data.toList=l:=rfl
theorem toList_eq (x:ByteArray):x.toList=x.data.toList:=by
 exact ByteArray.toList_eq x
@[simp] theorem akP (l:List UInt8):(bs l).toList=l:=by
 rw[toList_eq];rfl
@[simp] theorem aq6 (l:List UInt8):(bs l).size=l.length:=by simp[bs,ByteArray.size]
theorem au6 (a b:List UInt8):bs a++bs b=bs (a++b):=by
 apply ByteArray.ext
 rw[ByteArray.data_append]
 simp[bs]
theorem ayb (x:ByteArray):x=bs x.data.toList:=rfl
theorem aq7 (a:List UInt8) (i j:Nat) (h:j<=a.length):(bs a).extract i j=bs ((a.take j).drop i):=by
 apply ByteArray.ext
 rw[ByteArray.data_extract]
 apply Array.ext'
 simp[bs]
 exact extract_eq_drop_take'
theorem afV {P:Program} [xj P]{K L:List (rj P)} (hd:((K++L).map (·.dr.key)).Nodup){i:Nat}{k:rj P} (h:K[i]? =some k):dl (K++L) k.dr.key=k.F:=
 ad9 hd k (mem_append_left _ (mem_of_getElem? h))
theorem ak8 {P:Program} [xj P]{K L:List (rj P)} (hd:((K++L).map (·.dr.key)).Nodup){i:Nat}{k:rj P} (h:L[i]? =some k):dl (K++L) k.dr.key=k.F:=
 ad9 hd k (mem_append_right _ (mem_of_getElem? h))
section
variable {P:Program} [xj P] [Bld P] [Mrg P] [Att P] (mixed:P.follows .mixedOrders=true) (L:List (rj P)) (cs:nw) (hd:((cs++L.map (·.dr)).map nK.key).Nodup) (ms:List (Mem P (cs++L.map (·.dr)))) (hm:ms.map (·.dr)=cs)
theorem OD (n:Nat):(((XI mixed L cs hd ms hm n).1++L).map (·.dr.key)).Nodup:=by
 have e:(XI mixed L cs hd ms hm n).1.map (·.dr.key)=cs.map nK.key:=by
  have:=congrArg (List.map nK.key) (XI mixed L cs hd ms hm n).2
  rw[map_map]at this
  exact this
 rw[map_append,e]
 rw[map_append,map_map]at hd
 exact hd
theorem ano (n:Nat){i:Nat}{m:Mem P (cs++L.map (·.dr))} (hi:ms[i]? =some m) (l:aP):dl ((XI mixed L cs hd ms hm (n+1)).1++L) m.dr.key l=if l.length=m.dr.width then m.t.bR (dl ((XI mixed L cs hd ms hm n).1++L)) l []else none:=by
 have h:(XI mixed L cs hd ms hm (n+1)).1[i]? =some (known mixed ((XI mixed L cs hd ms hm n).1++L) (OD mixed L cs hd ms hm n) m.hs m.pl m.pK m.ins m.Ru m.d m.dr m.dU m.t (by
  have:((XI mixed L cs hd ms hm n).1++L).map (·.dr)=cs++L.map (·.dr):=by
   rw[map_append,(XI mixed L cs hd ms hm n).2]
  rw[this];exact m.ht)):=by
  simp only[XI,getElem?_map,hi]
  rfl
 have:=afV (OD mixed L cs hd ms hm (n+1)) h
 exact congrFun this l
theorem ann (n:Nat){i:Nat} (h:i<cs.length):i<(XI mixed L cs hd ms hm n).1.length:=by
 have:=congrArg List.length (XI mixed L cs hd ms hm n).2
 rw[length_map]at this
 omega
theorem aro (n:Nat){j:Nat}{k:rj P} (hj:L[j]? =some k):dl ((XI mixed L cs hd ms hm n).1++L) k.dr.key=k.F:=ak8 (OD mixed L cs hd ms hm n) hj
theorem arp (n:Nat){i:Nat} (h:i<(XI mixed L cs hd ms hm n).1.length){key:Nat} (hk:(cs.map nK.key)[i]? =some key):((XI mixed L cs hd ms hm n).1[i]).F=dl ((XI mixed L cs hd ms hm n).1++L) key:=by
 have h1:=afV (OD mixed L cs hd ms hm n) (getElem?_eq_getElem h)
 have e:((XI mixed L cs hd ms hm n).1[i]).dr.key=key:=by
  rw[<-(XI mixed L cs hd ms hm n).2,getElem?_map,getElem?_map,getElem?_eq_getElem h]at hk
  simpa using hk
 rw[e]at h1
 exact h1.symm
end
theorem bO (g:fF->fF) (n:Nat) (v:aP):dz g (n+1) v=g (dz g n) v:=rfl
theorem DV {n:Nat} (h:n<340282366920938463463374607431768211456):∃k,aF=k+n+1:=⟨aF-n-1,by unfold aF;omega⟩
end
section
noncomputable section
open Go.RowKit
abbrev KP:=rj Tryz.prog
abbrev KL:=List KP
abbrev Cq (dr:nK):Prop:=∀args w,(callFunc dr.f args).run Tryz.prog w= .ok (.enter dr.f args) w
def kn (L:KL) (hs:List As) (dr:nK) (hc:Cq dr) (t:T mA) (hd:(L.map (·.dr.key)).Nodup:=by decide) (ht:tree (akW Tryz.prog (L.map (·.dr)) hs KM Gb) 9 dr=t:=by kernel_rfl):KP:=known ym L hd hs KM awM Gb aow 9 dr hc t ht
def kh (L:KL) (hs:List As) (dr:nK) (hc:Cq dr) (t:T mA) (hd:(L.map (·.dr.key)).Nodup:=by decide) (ht:tree (akW Tryz.prog (L.map (·.dr)) hs aar Gb) 9 dr=t:=by kernel_rfl):KP:=known ym L hd hs aar aAV Gb aow 9 dr hc t ht
abbrev EL:=mA
abbrev TL:=T EL
instance (n:Nat):OfNat Ex n:=⟨.v n⟩
def vsE (l:jl):mA:=l.map .v
def nI (e:Ex) (l:jl):mA:=l.map fun i=> .u (.cell i) e
def cq:mA->Ex->Ex
 |[],t=>t
 |a::r,t=> .o .cons a (cq r t)
def bm (x y:Ex):Ex:= .o .eq x y
def gq (x y:Ex):Ex:= .o .ne x y
def aU (x y:Ex):Ex:= .o .le x y
def aS (x y:Ex):Ex:= .o .lt x y
def bG (x y:Ex):Ex:= .o .idx x y
def eu (x:Ex):Ex:= .o (.add .i64) x (.i 1)
def aG (x:Ex):Ex:= .u .len x
def jK (x:Ex):Ex:= .u .not x
def bE (n:Nat) (x:Ex):Ex:= .u (.cell n) x
def hq (k:Nat) (v:List (Nat×Nat)) (t:jl) (r:List (Nat×Nat×Nat)):As:=⟨k,v,t,r,[],[],[],[],[],0⟩
def xh:AS:= .ck (.int .i64)
def UV:AS:= .ck .str
def cbA:AS:= .ck .bool
def jy (n:Nat):AS:= .ck (.sl n)
abbrev Mm (cs:nw) (L:KL):=Mem Tryz.prog (cs++L.map (·.dr))
def mq {cs:nw}{L:KL} (dr:nK) (hs:List As) (hc:Cq dr) (t:T mA) (ht:tree (akW Tryz.prog (cs++L.map (·.dr)) hs KM Gb) 9 dr=t:=by kernel_rfl):Mm cs L:=⟨dr,hs,KM,awM,Gb,aow,9,hc,t,ht⟩
structure Fm where
 L:KL
 cs:nw
 ms:List (Mm cs L)
 hd:((cs++L.map (·.dr)).map nK.key).Nodup:=by decide
 hm:ms.map (·.dr)=cs:=by rfl
def Fm.K (f:Fm) (k:Nat):KL:=(XI ym f.L f.cs f.hd f.ms f.hm k).1
def Fm.g (f:Fm) (k:Nat):Nat->fF:=dl (f.K k++f.L)
theorem Fm.out (f:Fm) (k:Nat){j:Nat}{x:KP} (hj:f.L[j]? =some x):f.g k x.dr.key=x.F:=aro ym f.L f.cs f.hd f.ms f.hm k hj
theorem Fm.step (f:Fm) (k:Nat){i:Nat}{m:Mm f.cs f.L} (hi:f.ms[i]? =some m) (l:aP):f.g (k+1) m.dr.key l=if l.length=m.dr.width then m.t.bR (f.g k) l []else none:=ano ym f.L f.cs f.hd f.ms f.hm k hi l
def Fm.at (f:Fm) (i:Nat) (h:i<f.cs.length:=by decide) (k:Nat:=aF+1):KP:=(f.K k)[i]'(ann ym f.L f.cs f.hd f.ms f.hm k h)
theorem Fm.top (f:Fm) (i:Nat) (h:i<f.cs.length) (k:Nat){key:Nat} (hk:(f.cs.map nK.key)[i]? =some key):(f.at i h k).F=f.g k key:=arp ym f.L f.cs f.hd f.ms f.hm k (ann ym f.L f.cs f.hd f.ms f.hm k h) hk
end
end
abbrev Bs:=List UInt8
def ae {α:Type} (f:α->aP) (xs:List α):Sc:= .l (xs.map fun x=> .l (f x))
def bY (xs:uD):Sc:= .l (xs.map .i)
def am (xs:List Bs):Sc:= .l (xs.map fun x=> .s (bs x))
structure oO where
 op:Int
 a:Int
 b:Int
 n:Int
 vs:uD
 ws:uD
def oO.cs (d:oO):aP:=[.i d.op,.i d.a,.i d.b,.i d.n,bY d.vs,bY d.ws]
def oO.zero:oO:=⟨0,0,0,0,[],[]⟩
inductive aj where
 |mk (op:Int) (nm:Bs) (n:Int) (ks:List aj)
def aj.op:aj->Int| .mk x _ _ _=>x
def aj.nm:aj->Bs| .mk _ x _ _=>x
def aj.n:aj->Int| .mk _ _ x _=>x
def aj.ks:aj->List aj| .mk _ _ _ x=>x
def aj.zero:aj:= .mk 0 [] 0 []
mutual
def aj.cs:aj->aP
 | .mk op nm n ks=>[.i op,.s (bs nm),.i n,.l (aj.csL ks)]
def aj.csL:List aj->aP
 |[]=>[]
 |k::r=> .l k.cs::aj.csL r
end
theorem aj.UW:∀ks:List aj,aj.csL ks=ks.map fun k=> .l k.cs
 |[]=>rfl
 |k::r=>by rw[aj.csL,aj.UW r];rfl
theorem aj.jN (op:Int) (nm:Bs) (n:Int) (ks:List aj):(aj.mk op nm n ks).cs=[.i op,.s (bs nm),.i n,ae aj.cs ks]:=by
 rw[aj.cs,aj.UW];rfl
theorem aj.aA:∀e:aj,e.cs=[.i e.op,.s (bs e.nm),.i e.n,ae aj.cs e.ks]
 | .mk _ _ _ _=>aj.jN ..
inductive ax where
 |mk (op:Int) (nm pm:Bs) (e f:aj) (args:List aj) (d:oO) (flag:Bool) (body fG:List ax)
def ax.op:ax->Int| .mk x _ _ _ _ _ _ _ _ _=>x
def ax.nm:ax->Bs| .mk _ x _ _ _ _ _ _ _ _=>x
def ax.pm:ax->Bs| .mk _ _ x _ _ _ _ _ _ _=>x
def ax.e:ax->aj| .mk _ _ _ x _ _ _ _ _ _=>x
def ax.f:ax->aj| .mk _ _ _ _ x _ _ _ _ _=>x
def ax.args:ax->List aj| .mk _ _ _ _ _ x _ _ _ _=>x
def ax.d:ax->oO| .mk _ _ _ _ _ _ x _ _ _=>x
def ax.flag:ax->Bool| .mk _ _ _ _ _ _ _ x _ _=>x
def ax.body:ax->List ax| .mk _ _ _ _ _ _ _ _ x _=>x
def ax.fG:ax->List ax| .mk _ _ _ _ _ _ _ _ _ x=>x
mutual
def ax.cs:ax->aP
 | .mk op nm pm e f args d flag body fG=>[.i op,.s (bs nm),.s (bs pm)]++(e.cs++(f.cs++([ae aj.cs args]++(d.cs++[.b flag,.l (ax.csL body),.l (ax.csL fG)]))))
def ax.csL:List ax->aP
 |[]=>[]
 |k::r=> .l k.cs::ax.csL r
end
theorem ax.UW:∀ks:List ax,ax.csL ks=ks.map fun k=> .l k.cs
 |[]=>rfl
 |k::r=>by rw[ax.csL,ax.UW r];rfl
theorem ax.aA:∀s:ax,s.cs=[.i s.op,.s (bs s.nm),.s (bs s.pm),.i s.e.op,.s (bs s.e.nm),.i s.e.n,ae aj.cs s.e.ks,.i s.f.op,.s (bs s.f.nm),.i s.f.n,ae aj.cs s.f.ks,ae aj.cs s.args,.i s.d.op,.i s.d.a,.i s.d.b,.i s.d.n,bY s.d.vs,bY s.d.ws,.b s.flag,ae ax.cs s.body,ae ax.cs s.fG]
 | .mk op nm pm e f args d flag body fG=>by
   rw[ax.cs,ax.UW,ax.UW,aj.aA e,aj.aA f];rfl
structure io where
 nm:Bs
 ty:Int
def io.cs (x:io):aP:=[.s (bs x.nm),.i x.ty]
structure fh where
 nm:Bs
 ty:Int
 n:Int
def fh.cs (x:fh):aP:=[.s (bs x.nm),.i x.ty,.i x.n]
structure QQ where
 at_:Int
 gU:Int
def QQ.cs (x:QQ):aP:=[.i x.at_,.i x.gU]
structure oP where
 nm:Bs
 gU:Int
 shift:List QQ
 oh:Int
 fs:Bs
 up:oO
 down:oO
def oP.cs (x:oP):aP:=[.s (bs x.nm),.i x.gU,ae QQ.cs x.shift,.i x.oh,.s (bs x.fs)]++x.up.cs++x.down.cs
structure xg where
 nm:Bs
 room:Int
 KN:Int
def xg.cs (x:xg):aP:=[.s (bs x.nm),.i x.room,.i x.KN]
structure CO where
 nm:Bs
 length:Int
 step:Int
def CO.cs (x:CO):aP:=[.s (bs x.nm),.i x.length,.i x.step]
structure jv where
 nm:Bs
 params:List io
 locals:List io
 body:List ax
def jv.cs (x:jv):aP:=[.s (bs x.nm),ae io.cs x.params,ae io.cs x.locals,ae ax.cs x.body]
structure xB where
 rt:Bs
 args:uD
 at_:Int
 every:Int
 til:Int
def xB.cs (x:xB):aP:=[.s (bs x.rt),bY x.args,.i x.at_,.i x.every,.i x.til]
structure rR where
 jM:Int
 what:Bs
 nm:Bs
def rR.cs (x:rR):aP:=[.i x.jM,.s (bs x.what),.s (bs x.nm)]
structure zC where
 nm:Bs
 dK:List rR
 total:Int
def zC.cs (x:zC):aP:=[.s (bs x.nm),ae rR.cs x.dK,.i x.total]
structure dL where
 nm:Bs
 vars:List fh
 res:List oP
 cU:List xg
 kX:List CO
 fc:List Bs
 cd:List Bs
 de:List Bs
 levels:List Bs
 counts:List Bs
 nh:List jv
 starts:List xB
 laws:List zC
def dL.cs (x:dL):aP:=[.s (bs x.nm),ae fh.cs x.vars,ae oP.cs x.res,ae xg.cs x.cU,ae CO.cs x.kX,am x.fc,am x.cd,am x.de,am x.levels,am x.counts,ae jv.cs x.nh,ae xB.cs x.starts,ae zC.cs x.laws]
structure HR where
 from_:Bs
 aJL:Bs
 ue:Int
def HR.cs (x:HR):aP:=[.s (bs x.from_),.s (bs x.aJL),.i x.ue]
structure kL where
 nm:Bs
 params:List fh
 sites:List dL
 iH:List HR
def kL.cs (x:kL):aP:=[.s (bs x.nm),ae fh.cs x.params,ae dL.cs x.sites,ae HR.cs x.iH]
structure vO where
 op:Int
 a:Int
 b:Int
 c:Int
 e:aj
 f:aj
 args:List aj
 d:oO
 flag:Bool
def vO.cs (x:vO):aP:=[.i x.op,.i x.a,.i x.b,.i x.c,.i x.e.op,.s (bs x.e.nm),.i x.e.n,ae aj.cs x.e.ks,.i x.f.op,.s (bs x.f.nm),.i x.f.n,ae aj.cs x.f.ks,ae aj.cs x.args,.i x.d.op,.i x.d.a,.i x.d.b,.i x.d.n,bY x.d.vs,bY x.d.ws,.b x.flag]
structure CoD where
 nm:Bs
 params:Int
 aZ:Int
 ins:List vO
def CoD.cs (x:CoD):aP:=[.s (bs x.nm),.i x.params,.i x.aZ,ae vO.cs x.ins]
structure ScD where
 decl:dL
 nh:List CoD
def ScD.cs (x:ScD):aP:=x.decl.cs++[ae CoD.cs x.nh]
structure ArD where
 from_:Int
 aJL:Int
 ue:Int
def ArD.cs (x:ArD):aP:=[.i x.from_,.i x.aJL,.i x.ue]
structure PrD where
 nm:Bs
 sites:List ScD
 iH:List ArD
def PrD.cs (x:PrD):aP:=[.s (bs x.nm),ae ScD.cs x.sites,ae ArD.cs x.iH]
structure RZ where
 kind:Int
 text:Bs
 n:Int
 line:Int
def RZ.cs (x:RZ):aP:=[.i x.kind,.s (bs x.text),.i x.n,.i x.line]
abbrev xm:=List Bs
abbrev i7:=List aj
abbrev kb:=List ax
abbrev pO:=List RZ
theorem agn {g:fF->fF} (enc:Nat->aP) (r:Option aP):∀(d:Nat) (j k:Nat),(∀i,j<=i->i<j+d->∀rec,g rec (enc i)=rec (enc (i+1)))->(∀rec,g rec (enc (j+d))=r)->dz g (k+d+1) (enc j)=r
 |0,j,k,_,hf=>hf _
 |d+1,j,k,hs,hf=>by
  have h1:=agn enc r d (j+1) k (fun i h1 h2 rec=>hs i (by omega) (by omega) rec) (by rw[show j+1+d=j+(d+1)by omega];exact hf)
  rw[show k+(d+1)+1=(k+d+1)+1 by omega,bO,hs j (Nat.le_refl _) (by omega)]
  exact h1
theorem cu {g:fF->fF} (enc:Nat->aP) (n:Nat){v:aP}{r:Option aP} (hv:v=enc 0) (hn:n<340282366920938463463374607431768211456) (hs:∀i,i<n->∀rec,g rec (enc i)=rec (enc (i+1))) (hf:∀rec,g rec (enc n)=r):dz g aF v=r:=by
 obtain⟨k,hk⟩:=DV hn
 rw[hk,hv]
 exact agn enc r n 0 k (fun i _ h2 rec=>hs i (by omega) rec) (by rw[Nat.zero_add];exact hf)
theorem ai3 (xs:xm) (x:Bs):Sc.l ((am xs).list++[.s (bs x)])=am (xs++[x]):=by simp[am]
theorem fN {α:Type}{xs:List α}{i:Nat}{x:α} (h:xs[i]? =some x):xs.take i++[x]=xs.take (i+1):=by
 rw[take_add_one,h];rfl
theorem aV {α:Type}{xs:List α}{i:Nat} (h:i<xs.length):∃x,xs[i]? =some x:=⟨_,getElem?_eq_getElem h⟩
theorem bp {α:Type}{xs:List α}{i:Nat}{x:α} (h:xs[i]? =some x):i<xs.length:=(List.getElem?_eq_some_iff.1 h).1
theorem aM {α:Type}{xs:List α}{i:Nat}{x:α} (h:xs[i]? =some x):x∈xs:=mem_of_getElem? h
theorem cE {z:Int} (h1: -9223372036854775808<=z) (h2:z<=9223372036854775807):IntKind.wrap .i64 z=z:=by
 rw[IntKind.wrap_i64];omega
theorem aJ {k:Nat} (h:k<9223372036854775807):IntKind.wrap .i64 ((k:Int)+1)=((k+1:Nat):Int):=by
 rw[IntKind.wrap_i64];omega
def wd (l:jl):Bs:=l.map UInt8.ofNat
theorem aCu (ρ:aP) (l:jl):Ex.ev ρ (.s l)= .s (bs (wd l)):=rfl
def bQ (n:Int):Bs:=Lib.itoa n
def dE (ts:xm) (sep:Bs):Bs:=Lib.join ts sep
structure ff where
 kind:Int
 text:Bs
 n:Int
 deriving DecidableEq
def wT (w:Bs):ff:=⟨1,w,0⟩
def sT (w:Bs):ff:=⟨3,w,0⟩
def nT (n:Int):ff:=⟨2,[],n⟩
def dS:ff:=⟨4,[],0⟩
def enT:ff:=⟨0,[],0⟩
def pI (n:Int):Bs:=if n=0 then(wd [102,97,108,115,101])else(wd [116,114,117,101])
def lf (op:Int):Bs×Int×Bool:=
 if op=19 then((wd [111,114]),1,true)else if op=18 then((wd [97,110,100]),2,true)else if op=14 then((wd [61]),4,true)else if op=15 then((wd [33,61]),4,true)
 else if op=16 then((wd [60]),4,true)else if op=17 then((wd [60,61]),4,true)else if op=9 then((wd [43]),5,true)else if op=10 then((wd [45]),5,true)
 else if op=11 then((wd [42]),6,true)else if op=12 then((wd [47]),6,true)else if op=13 then((wd [37]),6,true)else([],8,false)
def kQ (op:Int):Int:=if op=6 then 3 else if op=5 then 7 else(lf op).2.1
def rQ (op least:Int) (t:Bs):Bs:=if kQ op<least then((wd [40])++t)++(wd [41])else t
def SP (w nm:Bs) (ts:xm):Bs:=if ts=[]then((w++(wd [40]))++nm)++(wd [41])else((w++(wd [40]))++dE ts (wd [44,32]))++(wd [41])
def fE (op:Int):Bs:=if op=7 then(wd [100,117,114])else if op=8 then(wd [116,105,99,107,115])else if op=20 then(wd [109,105,110])else if op=21 then(wd [109,97,120])else if op=22 then(wd [102,114,101,101])else if op=23 then(wd [115,105,122,101])else(wd [119,97,105,116,105,110,103])
def na (ks:i7) (i:Nat):Int:=(ks.map aj.op).getD i 0
def sF (l:Int):Int:=if l=4 then 5 else l
def oH (l:Int):Int:=l+1
def ft (op:Int) (nm:Bs) (n:Int) (ks:i7) (ts:xm):Bs:=
 if op=1 then(if n<0 then((wd [40])++bQ n)++(wd [41])else bQ n)
 else if op=2 then pI n
 else if op=4 then(wd [110,111,119])
 else if op=3 then nm
 else if op=7\/op=8\/op=20\/op=21\/op=22\/op=23\/op=24 then SP (fE op) nm ts
 else if op=6 then(wd [110,111,116,32])++rQ (na ks 0) 3 (ts.getD 0 [])
 else if op=5 then(wd [45])++rQ (na ks 0) 7 (ts.getD 0 [])
 else(((rQ (na ks 0) (sF (lf op).2.1) (ts.getD 0 [])++(wd [32]))++(lf op).1)++(wd [32]))++rQ (na ks 1) (oH (lf op).2.1) (ts.getD 1 [])
mutual
def aj.tx:aj->Bs
 | .mk op nm n ks=>ft op nm n ks (aj.txL ks)
def aj.txL:i7->xm
 |[]=>[]
 |k::r=>k.tx::aj.txL r
end
theorem aj.aqm:∀ks:i7,aj.txL ks=ks.map aj.tx
 |[]=>rfl
 |k::r=>by rw[aj.txL,aj.aqm r];rfl
theorem aj.aqn:∀e:aj,e.tx=ft e.op e.nm e.n e.ks (e.ks.map aj.tx)
 | .mk _ _ _ _=>by rw[aj.tx,aj.aqm];rfl
def RU (n:Int):List ff:=[wT (pI n)]
def tS (op:Int):ff:=if op=19\/op=18 then wT (lf op).1 else sT (lf op).1
def lD (op least:Int) (t:List ff):List ff:=if kQ op<least then sT (wd [40])::(t++[sT (wd [41])])else t
def bV:List (List ff)->List ff
 |[]=>[]
 |[t]=>t
 |t::r=>t++sT (wd [44])::bV r
def wW (op:Int) (nm:Bs) (n:Int) (ks:i7) (ts:List (List ff)):List ff:=
 if op=1 then(if n<0 then[sT (wd [40]),sT (wd [45]),nT (-n),sT (wd [41])]else[nT n])
 else if op=2 then RU n
 else if op=4 then[wT (wd [110,111,119])]
 else if op=3 then[wT nm]
 else if op=7\/op=8\/op=20\/op=21 then wT (fE op)::sT (wd [40])::(bV ts++[sT (wd [41])])
 else if op=22\/op=23\/op=24 then[wT (fE op),sT (wd [40]),wT nm,sT (wd [41])]
 else if op=6 then wT (wd [110,111,116])::lD (na ks 0) 3 (ts.getD 0 [])
 else if op=5 then sT (wd [45])::lD (na ks 0) 7 (ts.getD 0 [])
 else lD (na ks 0) (sF (lf op).2.1) (ts.getD 0 [])++tS op::lD (na ks 1) (oH (lf op).2.1) (ts.getD 1 [])
mutual
def aj.tk:aj->List ff
 | .mk op nm n ks=>wW op nm n ks (aj.nJ ks)
def aj.nJ:i7->List (List ff)
 |[]=>[]
 |k::r=>k.tk::aj.nJ r
end
theorem aj.aqh:∀ks:i7,aj.nJ ks=ks.map aj.tk
 |[]=>rfl
 |k::r=>by rw[aj.nJ,aj.aqh r];rfl
theorem aj.QI:∀e:aj,e.tk=wW e.op e.nm e.n e.ks (e.ks.map aj.tk)
 | .mk _ _ _ _=>by rw[aj.tk,aj.aqh];rfl
def Ya:xm:=[(wd [97,100,100]),(wd [97,102,116,101,114]),(wd [97,110,100]),(wd [97,116]),(wd [98,101,108,116]),(wd [98,111,111,108]),(wd [99,111,110,115,101,114,118,101]),(wd [99,111,110,115,116]),(wd [99,111,117,110,116]),(wd [99,121,99,108,101]),(wd [100,111,119,110]),(wd [100,114,97,119]),(wd [100,117,114]),(wd [101,108,115,101]),(wd [101,110,100]),(wd [101,118,101,114,121]),(wd [102,97,108,115,101]),(wd [102,97,117,108,116]),(wd [102,105,102,111]),(wd [102,114,101,101]),(wd [102,114,111,109]),(wd [103,101,111,109]),(wd [103,101,116]),(wd [104,111,108,100]),(wd [105,102]),(wd [105,110,116]),(wd [105,110,116,111]),(wd [108,101,97,115,116]),(wd [108,101,118,101,108]),(wd [108,105,102,111]),(wd [108,105,110,107]),(wd [108,111,99,97,108]),(wd [109,97,120]),(wd [109,105,110]),(wd [109,111,100,101,108]),(wd [110,111,116]),(wd [110,111,119]),(wd [111,98,115,101,114,118,101]),(wd [111,114]),(wd [112,97,114,97,109]),(wd [112,114,101,101,109,112,116]),(wd [112,114,105,111]),(wd [112,117,116]),(wd [113,117,101,117,101]),(wd [114,101,108,101,97,115,101]),(wd [114,101,115,111,117,114,99,101]),(wd [114,105,100,101]),(wd [114,111,117,116,105,110,101]),(wd [115,101,105,122,101]),(wd [115,101,110,100]),(wd [115,101,116]),(wd [115,104,105,102,116]),(wd [115,105,103,110,97,108]),(wd [115,105,116,101]),(wd [115,105,122,101]),(wd [115,112,97,119,110]),(wd [115,116,97,114,116]),(wd [115,116,111,112]),(wd [115,116,111,114,101]),(wd [115,116,114,101,97,109]),(wd [115,117,109]),(wd [116,97,98,108,101]),(wd [116,97,108,108,121]),(wd [116,105,99,107,115]),(wd [116,105,109,101]),(wd [116,114,117,101]),(wd [117,110,105,102,111,114,109]),(wd [117,110,116,105,108]),(wd [117,112]),(wd [118,97,114]),(wd [119,97,105,116]),(wd [119,97,105,116,105,110,103]),(wd [119,104,105,108,101])]
def Xe (c:UInt8):Bool:=decide (97<=c.toNat)&&decide (c.toNat<=122)
def dgB (c:UInt8):Bool:=decide (48<=c.toNat)&&decide (c.toNat<=57)
def Jf (c:UInt8):Bool:=Xe c||dgB c||decide (c.toNat=95)
def Name (w:Bs):Prop:=w≠[]/\w.length<=24/\Xe (w.getD 0 0)=true/\(∀c∈w,Jf c=true)/\w∉Ya
def ld (n:Int):Prop:= -1000000000000<=n/\n<=1000000000000
def uJ (op:Int) (nm:Bs) (n:Int) (k:Nat):Prop:=
 (op=1/\ld n/\nm=[]/\k=0)\/(op=2/\(n=0\/n=1)/\nm=[]/\k=0)\/(op=3/\n=0/\Name nm/\k=0)\/(op=4/\n=0/\nm=[]/\k=0)
 \/(5<=op/\op<=8/\n=0/\nm=[]/\k=1)\/(9<=op/\op<=21/\n=0/\nm=[]/\k=2)\/(22<=op/\op<=24/\n=0/\Name nm/\k=0)
mutual
def aj.ok:aj->Prop
 | .mk op nm n ks=>uJ op nm n ks.length/\aj.R1 ks
def aj.R1:i7->Prop
 |[]=>True
 |k::r=>k.ok/\aj.R1 r
end
theorem aj.vJ:∀ks:i7,aj.R1 ks↔∀k∈ks,k.ok
 |[]=>by simp[aj.R1]
 |k::r=>by rw[aj.R1,aj.vJ r];simp
theorem aj.vZ:∀e:aj,e.ok↔uJ e.op e.nm e.n e.ks.length/\∀k∈e.ks,k.ok
 | .mk _ _ _ _=>by rw[aj.ok,aj.vJ];rfl
theorem aj.ind {Q:aj->Prop} (h:∀op nm n ks,(∀k∈ks,Q k)->Q (.mk op nm n ks)):∀e,Q e:=by
 intro e
 refine aj.rec (motive_1:=Q) (motive_2:=fun ks=>∀k∈ks,Q k) ?_ ?_ ?_ e
 ·intro op nm n ks ih;exact h op nm n ks ih
 ·intro k hk;cases hk
 ·intro k r h1 h2 x hx
  rcases mem_cons.1 hx with rfl|hx
  ·exact h1
  ·exact h2 x hx
mutual
def aj.sz:aj->Nat
 | .mk _ _ _ ks=>1+aj.im ks
def aj.im:i7->Nat
 |[]=>0
 |k::r=>k.sz+aj.im r
end
theorem aj.nD:∀ks:i7,aj.im ks=(ks.map aj.sz).sum
 |[]=>rfl
 |k::r=>by rw[aj.im,aj.nD r];simp
theorem aj.dR:∀e:aj,e.sz=1+(e.ks.map aj.sz).sum
 | .mk _ _ _ _=>by rw[aj.sz,aj.nD];rfl
theorem yk {α:Type}{f:α->Nat}{x:α}:∀{l:List α},x∈l->f x<=(l.map f).sum
 |[],h=>by cases h
 |y::l,h=>by
  rcases mem_cons.1 h with rfl|h
  ·simp
  ·have:=yk (f:=f) h
   simp;omega
theorem aj.aaM (e:aj):1<=e.sz:=by rw[aj.dR];omega
theorem aj.AG:∀ks:i7,ks.length<=(ks.map aj.sz).sum
 |[]=>Nat.le_refl _
 |k::r=>by
  have h1:=aj.AG r
  have h2:=aj.aaM k
  simp only[length_cons,map_cons,sum_cons];omega
theorem aj.Wi {e k:aj} (h:k∈e.ks):k.sz<e.sz:=by
 rw[aj.dR e]
 have:=yk (f:=aj.sz) h
 omega
abbrev wz0:Bs:=wd [102,97,108,115,101]
abbrev wz1:Bs:=wd [116,114,117,101]
abbrev wz2:Bs:=wd [111,114]
abbrev wz3:Bs:=wd [97,110,100]
abbrev UA:Bs:=wd [61]
abbrev wz5:Bs:=wd [33,61]
abbrev wz6:Bs:=wd [60]
abbrev wz7:Bs:=wd [60,61]
abbrev YI:Bs:=wd [43]
abbrev rS:Bs:=wd [45]
abbrev JG:Bs:=wd [42]
abbrev Ws:Bs:=wd [47]
abbrev Wt:Bs:=wd [37]
abbrev cI:Bs:=wd [40]
abbrev cj:Bs:=wd [41]
abbrev j9:Bs:=wd [44,32]
abbrev aE9:Bs:=wd [100,117,114]
abbrev aFa:Bs:=wd [116,105,99,107,115]
abbrev aFb:Bs:=wd [109,105,110]
abbrev aFc:Bs:=wd [109,97,120]
abbrev aFd:Bs:=wd [102,114,101,101]
abbrev aFe:Bs:=wd [115,105,122,101]
abbrev aFf:Bs:=wd [119,97,105,116,105,110,103]
abbrev aBg:Bs:=wd [110,111,119]
abbrev aBh:Bs:=wd [110,111,116,32]
abbrev ew:Bs:=wd [32]
abbrev rf:Bs:=wd [44]
abbrev Uy:Bs:=wd [110,111,116]
abbrev aqu:Bs:=wd [97,100,100]
abbrev ach:Bs:=wd [97,102,116,101,114]
abbrev Uz:Bs:=wd [97,116]
abbrev Mz:Bs:=wd [98,101,108,116]
abbrev ae1:Bs:=wd [98,111,111,108]
abbrev FO:Bs:=wd [99,111,110,115,101,114,118,101]
abbrev RX:Bs:=wd [99,111,110,115,116]
abbrev Wu:Bs:=wd [99,111,117,110,116]
abbrev Wv:Bs:=wd [99,121,99,108,101]
abbrev Yi:Bs:=wd [100,111,119,110]
abbrev aqv:Bs:=wd [100,114,97,119]
abbrev Ou:Bs:=wd [101,108,115,101]
abbrev ep:Bs:=wd [101,110,100]
abbrev aci:Bs:=wd [101,118,101,114,121]
abbrev UB:Bs:=wd [102,97,117,108,116]
abbrev aje:Bs:=wd [102,105,102,111]
abbrev ahg:Bs:=wd [102,114,111,109]
abbrev Ov:Bs:=wd [103,101,111,109]
abbrev aqw:Bs:=wd [103,101,116]
abbrev aqx:Bs:=wd [104,111,108,100]
abbrev MA:Bs:=wd [105,102]
abbrev ae2:Bs:=wd [105,110,116]
abbrev aqy:Bs:=wd [105,110,116,111]
abbrev ajf:Bs:=wd [108,101,97,115,116]
abbrev La:Bs:=wd [108,101,118,101,108]
abbrev ajg:Bs:=wd [108,105,102,111]
abbrev MB:Bs:=wd [108,105,110,107]
abbrev PC:Bs:=wd [108,111,99,97,108]
abbrev Yj:Bs:=wd [109,111,100,101,108]
abbrev aqz:Bs:=wd [111,98,115,101,114,118,101]
abbrev Lc:Bs:=wd [112,97,114,97,109]
abbrev UC:Bs:=wd [112,114,101,101,109,112,116]
abbrev aa5:Bs:=wd [112,114,105,111]
abbrev aqA:Bs:=wd [112,117,116]
abbrev Ww:Bs:=wd [113,117,101,117,101]
abbrev aqB:Bs:=wd [114,101,108,101,97,115,101]
abbrev zm:Bs:=wd [114,101,115,111,117,114,99,101]
abbrev aqC:Bs:=wd [114,105,100,101]
abbrev Fe:Bs:=wd [114,111,117,116,105,110,101]
abbrev acj:Bs:=wd [115,101,105,122,101]
abbrev amf:Bs:=wd [115,101,110,100]
abbrev aqD:Bs:=wd [115,101,116]
abbrev Ow:Bs:=wd [115,104,105,102,116]
abbrev aqE:Bs:=wd [115,105,103,110,97,108]
abbrev Ox:Bs:=wd [115,105,116,101]
abbrev amg:Bs:=wd [115,112,97,119,110]
abbrev JH:Bs:=wd [115,116,97,114,116]
abbrev aqF:Bs:=wd [115,116,111,112]
abbrev MC:Bs:=wd [115,116,111,114,101]
abbrev PD:Bs:=wd [115,116,114,101,97,109]
abbrev Ld:Bs:=wd [115,117,109]
abbrev JI:Bs:=wd [116,97,98,108,101]
abbrev RY:Bs:=wd [116,97,108,108,121]
abbrev ae3:Bs:=wd [116,105,109,101]
abbrev Oy:Bs:=wd [117,110,105,102,111,114,109]
abbrev aji:Bs:=wd [117,110,116,105,108]
abbrev aa6:Bs:=wd [117,112]
abbrev AZ:Bs:=wd [118,97,114]
abbrev aqG:Bs:=wd [119,97,105,116]
abbrev Wx:Bs:=wd [119,104,105,108,101]
abbrev aBj:Bs:=wd [99,114,101,97,116,101,100]
abbrev aBk:Bs:=wd [101,110,100,101,100]
abbrev aBl:Bs:=wd [105,110,115,105,100,101]
abbrev aBm:Bs:=wd [115,116,111,114,101,100]
abbrev aBn:Bs:=wd [101,110,116,101,114,101,100]
abbrev aBo:Bs:=wd [108,101,102,116]
abbrev aBp:Bs:=wd [99,111,117,110,116,101,100]
abbrev nt:Bs:=wd [58]
abbrev axB:Bs:=wd [62]
abbrev ack:Bs:=wd [46]
abbrev Yk:Bs:=wd [62,61]
abbrev atz:Bs:=wd [43,45,42,47,37,61,60,62,40,41,44,58,46]
abbrev ba:=List ff
section
section
variable (ρ:aP)
theorem aCx (n:Nat):Ex.ev ρ (.v n)=ρ.getD n (.i 0):=rfl
theorem aCs (z:Int):Ex.ev ρ (.i z)= .i z:=rfl
theorem aCr (x:Bool):Ex.ev ρ (.b x)= .b x:=rfl
theorem avq:Ex.ev ρ .nil= .l []:=rfl
theorem aCw (f:U1) (x:Ex):Ex.ev ρ (.u f x)=f.ev (x.ev ρ):=rfl
theorem aCt (f:U2) (x y:Ex):Ex.ev ρ (.o f x y)=f.ev (x.ev ρ) (y.ev ρ):=rfl
theorem aCv (f:U3) (x y z:Ex):Ex.ev ρ (.t f x y z)=f.ev (x.ev ρ) (y.ev ρ) (z.ev ρ):=rfl
end
theorem axx (k:IntKind) (a:Int):U1.ev (.conv k) (.i a)= .i (k.wrap a):=rfl
theorem aBe (b:Bool):U1.ev .not (.b b)= .b (!b):=rfl
theorem aBd (x:Sc):U1.ev .len x= .i x.list.length:=rfl
theorem axy (a:Bs):U1.ev .fD (.s (bs a))= .i a.length:=by simp[U1.ev]
theorem axw (n:Nat) (x:Sc):U1.ev (.cell n) x=x.list.getD n (.i 0):=rfl
theorem aAJ (k:IntKind) (a b:Int):U2.ev (.add k) (.i a) (.i b)= .i (k.wrap (a+b)):=rfl
theorem aAT (k:IntKind) (a b:Int):U2.ev (.sub k) (.i a) (.i b)= .i (k.wrap (a-b)):=rfl
theorem aAR (k:IntKind) (a b:Int):U2.ev (.mul k) (.i a) (.i b)= .i (k.wrap (a*b)):=rfl
theorem aux (a b:Int):U2.ev .max (.i a) (.i b)= .i (if b>a then b else a):=rfl
theorem aEJ (a b:Int):U2.ev .eq (.i a) (.i b)= .b (decide (a=b)):=by simp[U2.ev];rfl
theorem aEM (a b:Int):U2.ev .ne (.i a) (.i b)= .b (decide (a≠b)):=by simp[U2.ev];rfl
theorem aEL (a b:Int):U2.ev .lt (.i a) (.i b)= .b (decide (a<b)):=id rfl
theorem aEK (a b:Int):U2.ev .le (.i a) (.i b)= .b (decide (a<=b)):=id rfl
theorem aAm (z:Int):(Sc.i z).int=z:=id rfl
theorem au4 (z:Bool):(Sc.b z).bool=z:=id rfl
theorem aiw (z:aP):(Sc.l z).list=z:=id rfl
theorem aAM (a b:Bool):U2.ev .beq (.b a) (.b b)= .b (a==b):=rfl
theorem aAN (a b:Bool):U2.ev .bne (.b a) (.b b)= .b (a !=b):=rfl
theorem aAK (a b:Bool):U2.ev .and (.b a) (.b b)= .b (a&&b):=rfl
theorem aEN (a b:Bool):U2.ev .or (.b a) (.b b)= .b (a||b):=rfl
theorem aAS (a b:Bs):U2.ev .seq (.s (bs a)) (.s (bs b))= .b (decide (a=b)):=by
 simp only[U2.ev,Sc.ac6,akP]
 by_cases h:a=b
 ·subst h;simp
 ·simp[h]
theorem aAO (a b:Bs):U2.ev .cat (.s (bs a)) (.s (bs b))= .s (bs (a++b)):=by simp only[U2.ev,Sc.ac6,au6]
theorem awD (a:Bs) (i:Nat):U2.ev .Mt (.s (bs a)) (.i (i:Int))= .i ((a.getD i 0).toNat):=rfl
theorem asb (a:Bs):U2.ev .Mt (.s (bs a)) (.i 0)= .i ((a.getD 0 0).toNat):=rfl
theorem awE (x y:Sc):U2.ev .bC x y= .l (x.list++[y]):=rfl
theorem aAL (x y:Sc):U2.ev .app x y= .l (x.list++y.list):=rfl
theorem aAP (x:Sc) (i:Int):U2.ev .idx x (.i i)=x.list.getD i.toNat (.i 0):=rfl
theorem awC (x y:Sc):U2.ev .cons x y= .l (x::y.list):=rfl
theorem aAQ (n:Nat) (x y:Sc):U2.ev (.mem n) x y= .b (x.list.any fun k=>iG n k y):=rfl
theorem awB (n:Nat) (x y:Sc):U2.ev (.Fh n) x y= .l (if x.list.any fun k=>iG n k y then x.list else x.list++[y]):=rfl
theorem aBa (c:Bool) (x y:Sc):U3.ev .ite (.b c) x y=if c then x else y:=rfl
theorem aqb (x:Sc) (i j:Int):U3.ev .KI x (.i i) (.i j)= .l ((x.list.take j.toNat).drop i.toNat):=rfl
theorem Ur (x z:Sc) (i:Int):U3.ev .Yh x (.i i) z= .l (x.list.set i.toNat z):=rfl
theorem ai7 (a:Bs) (i j:Int) (h:j.toNat<=a.length):U3.ev .Uo (.s (bs a)) (.i i) (.i j)= .s (bs ((a.take j.toNat).drop i.toNat)):=by
 simp only[U3.ev,Sc.ac6,Sc.acL,aq7 a _ _ h]
theorem aoJ {α:Type} (f:α->aP) (xs:List α):(ae f xs).list=xs.map fun x=> .l (f x):=rfl
theorem alo (xs:uD):(bY xs).list=xs.map .i:=rfl
theorem VZ (xs:xm):(am xs).list=xs.map fun x=> .s (bs x):=rfl
theorem ay {α β:Type}{f:α->β}{xs:List α}{i:Nat}{x:α} (h:xs[i]? =some x) (d:β):(xs.map f).getD i d=f x:=by
 simp[getD_eq_getElem?_getD,h]
def fA (o:Option aP) (Q:aP->Prop):Prop:=∃r,o=some r/\Q r
theorem fA.some {r:aP}{Q:aP->Prop} (h:Q r):fA (some r) Q:=⟨r,rfl,h⟩
theorem fA.mono {o:Option aP}{Q R:aP->Prop} (h:fA o Q) (hQ:∀r,Q r->R r):fA o R:=by
 obtain⟨r,h1,h2⟩:=h
 exact⟨r,h1,hQ r h2⟩
theorem acP {S:Type}{g:fF->fF}{Q:aP->Prop} (enc:Nat->S->aP) (I:Nat->S->Prop) (n:Nat) (hs:∀i s rec,i<n->I i s->(∀s',I (i+1) s'->fA (rec (enc (i+1) s')) Q)->fA (g rec (enc i s)) Q) (hf:∀s rec,I n s->fA (g rec (enc n s)) Q):∀(d i k:Nat) (s:S),i+d=n->I i s->fA (dz g (k+d+1) (enc i s)) Q
 |0,i,k,s,h,hI=>by
  have h:i=n:=by omega
  subst h
  exact hf s _ hI
 |d+1,i,k,s,h,hI=>hs i s _ (by omega) hI fun s' hI'=>acP enc I n hs hf d (i+1) k s' (by omega) hI'
theorem eG {S:Type}{g:fF->fF}{Q:aP->Prop} (enc:Nat->S->aP) (I:Nat->S->Prop) (n:Nat){s:S}{v:aP} (hv:v=enc 0 s) (hn:n<340282366920938463463374607431768211456) (h0:I 0 s) (hs:∀i s rec,i<n->I i s->(∀s',I (i+1) s'->fA (rec (enc (i+1) s')) Q)->fA (g rec (enc i s)) Q) (hf:∀s rec,I n s->fA (g rec (enc n s)) Q):fA (dz g aF v) Q:=by
 obtain⟨k,hk⟩:=DV hn
 rw[hk,hv]
 exact acP enc I n hs hf n 0 k s (by omega) h0
def bw (o:Option aP) (A:Prop):Prop:=∃z:Int,o=some [.i z]/\(z=0->A)
theorem bw.ret {o:Option aP}{A:Prop} (h:fA o fun r=>∃z:Int,r=[.i z]/\(z=0->A)):bw o A:=by
 obtain⟨_,h1,z,rfl,h2⟩:=h
 exact⟨z,h1,h2⟩
theorem bw.some {z:Int}{A:Prop} (h:z=0->A):bw (some [.i z]) A:=⟨z,rfl,h⟩
theorem bw.bad {z:Int}{A:Prop} (h:z≠0):bw (Option.some [Sc.i z]) A:=⟨z,rfl,fun e=>absurd e h⟩
theorem bw.mono {o:Option aP}{A C:Prop} (h:bw o A) (hA:A->C):bw o C:=by
 obtain⟨z,h1,h2⟩:=h
 exact⟨z,h1,fun e=>hA (h2 e)⟩
theorem eX {g:fF->fF}{A:Prop}{S:Type} (enc:Nat->S->aP) (I:Nat->S->Prop) (n:Nat){s:S}{v:aP} (hv:v=enc 0 s) (hn:n<340282366920938463463374607431768211456) (h0:I 0 s) (hs:∀i s rec,i<n->I i s->(∀s',I (i+1) s'->bw (rec (enc (i+1) s')) A)->bw (g rec (enc i s)) A) (hf:∀s rec,I n s->bw (g rec (enc n s)) A):bw (dz g aF v) A:=by
 refine bw.ret (eG enc I n hv hn h0 (fun i s rec hi hI hr=> ?_) (fun s rec hI=> ?_))
 ·obtain⟨z,h1,h2⟩:=hs i s rec hi hI (fun s' hI'=>by
   obtain⟨_,h1,z,rfl,h2⟩:=hr s' hI'
   exact⟨z,h1,h2⟩)
  exact⟨_,h1,z,rfl,h2⟩
 ·obtain⟨z,h1,h2⟩:=hf s rec hI
  exact⟨_,h1,z,rfl,h2⟩
def zo (o:Option aP) (A:Prop):Prop:=∃b:Bool,o=some [.b b]/\(b=true->A)
theorem zo.no {A:Prop}:zo (Option.some [Sc.b false]) A:=⟨false,rfl,fun h=>by cases h⟩
theorem zo.yes {b:Bool}{A:Prop} (h:b=true->A):zo (Option.some [Sc.b b]) A:=⟨b,rfl,h⟩
theorem zo.mono {o:Option aP}{A C:Prop} (h:zo o A) (hA:A->C):zo o C:=by
 obtain⟨z,h1,h2⟩:=h
 exact⟨z,h1,fun e=>hA (h2 e)⟩
theorem aoP {g:fF->fF}{A:Prop}{S:Type} (enc:Nat->S->aP) (I:Nat->S->Prop) (n:Nat){s:S}{v:aP} (hv:v=enc 0 s) (hn:n<340282366920938463463374607431768211456) (h0:I 0 s) (hs:∀i s rec,i<n->I i s->(∀s',I (i+1) s'->zo (rec (enc (i+1) s')) A)->zo (g rec (enc i s)) A) (hf:∀s rec,I n s->zo (g rec (enc n s)) A):zo (dz g aF v) A:=by
 have:fA (dz g aF v) fun r=>∃z:Bool,r=[.b z]/\(z=true->A):=by
  refine eG enc I n hv hn h0 (fun i s rec hi hI hr=> ?_) (fun s rec hI=> ?_)
  ·obtain⟨z,h1,h2⟩:=hs i s rec hi hI (fun s' hI'=>by
    obtain⟨_,h1,z,rfl,h2⟩:=hr s' hI'
    exact⟨z,h1,h2⟩)
   exact⟨_,h1,z,rfl,h2⟩
  ·obtain⟨z,h1,h2⟩:=hf s rec hI
   exact⟨_,h1,z,rfl,h2⟩
 obtain⟨_,h1,z,rfl,h2⟩:=this
 exact⟨z,h1,h2⟩
theorem bw.ite {c:Prop} [Decidable c]{a b:Option aP}{A:Prop} (h1:c->bw a A) (h2:¬c->bw b A):bw (if c then a else b) A:=by
 split
 ·exact h1 ‹_›
 ·exact h2 ‹_›
theorem zo.ite {c:Prop} [Decidable c]{a b:Option aP}{A:Prop} (h1:c->zo a A) (h2:¬c->zo b A):zo (if c then a else b) A:=by
 split
 ·exact h1 ‹_›
 ·exact h2 ‹_›
theorem fA.ite {c:Prop} [Decidable c]{a b:Option aP}{A:aP->Prop} (h1:c->fA a A) (h2:¬c->fA b A):fA (if c then a else b) A:=by
 split
 ·exact h1 ‹_›
 ·exact h2 ‹_›
def Lb (n:Nat):Prop:=n<=140737488355328
def kN {α:Type} (p:α->Prop) (xs:List α) (i:Nat):Prop:=∀(j:Nat) (x:α),j<i->xs[j]? =some x->p x
theorem kN.zero {α:Type}{p:α->Prop}{xs:List α}:kN p xs 0:=fun _ _ h=>by omega
theorem kN.succ {α:Type}{p:α->Prop}{xs:List α}{i:Nat}{x:α} (h:kN p xs i) (hx:xs[i]? =some x) (hp:p x):kN p xs (i+1):=fun j y hj hy=>by
 rcases Nat.lt_succ_iff_lt_or_eq.1 hj with hj|rfl
 ·exact h j y hj hy
 ·rw[hx]at hy;cases hy;exact hp
theorem kN.all {α:Type}{p:α->Prop}{xs:List α} (h:kN p xs xs.length):∀x∈xs,p x:=fun x hx=>by
 obtain⟨j,hj⟩:=mem_iff_getElem?.1 hx
 exact h j x (bp hj) hj
def ayF:=And.intro @natCast_nonneg<|And.intro @bne_iff_ne.{0}<|And.intro @beq_iff_eq.{0}<|And.intro @ne_eq.{1}<|And.intro @decide_eq_true_eq<|And.intro @Bool.and_eq_true<|And.intro @Bool.or_eq_true<|And.intro @Bool.not_eq_true'<|And.intro @decide_eq_false_iff_not<|And.intro @beq_eq_false_iff_ne.{0}<|And.intro @bne_eq_false_iff_eq.{0}<|And.intro @not_true_eq_false<|And.intro @not_false_eq_true<|And.intro @if_true.{1}<|And.intro @if_false.{1}<|And.intro @and_true<|And.intro @true_and<|And.intro @and_false<|And.intro @false_and<|And.intro @or_false<|And.intro @false_or<|And.intro @or_true<|And.intro @true_or<|And.intro @getD_cons_zero.{0}<|And.intro @getD_cons_succ.{0}<|And.intro @length_cons.{0}<|And.intro @length_nil.{0}<|And.intro @cons_append.{0}<|And.intro @nil_append.{0}<|And.intro @Bool.not_true<|And.intro @Bool.not_false<|And.intro @Bool.true_and<|And.intro @Bool.and_true<|And.intro @Bool.false_and<|And.intro @Bool.and_false<|And.intro @Bool.or_true<|And.intro @Bool.true_or<|And.intro @Bool.or_false<|And.intro @Bool.false_or<|And.intro @Bool.false_eq_true<|And.intro @Bool.true_eq_false<|And.intro @aAm<|And.intro @au4<|And.intro @aiw<|And.intro @Sc.ac6<|And.intro @decide_true<|And.intro @decide_false<|And.intro @decide_not<|And.intro @eq_self.{1}<|And.intro @Classical.not_not<|And.intro @getElem?_cons_zero.{0}<|And.intro @getElem?_cons_succ.{0}<|And.intro @beq_self_eq_true.{0} @bne_self_eq_false.{0}
theorem Dh:type_of%ayF:=ayF
theorem aEF:(0:Ex)= .v 0/\(1:Ex)= .v 1/\(2:Ex)= .v 2/\(3:Ex)= .v 3/\(4:Ex)= .v 4/\(5:Ex)= .v 5/\(6:Ex)= .v 6/\(7:Ex)= .v 7/\(8:Ex)= .v 8/\(9:Ex)= .v 9/\(10:Ex)= .v 10/\(11:Ex)= .v 11/\(12:Ex)= .v 12/\(13:Ex)= .v 13/\(14:Ex)= .v 14/\(15:Ex)= .v 15/\(16:Ex)= .v 16/\(17:Ex)= .v 17/\(18:Ex)= .v 18/\(19:Ex)= .v 19/\(20:Ex)= .v 20/\(21:Ex)= .v 21/\(22:Ex)= .v 22/\(23:Ex)= .v 23/\(24:Ex)= .v 24/\(25:Ex)= .v 25/\(26:Ex)= .v 26/\(27:Ex)= .v 27/\(28:Ex)= .v 28/\(29:Ex)= .v 29/\(30:Ex)= .v 30/\(31:Ex)= .v 31/\(32:Ex)= .v 32/\(33:Ex)= .v 33/\(34:Ex)= .v 34/\(35:Ex)= .v 35/\(36:Ex)= .v 36/\(37:Ex)= .v 37/\(38:Ex)= .v 38/\(39:Ex)= .v 39/\(40:Ex)= .v 40/\(41:Ex)= .v 41/\(42:Ex)= .v 42/\(43:Ex)= .v 43/\(44:Ex)= .v 44/\(45:Ex)= .v 45/\(46:Ex)= .v 46/\(47:Ex)= .v 47/\(48:Ex)= .v 48/\(49:Ex)= .v 49/\(50:Ex)= .v 50/\(51:Ex)= .v 51/\(52:Ex)= .v 52/\(53:Ex)= .v 53/\(54:Ex)= .v 54/\(55:Ex)= .v 55/\(56:Ex)= .v 56/\(57:Ex)= .v 57/\(58:Ex)= .v 58/\(59:Ex)= .v 59/\(60:Ex)= .v 60/\(61:Ex)= .v 61/\(62:Ex)= .v 62/\(63:Ex)= .v 63/\(64:Ex)= .v 64/\(65:Ex)= .v 65/\(66:Ex)= .v 66/\(67:Ex)= .v 67/\(68:Ex)= .v 68/\(69:Ex)= .v 69/\(70:Ex)= .v 70/\(71:Ex)= .v 71/\(72:Ex)= .v 72/\(73:Ex)= .v 73/\(74:Ex)= .v 74/\(75:Ex)= .v 75/\(76:Ex)= .v 76/\(77:Ex)= .v 77/\(78:Ex)= .v 78/\(79:Ex)= .v 79/\(80:Ex)= .v 80/\(81:Ex)= .v 81/\(82:Ex)= .v 82/\(83:Ex)= .v 83/\(84:Ex)= .v 84/\(85:Ex)= .v 85/\(86:Ex)= .v 86/\(87:Ex)= .v 87/\(88:Ex)= .v 88/\(89:Ex)= .v 89/\(90:Ex)= .v 90/\(91:Ex)= .v 91/\(92:Ex)= .v 92/\(93:Ex)= .v 93/\(94:Ex)= .v 94/\(95:Ex)= .v 95/\(96:Ex)= .v 96/\(97:Ex)= .v 97/\(98:Ex)= .v 98/\(99:Ex)= .v 99/\(100:Ex)= .v 100/\(101:Ex)= .v 101/\(102:Ex)= .v 102/\(103:Ex)= .v 103/\(104:Ex)= .v 104/\(105:Ex)= .v 105/\(106:Ex)= .v 106/\(107:Ex)= .v 107/\(108:Ex)= .v 108/\(109:Ex)= .v 109:=⟨rfl,rfl,rfl,rfl,rfl,rfl,rfl,rfl,rfl,rfl,rfl,rfl,rfl,rfl,rfl,rfl,rfl,rfl,rfl,rfl,rfl,rfl,rfl,rfl,rfl,rfl,rfl,rfl,rfl,rfl,rfl,rfl,rfl,rfl,rfl,rfl,rfl,rfl,rfl,rfl,rfl,rfl,rfl,rfl,rfl,rfl,rfl,rfl,rfl,rfl,rfl,rfl,rfl,rfl,rfl,rfl,rfl,rfl,rfl,rfl,rfl,rfl,rfl,rfl,rfl,rfl,rfl,rfl,rfl,rfl,rfl,rfl,rfl,rfl,rfl,rfl,rfl,rfl,rfl,rfl,rfl,rfl,rfl,rfl,rfl,rfl,rfl,rfl,rfl,rfl,rfl,rfl,rfl,rfl,rfl,rfl,rfl,rfl,rfl,rfl,rfl,rfl,rfl,rfl,rfl,rfl,rfl,rfl,rfl,rfl⟩
theorem auE:(∀t,cq [] t=t)/\(∀a r t,cq (a::r) t= .o .cons a (cq r t))/\(∀x y,bm x y= .o .eq x y)/\(∀x y,gq x y= .o .ne x y)/\(∀x y,aU x y= .o .le x y)/\(∀x y,aS x y= .o .lt x y)/\(∀x y,bG x y= .o .idx x y)/\(∀x,eu x= .o (.add .i64) x (.i 1))/\(∀x,aG x= .u .len x)/\(∀x,jK x= .u .not x)/\(∀n x,bE n x= .u (.cell n) x):=⟨fun _=>rfl,fun _ _ _=>rfl,fun _ _=>rfl,fun _ _=>rfl,fun _ _=>rfl,fun _ _=>rfl,fun _ _=>rfl,fun _=>rfl,fun _=>rfl,fun _=>rfl,fun _ _=>rfl⟩
def ayG:=And.intro aEF<|And.intro auE<|And.intro @T.bR.eq_1<|And.intro @T.bR.eq_2<|And.intro @T.bR.eq_3<|And.intro @T.bR.eq_4<|And.intro @T.bR.eq_5<|And.intro @T.bR.eq_6<|And.intro @T.bR.eq_7<|And.intro @vsE.eq_1<|And.intro @nI.eq_1<|And.intro @aCx<|And.intro @aCs<|And.intro @aCr<|And.intro @aCu<|And.intro @avq<|And.intro @aCw<|And.intro @aCt<|And.intro @aCv<|And.intro @axx<|And.intro @aBe<|And.intro @aBd<|And.intro @axy<|And.intro @axw<|And.intro @aAJ<|And.intro @aAT<|And.intro @aEJ<|And.intro @aEM<|And.intro @aEL<|And.intro @aEK<|And.intro @aAM<|And.intro @aAN<|And.intro @aAK<|And.intro @aEN<|And.intro @aAS<|And.intro @aAO<|And.intro @awD<|And.intro @asb<|And.intro @awE<|And.intro @aAL<|And.intro @aAP<|And.intro @awC<|And.intro @aAQ<|And.intro @awB<|And.intro @aBa<|And.intro @aoJ<|And.intro @alo<|And.intro @VZ<|And.intro @length_map.{0,0}<|And.intro @map_cons.{0,0}<|And.intro @map_nil.{0,0}<|And.intro @toNat_natCast<|And.intro @toNat_zero Dh
theorem av:type_of%ayG:=ayG
end
section
noncomputable section
open Go.RowKit
def eA:CS:= .a xh
def AB:CS:= .a UV
def vD:CS:= .a cbA
def gq3:CS:= .a (jy 9)
def gq4:CS:= .a (jy 114)
def gq5:CS:= .a (jy 111)
def gq6:CS:= .a (jy 105)
def gq7:CS:= .a (.ck (.int .u8))
def gq8:CS:= .a (.ck (.int .u64))
def gq9:CS:= .g [xh,UV,xh,xh]
def aru:CS:= .g [UV,(jy 229),xh]
def avz:CS:= .g [UV,(jy 59),(jy 97)]
def mT:CS:= .g [xh,UV,xh,(jy 105)]
def avA:CS:= .g [UV,xh,xh,(jy 187)]
def anw:CS:= .g [UV,(jy 3),xh,xh,xh]
def Im:CS:= .g [UV,(jy 86),(jy 50),(jy 75)]
def ZO:CS:= .p 70 [.sp,(.own 5),(.ck (.int .i64))]
def ak9:CS:= .g [xh,xh,xh,xh,(jy 3),(jy 3)]
def ah2:CS:= .g [UV,(jy 114),(jy 114),(jy 111)]
def lP:CS:= .p 156 [(.rd (.sl 233)),(.ck (.int .i64))]
def avB:CS:= .g [cbA,cbA,cbA,cbA,cbA,cbA,cbA,cbA,cbA]
def anx:CS:= .g [UV,xh,(jy 222),xh,UV,xh,xh,xh,xh,(jy 3),(jy 3),xh,xh,xh,xh,(jy 3),(jy 3)]
def Vc:CS:= .g [UV,(jy 86),(jy 135),(jy 139),(jy 142),(jy 9),(jy 9),(jy 9),(jy 9),(jy 9),(jy 54),(jy 116),(jy 148)]
def avD:CS:= .g [xh,xh,xh,xh,xh,UV,xh,(jy 105),xh,UV,xh,(jy 105),(jy 105),xh,xh,xh,xh,(jy 3),(jy 3),cbA]
def ayI:CS:= .g [UV,(jy 86),(jy 135),(jy 139),(jy 142),(jy 9),(jy 9),(jy 9),(jy 9),(jy 9),(jy 54),(jy 116),(jy 148),(jy 62)]
def Mg:CS:= .g [xh,UV,UV,xh,UV,xh,(jy 105),xh,UV,xh,(jy 105),(jy 105),xh,xh,xh,xh,(jy 3),(jy 3),cbA,(jy 111),(jy 111)]
def avE:CS:= .g [(jy 86),(jy 114),UV,(jy 86),(jy 135),(jy 139),(jy 142),(jy 9),(jy 9),(jy 9),(jy 9),(jy 9),(jy 54),(jy 116),(jy 148)]
def abR:CS:= .p 263 [(.rd .str),(.rd (.sl 86)),(.rd (.sl 50)),(.rd (.sl 75)),(.rd (.sl 86)),(.rd (.sl 114)),(.rd .str),(.rd (.sl 86)),(.rd (.sl 135)),(.rd (.sl 139)),(.rd (.sl 142)),(.rd (.sl 9)),(.rd (.sl 9)),(.rd (.sl 9)),(.rd (.sl 9)),(.rd (.sl 9)),(.rd (.sl 54)),(.rd (.sl 116)),(.rd (.sl 148)),(.ck (.int .i64))]
def abS:CS:= .p 305 [(.rd .str),(.rd (.sl 86)),(.rd (.sl 50)),(.rd (.sl 75)),(.rd (.int .i64)),(.rd (.sl 86)),(.rd (.sl 114)),(.rd .str),(.rd (.sl 86)),(.rd (.sl 135)),(.rd (.sl 139)),(.rd (.sl 142)),(.rd (.sl 9)),(.rd (.sl 9)),(.rd (.sl 9)),(.rd (.sl 9)),(.rd (.sl 9)),(.rd (.sl 54)),(.rd (.sl 116)),(.rd (.sl 148))]
abbrev jf:Ex:= .s []
abbrev sw1:Ex:= .s [32]
abbrev sw2:Ex:= .s [98,111,111,108]
abbrev sw3:Ex:= .s [116,105,109,101]
abbrev sw4:Ex:= .s [105,110,116]
abbrev sw5:Ex:= .s [108,105,102,111]
abbrev sw6:Ex:= .s [108,101,97,115,116]
abbrev sw7:Ex:= .s [102,105,102,111]
abbrev sw8:Ex:= .s [99,111,110,115,101,114,118,101]
abbrev sw9:Ex:= .s [58]
abbrev RO:Ex:= .s [45]
abbrev Wh:Ex:= .s [43]
abbrev agZ:Ex:= .s [42]
abbrev ag0:Ex:= .s [61]
abbrev asO:Ex:= .s [97,100,100]
abbrev ap1:Ex:= .s [97,102,116,101,114]
abbrev asP:Ex:= .s [97,110,100]
abbrev ap2:Ex:= .s [97,116]
abbrev al1:Ex:= .s [98,101,108,116]
abbrev asQ:Ex:= .s [99,111,110,115,116]
abbrev al2:Ex:= .s [99,111,117,110,116]
abbrev asR:Ex:= .s [99,121,99,108,101]
abbrev al3:Ex:= .s [100,111,119,110]
abbrev asS:Ex:= .s [100,114,97,119]
abbrev asT:Ex:= .s [100,117,114]
abbrev asU:Ex:= .s [101,108,115,101]
abbrev Uq:Ex:= .s [101,110,100]
abbrev ap3:Ex:= .s [101,118,101,114,121]
abbrev al4:Ex:= .s [102,97,108,115,101]
abbrev al5:Ex:= .s [102,97,117,108,116]
abbrev asV:Ex:= .s [102,114,101,101]
abbrev al6:Ex:= .s [102,114,111,109]
abbrev asW:Ex:= .s [103,101,111,109]
abbrev asX:Ex:= .s [103,101,116]
abbrev asY:Ex:= .s [104,111,108,100]
abbrev asZ:Ex:= .s [105,102]
abbrev as0:Ex:= .s [105,110,116,111]
abbrev ag1:Ex:= .s [108,101,118,101,108]
abbrev as1:Ex:= .s [108,105,110,107]
abbrev ap4:Ex:= .s [108,111,99,97,108]
abbrev as2:Ex:= .s [109,97,120]
abbrev as3:Ex:= .s [109,105,110]
abbrev as4:Ex:= .s [109,111,100,101,108]
abbrev axr:Ex:= .s [110,111,116]
abbrev as5:Ex:= .s [110,111,119]
abbrev as6:Ex:= .s [111,98,115,101,114,118,101]
abbrev as7:Ex:= .s [111,114]
abbrev as8:Ex:= .s [112,97,114,97,109]
abbrev ap5:Ex:= .s [112,114,101,101,109,112,116]
abbrev as9:Ex:= .s [112,114,105,111]
abbrev ata:Ex:= .s [112,117,116]
abbrev aeV:Ex:= .s [113,117,101,117,101]
abbrev atb:Ex:= .s [114,101,108,101,97,115,101]
abbrev aeW:Ex:= .s [114,101,115,111,117,114,99,101]
abbrev atc:Ex:= .s [114,105,100,101]
abbrev ap6:Ex:= .s [114,111,117,116,105,110,101]
abbrev atd:Ex:= .s [115,101,105,122,101]
abbrev ate:Ex:= .s [115,101,110,100]
abbrev atf:Ex:= .s [115,101,116]
abbrev ap7:Ex:= .s [115,104,105,102,116]
abbrev atg:Ex:= .s [115,105,103,110,97,108]
abbrev ath:Ex:= .s [115,105,116,101]
abbrev ati:Ex:= .s [115,105,122,101]
abbrev atj:Ex:= .s [115,112,97,119,110]
abbrev atk:Ex:= .s [115,116,97,114,116]
abbrev atl:Ex:= .s [115,116,111,112]
abbrev ag2:Ex:= .s [115,116,111,114,101]
abbrev al7:Ex:= .s [115,116,114,101,97,109]
abbrev atm:Ex:= .s [115,117,109]
abbrev ap8:Ex:= .s [116,97,98,108,101]
abbrev al8:Ex:= .s [116,97,108,108,121]
abbrev atn:Ex:= .s [116,105,99,107,115]
abbrev al9:Ex:= .s [116,114,117,101]
abbrev ato:Ex:= .s [117,110,105,102,111,114,109]
abbrev ap9:Ex:= .s [117,110,116,105,108]
abbrev ama:Ex:= .s [117,112]
abbrev ag3:Ex:= .s [118,97,114]
abbrev atp:Ex:= .s [119,97,105,116]
abbrev atq:Ex:= .s [119,97,105,116,105,110,103]
abbrev axs:Ex:= .s [119,104,105,108,101]
abbrev atr:Ex:= .s [44,32]
abbrev Mw:Ex:= .s [40]
abbrev Og:Ex:= .s [41]
abbrev aA6:Ex:= .s [99,114,101,97,116,101,100]
abbrev aA7:Ex:= .s [115,116,111,114,101,100]
abbrev aE3:Ex:= .s [99,111,117,110,116,101,100]
abbrev aA8:Ex:= .s [101,110,116,101,114,101,100]
abbrev aE4:Ex:= .s [108,101,102,116]
abbrev aA9:Ex:= .s [101,110,100,101,100]
abbrev aE5:Ex:= .s [43,45,42,47,37,61,60,62,40,41,44,58,46]
def X5:jl:=[14,15,5,16,17,18,19,20,21,22,23,24,4,25]
def LM:jl:=[9,10,5,11,12,13,14,15,16,17,4,18]
def hl2:jl:=[28,29,30,8,31,32,33,34]
def hl3:jl:=[10,11,12,5,13,14,15,16,17]
def Cy:jl:=[17,18,19,8,20,21,22,9,23,24,25,6,26]
def hl5:jl:=[36,37,38,39,9,10,11,40,41,42,43,44,45,46,47,48,49,50,51,52,53,54,55]
def hl6:jl:=[18,19,20,21,8,7,22,23,24,25,9,26,27,28,29,30,6,31]
def hl7:jl:=[11,12,13,7,14,15,16,17,18,19,20]
def hl8:jl:=[10,11,12,13]
def hl9:jl:=[12,13,14,15,16,17,18,19,20,21,22]
def PB:TL:=
 let a:Ex:= .i 0
 let b:Ex:=cq [.nil] .nil
 let c:Ex:=cq [a,.nil,.nil,(.b false),.nil] b
 let d:Ex:=cq [a,jf,a,.nil,.nil,a,a,a] c
 .aa [(.s [109]),.nil,(cq [(cq [(.s [97]),.nil,.nil,.nil,.nil,.nil,(cq [(.s [117])] .nil),.nil,.nil,(cq [(.s [99])] .nil),(cq [(cq [(.s [112]),.nil,(cq [(cq [(.s [100]),(.i 1)] .nil)] .nil),(cq [(cq [(.i 2),(.s [100]),(.s [117]),a,jf,a,.nil,a,jf,a,.nil,.nil,(.i 2),(.i 1),(.i 4)] c),(cq [(.i 5),jf,jf,(.i 7),jf,a,(cq [(cq [(.i 3),(.s [100]),a] b)] .nil)] d),(cq [(.i 17),(.s [99]),jf,(.i 1),jf,(.i 1),.nil] d)] .nil)] .nil)] .nil),(cq [(cq [(.s [112]),.nil,(.i 3),a,a] .nil)] .nil)] b)] .nil),.nil]
def QT:KL:=[]
def Rx:KP:=kn QT [] ⟨12,12,[],(.c Im)⟩ Tryz.call12 PB
def qY:TL:=
 let a:Ex:= .i 9223372036854775807
 let b:Ex:= .o .cat (.o .cat 3 4) (.s [10])
 let c:Ex:= .o .app 0 (.u .bytes b)
 .call 45 [sw1,1] 1 (.call 46 [2,sw1] 1 (.ag (aU (.u .fD (.o .cat 3 4)) a) (.ag (aU (.u .fD b) a) (.ag (aU (aG c) (.i 140737488355328)) (.aa [c,1])))))
def BC:KL:=[oC,dv]
def aT:KP:=kn BC [] ⟨14,14,[ZO,gq3],(.t [])⟩ Tryz.call14 qY
def Om:TL:=
 .call 49 [0] 1 (.aa [1])
def YU:KL:=[sD]
def eh:KP:=kn YU [] ⟨18,18,[eA],(.c AB)⟩ Tryz.call18 Om
def mN:TL:=
 let a:TL:= .aa [(.b false)]
 .ite (gq (aG 0) (aG 1)) a (.loop [(.i 0)] (.ite (aS 2 (aG 0)) (.ag (aU (.i 0) 2) (.ag (aS 2 (aG 0)) (.ag (aU (.i 0) 2) (.ag (aS 2 (aG 1)) (.ite (jK (.o .and (.o .seq (bE 0 (bG 0 2)) (bE 0 (bG 1 2))) (.o .and (bm (bE 1 (bG 0 2)) (bE 1 (bG 1 2))) (.o .and (bm (bE 2 (bG 0 2)) (bE 2 (bG 1 2))) (.b true))))) a (.next 0 [(eu 2)])))))) (.aa [(.b true)])))
def uY:KL:=[]
def jG:KP:=kn uY [hq 2000002500004 [(13,0)] X5 []] ⟨25,25,[(.a (jy 86)),(.a (jy 86))],(.c vD)⟩ Tryz.call25 mN
def nG:TL:=
 let a:TL:= .aa [(.b false)]
 .ite (gq (aG 0) (aG 1)) a (.loop [(.i 0)] (.ite (aS 2 (aG 0)) (.ag (aU (.i 0) 2) (.ag (aS 2 (aG 0)) (.ag (aU (.i 0) 2) (.ag (aS 2 (aG 1)) (.ite (jK (.o .and (.o .seq (bE 0 (bG 0 2)) (bE 0 (bG 1 2))) (.o .and (.o .seq (bE 1 (bG 0 2)) (bE 1 (bG 1 2))) (.o .and (bm (bE 2 (bG 0 2)) (bE 2 (bG 1 2))) (.b true))))) a (.next 0 [(eu 2)])))))) (.aa [(.b true)])))
def wv:KL:=[]
def ku:KP:=kn wv [hq 2000002800004 [(13,0)] X5 []] ⟨28,28,[(.a (jy 75)),(.a (jy 75))],(.c vD)⟩ Tryz.call28 nG
def HF:TL:=
 .loop [(.i 0)] (.ite (aS 5 (aG 2)) (.ag (aU (.i 0) 5) (.ag (aS 5 (aG 2)) (.ite (.o .seq (bE 0 (bG 2 5)) 4) (.aa [5]) (.next 0 [(eu 5)])))) (.aa [(.i (-1))]))
def Sq:KL:=[]
def fV:KP:=kn Sq [hq 3002008700002 [(8,0)] LM []] ⟨32,32,[Im,AB],(.c eA)⟩ Tryz.call32 HF
def oN:TL:=
 let a:TL:= .aa [(.b false)]
 .ite (gq (aG 0) (aG 1)) a (.loop [(.i 0)] (.ite (aS 2 (aG 0)) (.ag (aU (.i 0) 2) (.ag (aS 2 (aG 0)) (.ag (aU (.i 0) 2) (.ag (aS 2 (aG 1)) (.ite (jK (.o .and (bm (bE 0 (bG 0 2)) (bE 0 (bG 1 2))) (.o .and (bm (bE 1 (bG 0 2)) (bE 1 (bG 1 2))) (.o .and (bm (bE 2 (bG 0 2)) (bE 2 (bG 1 2))) (.b true))))) a (.next 0 [(eu 2)])))))) (.aa [(.b true)])))
def xv:KL:=[]
def lB:KP:=kn xv [hq 2000003500004 [(13,0)] X5 []] ⟨35,35,[(.a (jy 97)),(.a (jy 97))],(.c vD)⟩ Tryz.call35 oN
def rb:TL:=
 let a:Ex:=bG 3 6
 .loop [(.o (.sub .i64) 4 (.i 1)),(.i 0)] (.ite (aS 6 (aG 3)) (.ite (aU (.i 0) 5) (.ag (aU (.i 0) 6) (.ag (aS 6 (aG 3)) (.call 36 (nI a [0,1,2,3]++[5]) 1 (.next 0 [7,(eu 6)])))) (.aa [5])) (.aa [5]))
def zX:nK:=⟨36,36,[mT,eA],(.c eA)⟩
def zD:KL:=[]
def xM:nw:=[zX]
def Al:Mm xM zD:=mq zX [hq 1001003600003 [(1,0),(5,0)] [8,9,10,11,12,13,14,15,16,19,20,21,22,23,24,25,17,18] []] Tryz.call36 rb
def kf:Fm:={L:=zD,cs:=xM,ms:=[Al]}
def iY:=kf.g
theorem Mf (k:Nat) (l:aP):iY (k+1) 36 l=if l.length=5 then rb.bR (iY k) l []else none:=kf.step k (i:=0) (m:=Al) rfl l
def j7:KP:=kf.at 0
theorem KD:j7.F=iY (aF+1) 36:=kf.top _ _ _ rfl
def vt:TL:=
 .ite (bm 0 (.i 2)) (.aa [sw2]) (.ite (bm 0 (.i 3)) (.aa [sw3]) (.aa [sw4]))
def Sy:KL:=[]
def tQ:KP:=kn Sy [] ⟨47,47,[eA],(.c AB)⟩ Tryz.call47 vt
def qi:TL:=
 .ite (bm 0 (.i 2)) (.aa [sw5]) (.ite (bm 0 (.i 3)) (.aa [sw6]) (.aa [sw7]))
def MQ:KL:=[]
def yh:KP:=kn MQ [] ⟨52,52,[eA],(.c AB)⟩ Tryz.call52 qi
def pC:TL:=
 .loop [(.i 0),0,1] (.ite (aS 4 (aG 3)) (.ag (aU (.i 0) 4) (.ag (aS 4 (aG 3)) (.call 14 [5,6,(cq [2,(bG 3 4)] .nil)] 2 (.next 0 [(eu 4),7,8])))) (.aa [5,6]))
def zJ:KL:=[aT]
def mo:KP:=kn zJ [hq 2001005300001 [(10,0)] [11,12,13,7,14,15,16,17,18,19] [(0,(1,5)),(0,(2,0))]] ⟨53,53,[ZO,AB,gq3],(.t [])⟩ Tryz.call53 pC
def tr:TL:=
 let a:Ex:=bE 0 (bG 3 6)
 let b:Ex:= .o .bC 5 RO
 let c:Ex:= .i 8796093022208
 let d:Ex:= .o (.sub .i64) (.i 0) a
 let e:Ex:=gq d (.i 1)
 let f:Ex:= .o .cat jf 7
 let g:Ex:= .i 9223372036854775807
 let h:Ex:=aU (.u .fD f) g
 let j:Ex:=bE 1 (bG 3 6)
 let k:Ex:=bE 2 (bG 3 6)
 let l:Ex:= .o .bC (.o .bC (.o .bC (.o .bC b f) agZ) j) k
 let m:Ex:=eu 6
 let n:Ex:= .o .cat jf j
 let p:Ex:=aU (.u .fD n) g
 let q:Ex:= .o .bC (.o .bC b n) k
 let r:TL:= .ite e (.call 18 [d] 1 (.ag h (.ag (aU (aG l) c) (.next 0 [l,m])))) (.ag p (.ag (aU (aG q) c) (.next 0 [q,m])))
 let u:Ex:= .o .bC (.o .bC (.o .bC (.o .bC 5 f) agZ) j) k
 let w:TL:= .ag h (.ag (aU (aG u) c) (.next 0 [u,m]))
 let x:Ex:= .o .bC (.o .bC 5 n) k
 let y:TL:= .ag p (.ag (aU (aG x) c) (.next 0 [x,m]))
 let z:Ex:= .o .bC (.o .bC (.o .bC (.o .bC 5 (.o .cat RO 7)) agZ) j) k
 let A:Ex:= .o .bC (.o .bC 5 (.o .cat RO j)) k
 let B:Ex:= .o .bC 5 Wh
 let C:Ex:=gq a (.i 1)
 let D:Ex:= .o .bC (.o .bC (.o .bC (.o .bC B f) agZ) j) k
 let E:Ex:= .o .bC (.o .bC B n) k
 let F:TL:= .ite C (.call 18 [a] 1 (.ag h (.ag (aU (aG D) c) (.next 0 [D,m])))) (.ag p (.ag (aU (aG E) c) (.next 0 [E,m])))
 let G:Ex:= .o .bC (.o .bC (.o .bC (.o .bC 5 (.o .cat Wh 7)) agZ) j) k
 let H:Ex:= .o .bC (.o .bC 5 (.o .cat Wh j)) k
 let I:Ex:= .o .bC (.o .bC 5 ag0) 7
 .loop [(cq [sw8,2,sw9] .nil),(.i 0)] (.ite (aS 6 (aG 3)) (.ag (aU (.i 0) 6) (.ag (aS 6 (aG 3)) (.ite (aS a (.i 0)) (.ite (aS (.i 0) 6) (.ag (aU (aG b) c) (.ite (.o .seq jf Wh) r r)) (.ite (.o .seq RO Wh) (.ite e (.call 18 [d] 1 w) y) (.ite e (.call 18 [d] 1 (.ag (aU (.u .fD (.o .cat RO 7)) g) (.ag (aU (aG z) c) (.next 0 [z,m])))) (.ag (aU (.u .fD (.o .cat RO j)) g) (.ag (aU (aG A) c) (.next 0 [A,m])))))) (.ite (aS (.i 0) 6) (.ag (aU (aG B) c) (.ite (.o .seq jf Wh) F F)) (.ite (.o .seq Wh Wh) (.ite C (.call 18 [a] 1 w) y) (.ite C (.call 18 [a] 1 (.ag (aU (.u .fD (.o .cat Wh 7)) g) (.ag (aU (aG G) c) (.next 0 [G,m])))) (.ag (aU (.u .fD (.o .cat Wh j)) g) (.ag (aU (aG H) c) (.next 0 [H,m]))))))))) (.call 18 [4] 1 (.ag (aU (aG I) c) (.call 14 [0,1,I] 2 (.aa [8,9])))))
def C7:KL:=[eh,aT]
def nQ:KP:=kn C7 [hq 3002005600003 [(4,9),(15,0)] [16,17,18,19,6,5,20,21,7,8,22,23,24,25,26,27,28,29,30,31,32,33,34,35,36,37,38,39,40,41,42,43,44,45,46,47,48,49,50,51,52,53,54,55,56] []] ⟨56,56,[ZO,aru],(.t [])⟩ Tryz.call56 tr
def j8:TL:=
 let a:TL:= .aa [(.b false)]
 .ite (gq (aG 0) (aG 1)) a (.loop [(.i 0)] (.ite (aS 2 (aG 0)) (.ag (aU (.i 0) 2) (.ag (aS 2 (aG 0)) (.ag (aU (.i 0) 2) (.ag (aS 2 (aG 1)) (.ite (jK (.o .and (.o .seq (bE 0 (bG 0 2)) (bE 0 (bG 1 2))) (.o .and (bm (bE 1 (bG 0 2)) (bE 1 (bG 1 2))) (.o .and (bm (bE 2 (bG 0 2)) (bE 2 (bG 1 2))) (.b true))))) a (.next 0 [(eu 2)])))))) (.aa [(.b true)])))
def pP:KL:=[]
def fW:KP:=kn pP [hq 2000007200004 [(13,0)] X5 []] ⟨72,72,[(.a (jy 139)),(.a (jy 139))],(.c vD)⟩ Tryz.call72 j8
def kS:TL:=
 let a:TL:= .aa [(.b false)]
 .ite (gq (aG 0) (aG 1)) a (.loop [(.i 0)] (.ite (aS 2 (aG 0)) (.ag (aU (.i 0) 2) (.ag (aS 2 (aG 0)) (.ag (aU (.i 0) 2) (.ag (aS 2 (aG 1)) (.ite (jK (.o .and (.o .seq (bE 0 (bG 0 2)) (bE 0 (bG 1 2))) (.o .and (bm (bE 1 (bG 0 2)) (bE 1 (bG 1 2))) (.o .and (bm (bE 2 (bG 0 2)) (bE 2 (bG 1 2))) (.b true))))) a (.next 0 [(eu 2)])))))) (.aa [(.b true)])))
def rm:KL:=[]
def ig:KP:=kn rm [hq 2000007300004 [(13,0)] X5 []] ⟨73,73,[(.a (jy 142)),(.a (jy 142))],(.c vD)⟩ Tryz.call73 kS
def kT:TL:=
 let a:TL:= .aa [(.b false)]
 .ite (gq (aG 0) (aG 1)) a (.loop [(.i 0)] (.ite (aS 2 (aG 0)) (.ag (aU (.i 0) 2) (.ag (aS 2 (aG 0)) (.ag (aU (.i 0) 2) (.ag (aS 2 (aG 1)) (.ite (jK (.o .seq (bG 0 2) (bG 1 2))) a (.next 0 [(eu 2)])))))) (.aa [(.b true)])))
def rn:KL:=[]
def ii:KP:=kn rn [hq 2000007400004 [(13,0)] X5 []] ⟨74,74,[gq3,gq3],(.c vD)⟩ Tryz.call74 kT
def iN:TL:=
 let a:Ex:= .i 0
 let b:Ex:= .o (.add .i64) 1 (aG (bG 0 2))
 let c:Ex:= .o (.sub .i64) 1 a
 let d:Ex:= .o .app 3 (bG 0 4)
 let e:TL:= .loop [.nil,a] (.ite (aS 4 (aG 0)) (.ag (aU a 4) (.ag (aS 4 (aG 0)) (.ag (aU (aG d) (.i 5864062014805)) (.next 1 [d,(eu 4)])))) (.aa [3]))
 .loop [a,a] (.ite (aS 2 (aG 0)) (.ag (aU a 2) (.ag (aS 2 (aG 0)) (.ite (aS b a) (.fail "op") (.next 0 [b,(eu 2)])))) (.ite (aS 1 a) (.fail "op") (.ite (aS a c) (.ag (aU a c) (.ag (aU c (.i 5864062014805)) e)) e)))
def tZ:KL:=[]
def cD:KP:=kn tZ [hq 1000008500011 [(6,114),(27,0)] hl2 [],hq 3000008500011 [(6,114),(27,0)] hl2 [],hq 1000008500003 [(3,0),(11,0)] [12,13,14,5,15,16,17,18,19,20,21,22] []] ⟨85,85,[(.a (jy 51))],(.c gq4)⟩ Tryz.call85 iN
def CM:TL:=
 .ite (aU (.i 97) 0) (.aa [(aU 0 (.i 122))]) (.aa [(.b false)])
def MP:KL:=[]
def ye:KP:=kn MP [] ⟨91,91,[gq7],(.c vD)⟩ Tryz.call91 CM
def AW:TL:=
 let a:TL:= .aa [(.b true)]
 let b:TL:= .aa [(.b false)]
 .ite (.o .seq 0 asO) (.ite (.o .seq 0 asO) a b) (.ite (.o .seq 0 ap1) (.ite (.o .seq 0 ap1) a b) (.ite (.o .seq 0 asP) (.ite (.o .seq 0 asP) a b) (.ite (.o .seq 0 ap2) (.ite (.o .seq 0 ap2) a b) (.ite (.o .seq 0 al1) (.ite (.o .seq 0 al1) a b) (.ite (.o .seq 0 sw2) (.ite (.o .seq 0 sw2) a b) (.ite (.o .seq 0 sw8) (.ite (.o .seq 0 sw8) a b) (.ite (.o .seq 0 asQ) (.ite (.o .seq 0 asQ) a b) (.ite (.o .seq 0 al2) (.ite (.o .seq 0 al2) a b) (.ite (.o .seq 0 asR) (.ite (.o .seq 0 asR) a b) (.ite (.o .seq 0 al3) (.ite (.o .seq 0 al3) a b) (.ite (.o .seq 0 asS) (.ite (.o .seq 0 asS) a b) (.ite (.o .seq 0 asT) (.ite (.o .seq 0 asT) a b) (.ite (.o .seq 0 asU) (.ite (.o .seq 0 asU) a b) (.ite (.o .seq 0 Uq) (.ite (.o .seq 0 Uq) a b) (.ite (.o .seq 0 ap3) (.ite (.o .seq 0 ap3) a b) (.ite (.o .seq 0 al4) (.ite (.o .seq 0 al4) a b) (.ite (.o .seq 0 al5) (.ite (.o .seq 0 al5) a b) (.ite (.o .seq 0 sw7) (.ite (.o .seq 0 sw7) a b) (.ite (.o .seq 0 asV) (.ite (.o .seq 0 asV) a b) (.ite (.o .seq 0 al6) (.ite (.o .seq 0 al6) a b) (.ite (.o .seq 0 asW) (.ite (.o .seq 0 asW) a b) (.ite (.o .seq 0 asX) (.ite (.o .seq 0 asX) a b) (.ite (.o .seq 0 asY) (.ite (.o .seq 0 asY) a b) (.ite (.o .seq 0 asZ) (.ite (.o .seq 0 asZ) a b) (.ite (.o .seq 0 sw4) (.ite (.o .seq 0 sw4) a b) (.ite (.o .seq 0 as0) (.ite (.o .seq 0 as0) a b) (.ite (.o .seq 0 sw6) (.ite (.o .seq 0 sw6) a b) (.ite (.o .seq 0 ag1) (.ite (.o .seq 0 ag1) a b) (.ite (.o .seq 0 sw5) (.ite (.o .seq 0 sw5) a b) (.ite (.o .seq 0 as1) (.ite (.o .seq 0 as1) a b) (.ite (.o .seq 0 ap4) (.ite (.o .seq 0 ap4) a b) (.ite (.o .seq 0 as2) (.ite (.o .seq 0 as2) a b) (.ite (.o .seq 0 as3) (.ite (.o .seq 0 as3) a b) (.ite (.o .seq 0 as4) (.ite (.o .seq 0 as4) a b) (.ite (.o .seq 0 axr) (.ite (.o .seq 0 axr) a b) (.ite (.o .seq 0 as5) (.ite (.o .seq 0 as5) a b) (.ite (.o .seq 0 as6) (.ite (.o .seq 0 as6) a b) (.ite (.o .seq 0 as7) (.ite (.o .seq 0 as7) a b) (.ite (.o .seq 0 as8) (.ite (.o .seq 0 as8) a b) (.ite (.o .seq 0 ap5) (.ite (.o .seq 0 ap5) a b) (.ite (.o .seq 0 as9) (.ite (.o .seq 0 as9) a b) (.ite (.o .seq 0 ata) (.ite (.o .seq 0 ata) a b) (.ite (.o .seq 0 aeV) (.ite (.o .seq 0 aeV) a b) (.ite (.o .seq 0 atb) (.ite (.o .seq 0 atb) a b) (.ite (.o .seq 0 aeW) (.ite (.o .seq 0 aeW) a b) (.ite (.o .seq 0 atc) (.ite (.o .seq 0 atc) a b) (.ite (.o .seq 0 ap6) (.ite (.o .seq 0 ap6) a b) (.ite (.o .seq 0 atd) (.ite (.o .seq 0 atd) a b) (.ite (.o .seq 0 ate) (.ite (.o .seq 0 ate) a b) (.ite (.o .seq 0 atf) (.ite (.o .seq 0 atf) a b) (.ite (.o .seq 0 ap7) (.ite (.o .seq 0 ap7) a b) (.ite (.o .seq 0 atg) (.ite (.o .seq 0 atg) a b) (.ite (.o .seq 0 ath) (.ite (.o .seq 0 ath) a b) (.ite (.o .seq 0 ati) (.ite (.o .seq 0 ati) a b) (.ite (.o .seq 0 atj) (.ite (.o .seq 0 atj) a b) (.ite (.o .seq 0 atk) (.ite (.o .seq 0 atk) a b) (.ite (.o .seq 0 atl) (.ite (.o .seq 0 atl) a b) (.ite (.o .seq 0 ag2) (.ite (.o .seq 0 ag2) a b) (.ite (.o .seq 0 al7) (.ite (.o .seq 0 al7) a b) (.ite (.o .seq 0 atm) (.ite (.o .seq 0 atm) a b) (.ite (.o .seq 0 ap8) (.ite (.o .seq 0 ap8) a b) (.ite (.o .seq 0 al8) (.ite (.o .seq 0 al8) a b) (.ite (.o .seq 0 atn) (.ite (.o .seq 0 atn) a b) (.ite (.o .seq 0 sw3) (.ite (.o .seq 0 sw3) a b) (.ite (.o .seq 0 al9) (.ite (.o .seq 0 al9) a b) (.ite (.o .seq 0 ato) (.ite (.o .seq 0 ato) a b) (.ite (.o .seq 0 ap9) (.ite (.o .seq 0 ap9) a b) (.ite (.o .seq 0 ama) (.ite (.o .seq 0 ama) a b) (.ite (.o .seq 0 ag3) (.ite (.o .seq 0 ag3) a b) (.ite (.o .seq 0 atp) (.ite (.o .seq 0 atp) a b) (.ite (.o .seq 0 atq) (.ite (.o .seq 0 atq) a b) (.ite (.o .seq 0 axs) a b))))))))))))))))))))))))))))))))))))))))))))))))))))))))))))))))))))))))
def Lu:KL:=[]
def iU:KP:=kn Lu [] ⟨92,92,[AB],(.c vD)⟩ Tryz.call92 AW
def CJ:TL:=
 .ite (aU 1 0) (.aa [(aU 0 2)]) (.aa [(.b false)])
def MO:KL:=[]
def du:KP:=kn MO [] ⟨102,102,[eA,eA,eA],(.c vD)⟩ Tryz.call102 CJ
def nj:TL:=
 let a:Ex:= .i 0
 let b:TL:= .aa [(.i 2)]
 let c:Ex:= .o (.sub .i64) 18 (.i 1)
 let d:TL:= .next 0 [(eu 18)]
 let e:TL:= .ite (aS a 18) (.ag (aU a c) (.ag (aS c (aG 2)) (.ite (aU (bE 0 (bG 2 18)) (bE 0 (bG 2 c))) (.aa [(.i 12)]) d))) d
 .ite (bm (aG 2) a) (.ite (gq 3 a) (.aa [(.i 1)]) (.aa [a])) (.ite (aS (.i 20) (aG 2)) (.aa [(.i 6)]) (.call 102 [3,(.i 1),(.i 1000000000)] 1 (.ite (jK 17) b (.loop [a] (.ite (aS 18 (aG 2)) (.ag (aU a 18) (.ag (aS 18 (aG 2)) (.call 102 [(bE 0 (bG 2 18)),a,(.o (.sub .i64) 3 (.i 1))] 1 (.ite (jK 19) (.ite (jK 19) b e) (.call 102 [(bE 1 (bG 2 18)),a,(.i 1000)] 1 (.ite (jK 20) b e)))))) (.aa [a]))))))
def H4:KL:=[du]
def tO:KP:=kn H4 [hq 5001010300010 [(25,0)] [26,27,28,29,4,3,31,32,33,34,35,36,37,30,38,39,40,41,2,43,44,45,46,47,48,49,50,51,52,53,54,55,56,42,57] []] ⟨103,103,[anx],(.c eA)⟩ Tryz.call103 nj
def E9:TL:=
 .ite (bm 0 (.i 0)) (.aa [al4]) (.aa [al9])
def P1:KL:=[]
def nA:KP:=kn P1 [] ⟨132,132,[eA],(.c AB)⟩ Tryz.call132 E9
def AU:TL:=
 .loop [(.i 0)] (.ite (aS 14 (aG 10)) (.ag (aU (.i 0) 14) (.ag (aS 14 (aG 10)) (.ite (.o .seq (bE 0 (bG 10 14)) 13) (.aa [14]) (.next 0 [(eu 14)])))) (.aa [(.i (-1))]))
def Lr:KL:=[]
def bx:KP:=kn Lr [hq 12002019100002 [(8,0)] LM []] ⟨139,139,[Vc,AB],(.c eA)⟩ Tryz.call139 AU
def th:TL:=
 .ite (aS (eu 1) (aG 0)) (.aa [(eu 1)]) (.aa [1])
def C4:KL:=[]
def iP:KP:=kn C4 [] ⟨146,146,[lP],(.t [])⟩ Tryz.call146 th
def uQ:TL:=
 let a:Ex:=bG 0 1
 .ag (aU (.i 0) 1) (.ag (aS 1 (aG 0)) (.aa (nI a [0,1,2,3]++[1])))
def El:KL:=[]
def aW:KP:=kn El [] ⟨153,153,[lP],(.c gq9)⟩ Tryz.call153 uQ
def mc:TL:=
 let a:TL:= .aa [(.b false)]
 .ite (gq (aG 0) (aG 1)) a (.loop [(.i 0)] (.ite (aS 2 (aG 0)) (.ag (aU (.i 0) 2) (.ag (aS 2 (aG 0)) (.ag (aU (.i 0) 2) (.ag (aS 2 (aG 1)) (.ite (jK (.o .and (bm (bE 0 (bG 0 2)) (bE 0 (bG 1 2))) (.o .and (bm (bE 1 (bG 0 2)) (bE 1 (bG 1 2))) (.b true)))) a (.next 0 [(eu 2)])))))) (.aa [(.b true)])))
def uc:KL:=[]
def iX:KP:=kn uc [hq 2000015400004 [(13,0)] X5 []] ⟨154,154,[(.a (jy 222)),(.a (jy 222))],(.c vD)⟩ Tryz.call154 mc
def mM:TL:=
 let a:TL:= .aa [(.b false)]
 .ite (gq (aG 0) (aG 1)) a (.loop [(.i 0)] (.ite (aS 2 (aG 0)) (.ag (aU (.i 0) 2) (.ag (aS 2 (aG 0)) (.ag (aU (.i 0) 2) (.ag (aS 2 (aG 1)) (.ite (jK (.o .and (.o .seq (bE 0 (bG 0 2)) (bE 0 (bG 1 2))) (.o .and (bm (bE 1 (bG 0 2)) (bE 1 (bG 1 2))) (.b true)))) a (.next 0 [(eu 2)])))))) (.aa [(.b true)])))
def uX:KL:=[]
def jE:KP:=kn uX [hq 2000015600004 [(13,0)] X5 []] ⟨156,156,[gq4,gq4],(.c vD)⟩ Tryz.call156 mM
def lJ:TL:=
 let a:TL:= .aa [(.b false)]
 .ite (gq (aG 0) (aG 1)) a (.loop [(.i 0)] (.ite (aS 2 (aG 0)) (.ag (aU (.i 0) 2) (.ag (aS 2 (aG 0)) (.ag (aU (.i 0) 2) (.ag (aS 2 (aG 1)) (.ite (gq (bG 0 2) (bG 1 2)) a (.next 0 [(eu 2)])))))) (.aa [(.b true)])))
def zM:KL:=[]
def eS:KP:=kn zM [hq 2000015800004 [(13,0)] X5 []] ⟨158,158,[(.a (jy 3)),(.a (jy 3))],(.c vD)⟩ Tryz.call158 lJ
def nH:TL:=
 let a:TL:= .aa [(.b false)]
 .ite (gq (aG 0) (aG 1)) a (.loop [(.i 0)] (.ite (aS 2 (aG 0)) (.ag (aU (.i 0) 2) (.ag (aS 2 (aG 0)) (.ag (aU (.i 0) 2) (.ag (aS 2 (aG 1)) (.ite (jK (.o .and (bm (bE 0 (bG 0 2)) (bE 0 (bG 1 2))) (.o .and (.o .seq (bE 1 (bG 0 2)) (bE 1 (bG 1 2))) (.o .and (.o .seq (bE 2 (bG 0 2)) (bE 2 (bG 1 2))) (.b true))))) a (.next 0 [(eu 2)])))))) (.aa [(.b true)])))
def ww:KL:=[]
def kv:KP:=kn ww [hq 2000015900004 [(13,0)] X5 []] ⟨159,159,[(.a (jy 229)),(.a (jy 229))],(.c vD)⟩ Tryz.call159 nH
def E5:TL:=
 .ite (aU (.i 1) 0) (.aa [(aU 0 (.i 3))]) (.aa [(.b false)])
def PT:KL:=[]
def lL:KP:=kn PT [] ⟨172,172,[eA],(.c vD)⟩ Tryz.call172 E5
def Wm:TL:=
 .ite (aU (.i (-1000000000000)) 0) (.aa [(aU 0 (.i 1000000000000))]) (.aa [(.b false)])
def aff:KL:=[]
def B4:KP:=kn aff [] ⟨182,182,[eA],(.c vD)⟩ Tryz.call182 Wm
def QH:TL:=
 let a:Ex:= .i 32
 let b:Ex:= .o (.shr .u64) 0 a
 let c:Ex:= .o (.shr .u64) 1 a
 let d:Ex:= .i 4294967295
 let e:Ex:= .o (.ahE .u64) 1 d
 let f:Ex:= .o (.ahE .u64) 0 d
 let g:Ex:= .o (.add .u64) (.o (.mul .u64) b e) (.o (.shr .u64) (.o (.mul .u64) f e) a)
 .aa [(.o (.add .u64) (.o (.add .u64) (.o (.mul .u64) b c) (.o (.shr .u64) g a)) (.o (.shr .u64) (.o (.add .u64) (.o (.ahE .u64) g d) (.o (.mul .u64) f c)) a)),(.o (.mul .u64) 0 1)]
def Sb:KL:=[]
def DM:KP:=kn Sb [] ⟨185,185,[gq8,gq8],(.t [gq8,gq8])⟩ Tryz.call185 QH
def jJ:TL:=
 let a:Ex:= .u .fD 1
 let b:Ex:=aU a (.u .fD 0)
 .ite b (.ag (aU (.i 0) a) (.ag b (.aa [(.o .seq (.t .Uo 0 (.i 0) a) 1)]))) (.aa [(.b false)])
def wx:KL:=[]
def kA:KP:=kn wx [] ⟨186,186,[AB,AB],(.c vD)⟩ Tryz.call186 jJ
def HD:TL:=
 .ite (aU (.i 97) 0) (.aa [(aU 0 (.i 122))]) (.aa [(.b false)])
def Sl:KL:=[]
def tM:KP:=kn Sl [] ⟨193,193,[gq7],(.c vD)⟩ Tryz.call193 HD
def K2:TL:=
 .ite (aU (.i 48) 0) (.aa [(aU 0 (.i 57))]) (.aa [(.b false)])
def WE:KL:=[]
def wQ:KP:=kn WE [] ⟨196,196,[gq7],(.c vD)⟩ Tryz.call196 K2
def HB:TL:=
 let a:TL:= .aa [(.i 0),(.b false)]
 .call 231 [0] 2 (.ite (jK 2) a (.ite (aS 1 (.i 0)) a (.aa [1,(.b true)])))
def Sj:KL:=[B5]
def DP:KP:=kn Sj [] ⟨197,197,[AB],(.t [eA,vD])⟩ Tryz.call197 HB
def AR:TL:=
 let a:Ex:=aU (.i 0) 3
 let b:Ex:=aS 3 (aG 4)
 let c:Ex:=bG 4 3
 let d:TL:= .ag a (.ag b (.ag a (.ag b (.next 0 [(eu 3),(.t .Yh 4 3 (cq ([(bE 0 c),(.o (.add .i64) (bE 1 c) 1)]++nI c [2,3,4,5,6,7,8,9,10,11,12,13,14,15,16,17,18,19]) .nil))]))))
 .call 255 [0] 1 (.loop [(.i 0),2] (.ite (aS 3 (aG 2)) (.ag a (.ag b (.ite (bm (bE 0 c) (.i 4)) d (.ag a (.ag b (.ite (bm (bE 0 c) (.i 5)) d (.next 0 [(eu 3),4]))))))) (.aa [4])))
def Lp:KL:=[jC]
def mP:KP:=kn Lp [⟨2000021100003,[(11,0)],[12,13,6,14,15,16,17,18,19,20,21,22,23,24,25,26,27,28,29,30,31,32,33,34,35,36,37],[],[1],[],[],[],[],0⟩] ⟨211,211,[(.a (jy 187)),eA],(.c (.a (jy 187)))⟩ Tryz.call211 AR
def pw:TL:=
 let a:TL:= .aa [(.b false)]
 let b:Ex:=bG 3 8
 let c:Ex:=bG 7 8
 .ite (gq 0 4) a (.ite (jK (.o .seq 1 5)) a (.ite (gq 2 6) a (.ite (gq (aG 3) (aG 7)) a (.loop [(.i 0)] (.ite (aS 8 (aG 3)) (.ag (aU (.i 0) 8) (.ag (aS 8 (aG 3)) (.ag (aU (.i 0) 8) (.ag (aS 8 (aG 7)) (.call 213 (nI b [0,1,2,3]++nI c [0,1,2,3]) 1 (.ite (jK 9) a (.next 0 [(eu 8)]))))))) (.aa [(.b true)]))))))
def ST:nK:=⟨213,213,[mT,mT],(.c vD)⟩
def R7:KL:=[]
def Qi:nw:=[ST]
def TX:Mm Qi R7:=mq ST [hq 2002021300004 [(38,0)] [39,40,41,42,6,5,43,44,45,46,47,48,49,50,4,51] []] Tryz.call213 pw
def xN:Fm:={L:=R7,cs:=Qi,ms:=[TX]}
def Dt:=xN.g
theorem Kc (k:Nat) (l:aP):Dt (k+1) 213 l=if l.length=8 then pw.bR (Dt k) l []else none:=xN.step k (i:=0) (m:=TX) rfl l
def lK:KP:=xN.at 0
theorem Qr:lK.F=Dt (aF+1) 213:=xN.top _ _ _ rfl
def kU:TL:=
 .loop [(.i 0)] (.ite (aS 2 (aG 0)) (.ag (aU (.i 0) 2) (.ag (aS 2 (aG 0)) (.ite (.o .seq 1 (bG 0 2)) (.aa [2]) (.next 0 [(eu 2)])))) (.aa [(.i (-1))]))
def ru:KL:=[]
def cH:KP:=kn ru [hq 1000021500002 [(8,0)] LM []] ⟨215,215,[gq3,AB],(.c eA)⟩ Tryz.call215 kU
def dx:TL:=
 let a:Ex:=bm (.o (.add .i64) (aG 4) (aG 5)) (.i 0)
 let b:TL:= .aa [(bm 3 (.i 0))]
 let c:TL:= .aa [(.b false)]
 let d:TL:= .ite (bm 2 (.i 0)) b c
 let e:TL:= .ite (bm 0 (.i 4)) (.aa [a]) (.ite (bm 0 (.i 3)) (.ite (bm 1 (.i 0)) d c) c)
 .ite (bm 0 (.i 1)) (.ite a d c) (.ite (bm 0 (.i 2)) (.ite (bm 0 (.i 2)) (.ite a b c) e) (.ite (bm 0 (.i 5)) (.ite a b c) e))
def PL:KL:=[]
def Ba:KP:=kn PL [] ⟨216,216,[ak9],(.c vD)⟩ Tryz.call216 dx
def E3:TL:=
 let a:TL:= .aa [(jK (aU (.i 0) 3))]
 .loop [(.i 0)] (.ite (aS 3 (aG 2)) (.ag (aU (.i 0) 3) (.ag (aS 3 (aG 2)) (.ite (aS (bG 2 3) 0) a (.ite (aS 1 (bG 2 3)) a (.next 0 [(eu 3)]))))) (.aa [(.b true)]))
def PM:KL:=[]
def qp:KP:=kn PM [hq 1002029800002 [(8,0)] LM []] ⟨217,217,[eA,eA,(.a (jy 3))],(.c vD)⟩ Tryz.call217 E3
end
end
section
noncomputable section
open Go.RowKit
def HL:TL:=
 .loop [(aG 0),(.i 0)] (.ite (aS 2 (aG 0)) (.ag (aU (.i 0) 2) (.ag (aS 2 (aG 0)) (.call 218 [(bE 19 (bG 0 2))] 1 (.call 218 [(bE 20 (bG 0 2))] 1 (.next 0 [(.o (.add .i64) 1 (.o (.add .i64) 3 4)),(eu 2)]))))) (.aa [1]))
def Qe:nK:=⟨218,218,[gq5],(.c eA)⟩
def PH:KL:=[]
def M6:nw:=[Qe]
def Qy:Mm M6 PH:=mq Qe [hq 1000021800003 [(3,0),(10,0)] [11,12,13,5,14,15,16,17,18,19,20,21,22,23] []] Tryz.call218 HL
def vB:Fm:={L:=PH,cs:=M6,ms:=[Qy]}
def A1:=vB.g
theorem abO (k:Nat) (l:aP):A1 (k+1) 218 l=if l.length=1 then HL.bR (A1 k) l []else none:=vB.step k (i:=0) (m:=Qy) rfl l
def KE:KP:=vB.at 0
theorem aag:KE.F=A1 (aF+1) 218:=vB.top _ _ _ rfl
def HM:TL:=
 .loop [(.i 0),(.i 0)] (.ite (aS 2 (aG 0)) (.ag (aU (.i 0) 2) (.ag (aS 2 (aG 0)) (.call 219 [(bE 19 (bG 0 2))] 1 (.call 219 [(bE 20 (bG 0 2))] 1 (.next 0 [(.o .max (.o .max 1 (.o (.add .i64) (.i 1) 3)) (.o (.add .i64) (.i 1) 4)),(eu 2)]))))) (.aa [1]))
def Qf:nK:=⟨219,219,[gq5],(.c eA)⟩
def PI:KL:=[]
def M7:nw:=[Qf]
def Qz:Mm M7 PI:=mq Qf [hq 1000021900003 [(3,0),(8,0)] [9,10,11,5,12,13,14,15,16,17,18,19,20,21,22] []] Tryz.call219 HM
def vC:Fm:={L:=PI,cs:=M7,ms:=[Qz]}
def A2:=vC.g
theorem abP (k:Nat) (l:aP):A2 (k+1) 219 l=if l.length=1 then HM.bR (A2 k) l []else none:=vC.step k (i:=0) (m:=Qz) rfl l
def KF:KP:=vC.at 0
theorem aah:KF.F=A2 (aF+1) 219:=vC.top _ _ _ rfl
def qh:TL:=
 let a:Ex:=bG 3 10
 let b:Ex:= .o .bC 9 (cq [11,12,13,14] .nil)
 let c:TL:= .loop [.nil,(.i 0)] (.ite (aS 10 (aG 3)) (.ag (aU (.i 0) 10) (.ag (aS 10 (aG 3)) (.call 251 (nI a [0,1,2,3]++[4,5,6,7,8]) 4 (.ag (aU (aG b) (.i 2513169434916)) (.next 0 [b,(eu 10)]))))) (.aa [0,1,2,9]))
 .ite (bm 0 (.i 3)) (.ite (.o .seq 1 4) (.aa [5,6,7,8]) c) c
def Lz:nK:=⟨251,251,[mT,AB,mT],(.c mT)⟩
def Lj:KL:=[]
def Ib:nw:=[Lz]
def LP:Mm Ib Lj:=mq Lz [hq 2003025100005 [(7,105),(23,0)] [24,25,26,9,27,28,29,30,31,32,33,34] []] Tryz.call251 qh
def rA:Fm:={L:=Lj,cs:=Ib,ms:=[LP]}
def pL:=rA.g
theorem XJ (k:Nat) (l:aP):pL (k+1) 251 l=if l.length=9 then qh.bR (pL k) l []else none:=rA.step k (i:=0) (m:=LP) rfl l
def ya:KP:=rA.at 0
theorem VW:ya.F=pL (aF+1) 251:=rA.top _ _ _ rfl
def Hz:TL:=
 .ite (bm 0 (.i 1)) (.aa [(.i 1),jf,1,.nil]) (.ite (bm 0 (.i 2)) (.ite (gq 1 (.i 0)) (.aa [(.i 2),jf,(.i 1),.nil]) (.aa [(.i 2),jf,1,.nil])) (.ite (bm 0 (.i 3)) (.aa [(.i 7),jf,(.i 0),(cq [(cq [(.i 1),jf,1,.nil] .nil)] .nil)]) (.aa [(.i 0),jf,(.i 0),.nil])))
def Si:KL:=[]
def mW:KP:=kn Si [] ⟨252,252,[eA,eA],(.c mT)⟩ Tryz.call252 Hz
def qS:TL:=
 .loop [(.o (.sub .i64) (aG 5) (.i 1))] (.ite (aU (.i 0) 21) (.ag (aU (.i 0) 21) (.ag (aS 21 (aG 5)) (.ite (.o .seq (bE 0 (bG 5 21)) 20) (.aa [21,19]) (.next 0 [(.o (.sub .i64) 21 (.i 1))])))) (.aa [(.i (-1)),19]))
def Bq:KL:=[]
def dV:KP:=kn Bq [hq 17001025800002 [(5,0)] [13,14,17,18,19,20,21,22,23,24,25,26,27,28,4,15,16] []] ⟨258,258,[abR,AB],(.c eA)⟩ Tryz.call258 qS
def uw:TL:=
 .loop [(.i 0)] (.ite (aS 21 (aG 7)) (.ag (aU (.i 0) 21) (.ag (aS 21 (aG 7)) (.ite (.o .seq (bE 0 (bG 7 21)) 20) (.aa [21,19]) (.next 0 [(eu 21)])))) (.aa [(.i (-1)),19]))
def uV:KL:=[]
def cM:KP:=kn uV [hq 17002020700002 [(8,0)] LM []] ⟨259,259,[abR,AB],(.c eA)⟩ Tryz.call259 uw
def K6:TL:=
 let a:Ex:= .b true
 let b:Ex:= .b false
 let c:TL:= .aa [a,b,a,b,b,b,b,b,b,a]
 let d:TL:= .aa [a,b,b,b,b,b,b,b,b,a]
 let e:TL:= .ite (bm 0 (.i 13)) (.aa [a,a,a,b,a,b,b,b,b,a]) (.ite (bm 0 (.i 14)) (.aa [a,b,a,b,a,b,b,b,b,a]) (.ite (bm 0 (.i 18)) (.aa [b,b,b,b,b,b,b,b,b,a]) (.aa [b,b,b,b,b,b,b,b,b,b])))
 let f:TL:= .ite (bm 0 (.i 2)) (.aa [a,a,b,b,b,a,b,b,b,a]) (.ite (bm 0 (.i 3)) (.aa [b,b,a,b,b,b,b,a,a,a]) (.ite (bm 0 (.i 4)) (.aa [b,b,a,b,b,b,b,a,b,a]) (.ite (bm 0 (.i 5)) (.aa [b,b,a,b,b,b,b,b,b,a]) (.ite (bm 0 (.i 6)) (.aa [a,b,a,a,b,b,a,b,b,a]) (.ite (bm 0 (.i 9)) (.aa [a,a,b,b,b,b,b,b,b,a]) (.ite (bm 0 (.i 10)) (.ite (bm 0 (.i 10)) d e) (.ite (bm 0 (.i 11)) d e)))))))
 .ite (bm 0 (.i 1)) (.ite (bm 0 (.i 1)) c f) (.ite (bm 0 (.i 7)) (.ite (bm 0 (.i 7)) c f) (.ite (bm 0 (.i 8)) (.ite (bm 0 (.i 8)) c f) (.ite (bm 0 (.i 12)) (.ite (bm 0 (.i 12)) c f) (.ite (bm 0 (.i 15)) (.ite (bm 0 (.i 15)) c f) (.ite (bm 0 (.i 16)) (.ite (bm 0 (.i 16)) c f) (.ite (bm 0 (.i 17)) c f))))))
def WI:KL:=[]
def B7:KP:=kn WI [] ⟨265,265,[eA],(.t [avB,vD])⟩ Tryz.call265 K6
def zg:TL:=
 let a:Ex:= .b true
 .ite (bm 0 (.i 19)) (.aa [as7,(.i 1),a]) (.ite (bm 0 (.i 18)) (.aa [asP,(.i 2),a]) (.ite (bm 0 (.i 14)) (.aa [ag0,(.i 4),a]) (.ite (bm 0 (.i 15)) (.aa [(.s [33,61]),(.i 4),a]) (.ite (bm 0 (.i 16)) (.aa [(.s [60]),(.i 4),a]) (.ite (bm 0 (.i 17)) (.aa [(.s [60,61]),(.i 4),a]) (.ite (bm 0 (.i 9)) (.aa [Wh,(.i 5),a]) (.ite (bm 0 (.i 10)) (.aa [RO,(.i 5),a]) (.ite (bm 0 (.i 11)) (.aa [agZ,(.i 6),a]) (.ite (bm 0 (.i 12)) (.aa [(.s [47]),(.i 6),a]) (.ite (bm 0 (.i 13)) (.aa [(.s [37]),(.i 6),a]) (.aa [jf,(.i 8),(.b false)])))))))))))
def H5:KL:=[]
def jo:KP:=kn H5 [] ⟨275,275,[eA],(.t [AB,eA,vD])⟩ Tryz.call275 zg
def QN:TL:=
 let a:Ex:=aS 6 (aG 3)
 let b:TL:= .aa [(.i 0),(.b false)]
 let c:TL:= .next 0 [(eu 6)]
 .loop [(.i 0)] (.ite a (.ag (aU (.i 0) 6) (.ag a (.ite (.o .seq (bE 0 (bG 3 6)) 4) (.ite (.o .seq (bE 1 (bG 3 6)) 5) (.ite (aS 6 (.i 0)) b (.ag (aU (.i 0) 6) (.ag a (.aa [(bE 2 (bG 3 6)),(.b true)])))) c) c))) b)
def Sn:KL:=[]
def tN:KP:=kn Sn [hq 3003031800002 [(8,0)] LM []] ⟨296,296,[Im,AB,AB],(.t [eA,vD])⟩ Tryz.call296 QN
def qQ:TL:=
 .call 258 [0,1,2,3,4,5,6,7,8,9,10,11,12,13,14,15,16,17,18,19,20] 2 (.ite (aU (.i 0) 21) (.aa [(.i 25),jf,21,.nil,22]) (.call 259 [0,1,2,3,4,5,6,7,8,9,10,11,12,13,14,15,16,17,18,22,20] 2 (.ite (aS 23 (.i 0)) (.aa [(.i 26),jf,23,.nil,(.i 5)]) (.aa [(.i 26),jf,23,.nil,24]))))
def Bo:KL:=[dV,cM]
def gG:KP:=kn Bo [] ⟨297,297,[abR,AB],(.c mT)⟩ Tryz.call297 qQ
def E8:TL:=
 .ite (bm 0 (.i 6)) (.aa [(.i 3)]) (.ite (bm 0 (.i 5)) (.aa [(.i 7)]) (.call 275 [0] 3 (.aa [5])))
def P0:KL:=[jo]
def vj:KP:=kn P0 [] ⟨302,302,[mT],(.c eA)⟩ Tryz.call302 E8
def CN:TL:=
 let a:Ex:=aU (.i 0) 2
 .loop [(.o (.sub .i64) (aG 0) (.i 1))] (.ite a (.ag a (.ag (aS 2 (aG 0)) (.ite (.o .seq (bE 0 (bG 0 2)) 1) (.ag a (.ag (aS 2 (aG 0)) (.aa [(bE 1 (bG 0 2)),(.b true)]))) (.next 0 [(.o (.sub .i64) 2 (.i 1))])))) (.aa [(.i 0),(.b false)]))
def MT:KL:=[]
def fR:KP:=kn MT [hq 1000030900002 [(6,0)] [10,11,14,15,16,17,18,19,20,21,22,23,24,25,4,5,12,13] []] ⟨309,309,[gq4,AB],(.t [eA,vD])⟩ Tryz.call309 CN
def vu:TL:=
 .call 309 [6,20] 2 (.loop [(.i 0)] (.ite (aS 24 (aG 21)) (.ag (aU (.i 0) 24) (.ag (aS 24 (aG 21)) (.ite (bm 22 (bG 21 24)) (.aa [(.i 0)]) (.next 0 [(eu 24)])))) (.aa [(.i 10)])))
def wy:KL:=[fR]
def kC:KP:=kn wy [hq 18001031000003 [(23,0)] [24,25,26,10,27,28,29,6,30] []] ⟨310,310,[abS,AB,(.a (jy 84))],(.c eA)⟩ Tryz.call310 vu
def HA:TL:=
 let a:Ex:=bG 3 5
 .loop [(.i 1),(.i 0)] (.ite (aS 5 (aG 3)) (.ag (aU (.i 0) 5) (.ag (aS 5 (aG 3)) (.call 312 (nI a [0,1,2,3]) 1 (.next 0 [(.o (.add .i64) 4 6),(eu 5)])))) (.aa [4]))
def Qb:nK:=⟨312,312,[mT],(.c eA)⟩
def PG:KL:=[]
def M5:nw:=[Qb]
def Qv:Mm M5 PG:=mq Qb [hq 1001031200003 [(3,0),(9,0)] hl3 []] Tryz.call312 HA
def vA:Fm:={L:=PG,cs:=M5,ms:=[Qv]}
def A0:=vA.g
theorem abL (k:Nat) (l:aP):A0 (k+1) 312 l=if l.length=4 then HA.bR (A0 k) l []else none:=vA.step k (i:=0) (m:=Qv) rfl l
def KA:KP:=vA.at 0
theorem aae:KA.F=A0 (aF+1) 312:=vA.top _ _ _ rfl
def qw:TL:=
 let a:Ex:=bG 3 5
 .loop [(.i 0),(.i 0)] (.ite (aS 5 (aG 3)) (.ag (aU (.i 0) 5) (.ag (aS 5 (aG 3)) (.call 313 (nI a [0,1,2,3]) 1 (.next 0 [(.o .max 4 6),(eu 5)])))) (.aa [(eu 4)]))
def Qa:nK:=⟨313,313,[mT],(.c eA)⟩
def PF:KL:=[]
def M4:nw:=[Qa]
def Qu:Mm M4 PF:=mq Qa [hq 1001031300003 [(3,0),(9,0)] hl3 []] Tryz.call313 qw
def vz:Fm:={L:=PF,cs:=M4,ms:=[Qu]}
def uT:=vz.g
theorem GN (k:Nat) (l:aP):uT (k+1) 313 l=if l.length=4 then qw.bR (uT k) l []else none:=vz.step k (i:=0) (m:=Qu) rfl l
def Kz:KP:=vz.at 0
theorem aad:Kz.F=uT (aF+1) 313:=vz.top _ _ _ rfl
def Hx:TL:=
 let a:TL:= .aa [2,(.b true)]
 let b:Ex:=aS (.i 0) (aG 3)
 let c:TL:= .aa [(.i 0),(.b false)]
 .ite (bm 0 (.i 1)) a (.ite (bm 0 (.i 2)) a (.ite (bm 0 (.i 7)) (.ite (bm (aG 3) (.i 1)) (.ag b (.ite (bm (bE 0 (bG 3 (.i 0))) (.i 1)) (.ag b (.aa [(bE 2 (bG 3 (.i 0))),(.b true)])) c)) c) c))
def Sa:KL:=[]
def tI:KP:=kn Sa [] ⟨315,315,[mT],(.t [eA,vD])⟩ Tryz.call315 Hx
def QL:TL:=
 .ite 0 (.aa [(.i 1)]) (.aa [(.i 0)])
def Sg:KL:=[]
def tK:KP:=kn Sg [] ⟨331,331,[vD],(.c eA)⟩ Tryz.call331 QL
def QK:TL:=
 let a:TL:= .aa [(gq 2 (.i 0))]
 let b:TL:= .aa [(.b false)]
 .ite (bm 0 (.i 14)) (.aa [(bm 1 2)]) (.ite (bm 0 (.i 15)) (.aa [(gq 1 2)]) (.ite (bm 0 (.i 16)) (.aa [(aS 1 2)]) (.ite (bm 0 (.i 17)) (.aa [(aU 1 2)]) (.ite (bm 0 (.i 18)) (.ite (gq 1 (.i 0)) a b) (.ite (bm 0 (.i 19)) (.ite (gq 1 (.i 0)) (.aa [(.b true)]) a) b)))))
def Sf:KL:=[]
def DN:KP:=kn Sf [] ⟨336,336,[eA,eA,eA],(.c vD)⟩ Tryz.call336 QK
def HI:TL:=
 .aa [0,jf,(.i 0),(cq [(cq [1,2,3,4] .nil),(cq [5,6,7,8] .nil)] .nil)]
def Sw:KL:=[]
def yf:KP:=kn Sw [] ⟨340,340,[eA,mT,mT],(.c mT)⟩ Tryz.call340 HI
def Oo:TL:=
 .call 309 [1,15] 2 (.ite 17 (.aa [16,(.b true)]) (.loop [(.i 0)] (.ite (aS 18 (aG 3)) (.ag (aU (.i 0) 18) (.ag (aS 18 (aG 3)) (.ite (.o .seq (bE 0 (bG 3 18)) 15) (.aa [(bE 1 (bG 3 18)),(.b true)]) (.next 0 [(eu 18)])))) (.loop [(.i 0)] (.ite (aS 19 (aG 0)) (.ag (aU (.i 0) 19) (.ag (aS 19 (aG 0)) (.ite (.o .seq (bE 0 (bG 0 19)) 15) (.aa [(bE 1 (bG 0 19)),(.b true)]) (.next 1 [(eu 19)])))) (.aa [(.i 0),(.b false)]))))))
def P4:KL:=[fR]
def vk:KP:=kn P4 [hq 14001034300011 [(39,0)] [40,41,42,11,43,44,45,46,47,48,4,5,49] [],hq 14001034300005 [(25,0)] [26,27,28,9,29,30,31,32,33,34,4,5,35] []] ⟨343,343,[avE,AB],(.t [eA,vD])⟩ Tryz.call343 Oo
def JE:TL:=
 .ite (bm 0 (.i 22)) (.aa [(.o .seq 1 aeW)]) (.ite (bm 0 (.i 23)) (.aa [(.o .seq 1 ag2)]) (.ite (.o .seq 1 aeW) (.aa [(.b true)]) (.aa [(.o .seq 1 aeV)])))
def Ly:KL:=[]
def qd:KP:=kn Ly [] ⟨344,344,[eA,AB],(.c vD)⟩ Tryz.call344 JE
def K1:TL:=
 let a:TL:= .aa [(.i 0)]
 let b:TL:= .aa [(.i (-1))]
 let c:TL:= .ite (aU (.i 22) 0) (.ite (aU 0 (.i 26)) a b) b
 let d:TL:= .ite (aU (.i 9) 0) (.ite (aU 0 (.i 21)) (.aa [(.i 2)]) c) c
 .ite (bm 0 (.i 1)) a (.ite (bm 0 (.i 2)) a (.ite (bm 0 (.i 3)) a (.ite (bm 0 (.i 4)) a (.ite (aU (.i 5) 0) (.ite (aU 0 (.i 8)) (.aa [(.i 1)]) d) d))))
def WD:KL:=[]
def wP:KP:=kn WD [] ⟨348,348,[eA],(.c eA)⟩ Tryz.call348 K1
def Xn:TL:=
 .aa [(.o .max (.i (-1000000000000)) (.o .min 0 (.i 1000000000000)))]
def YT:KL:=[]
def kP:KP:=kn YT [] ⟨351,351,[eA],(.c eA)⟩ Tryz.call351 Xn
def Xo:TL:=
 .aa [(.o .max 0 (.o (.sub .i64) (.i 0) 0))]
def YV:KL:=[]
def KB:KP:=kn YV [] ⟨352,352,[eA],(.c eA)⟩ Tryz.call352 Xo
def Fb:TL:=
 .ite (bm 0 (.i 1)) (.aa [(.b true)]) (.aa [(bm 0 (.i 3))])
def F0:KL:=[]
def kB:KP:=kn F0 [] ⟨356,356,[eA],(.c vD)⟩ Tryz.call356 Fb
def E4:TL:=
 .ite (aU (.i 22) 0) (.aa [(aU 0 (.i 24))]) (.aa [(.b false)])
def PO:KL:=[]
def qr:KP:=kn PO [] ⟨357,357,[eA],(.c vD)⟩ Tryz.call357 E4
def tv:TL:=
 let a:Ex:= .i 0
 let b:Ex:=aS 3 (aG 0)
 let c:Ex:=aU a 3
 let d:Ex:=bG 0 3
 let e:Ex:= .o .app (cq [(cq (nI d [3,4,5,6]) .nil),(cq (nI d [7,8,9,10]) .nil)] .nil) (bE 11 d)
 let f:Ex:= .o (.sub .i64) 2 (.i 1)
 let g:TL:= .aa [(.i (-1))]
 let h:Ex:=bG e 4
 let j:TL:= .next 0 [5,(eu 3)]
 let k:TL:= .ite (aU a f) (.ag c (.ag b (.call 11 [(bE 19 d),f] 1 (.ite (aU a 5) (.ag c (.ag b (.call 11 [(bE 20 d),5] 1 (.next 0 [6,(eu 3)])))) j)))) (.ite (aU a f) (.ag c (.ag b (.call 11 [(bE 20 d),f] 1 j))) (.next 0 [f,(eu 3)]))
 .loop [1,a] (.ite b (.ite (aU a 2) (.ag c (.ag b (.ag c (.ag b (.ag c (.ag b (.ag (aU (aG e) (.i 2513169434916)) (.loop [a] (.ite (aS 4 (aG e)) (.ite (aU a f) (.ite (aS (.i 10) 4) g (.ag (aU a 4) (.ag (aS 4 (aG e)) (.call 36 (nI h [0,1,2,3]++[(.i 60)]) 1 (.ite (aS 5 a) g (.next 1 [(eu 4)])))))) k) k))))))))) (.aa [2])) (.aa [2]))
def BM:nK:=⟨11,11,[gq5,eA],(.c eA)⟩
def Bm:KL:=[j7]
def zY:nw:=[BM]
def Ca:Mm zY Bm:=mq BM [hq 6000001100007 [(7,0)] [37,38,39,40,41,42,43,44,47,48,49,50,51,52,53,54,55,56,4,45,46] [],hq 1000001100002 [(1,0),(5,0)] [8,9,10,11,12,13,14,15,18,19,20,21,22,23,24,25,26,27,28,29,30,31,32,33,34,35,36,6,7,37,38,39,40,41,42,43,44,47,48,49,50,51,52,53,54,55,56,4,45,46,57,58,59,60,61,62,63,64,65,66,67,68,69,70,71,72,73,74,16,17] []] Tryz.call11 tv
def iA:Fm:={L:=Bm,cs:=zY,ms:=[Ca]}
def gv:=iA.g
theorem Ju (k:Nat):gv k 36=j7.F:=iA.out k (j:=0) (x:=j7) rfl
theorem Nz (k:Nat) (l:aP):gv (k+1) 11 l=if l.length=2 then tv.bR (gv k) l []else none:=iA.step k (i:=0) (m:=Ca) rfl l
def nR:KP:=iA.at 0
theorem Mp:nR.F=gv (aF+1) 11:=iA.top _ _ _ rfl
def ma:TL:=
 let a:TL:= .aa [(.i 3)]
 let b:Ex:= .u .fD 0
 let c:Ex:= .o .Mt 0 3
 let d:TL:= .next 0 [(eu 3)]
 let e:TL:= .ite (gq c (.i 95)) a d
 .ite (.o .seq 0 jf) a (.ite (aS (.i 24) b) a (.ag (aS (.i 0) b) (.call 91 [(.o .Mt 0 (.i 0))] 1 (.ite (jK 1) a (.call 92 [0] 1 (.ite 2 a (.loop [(.i 0)] (.ite (aS 3 b) (.ag (aU (.i 0) 3) (.ag (aS 3 b) (.call 91 [c] 1 (.ite (jK 4) (.ite (aS c (.i 48)) e (.ite (aS (.i 57) c) e d)) d)))) (.aa [(.i 0)])))))))))
def PX:KL:=[ye,iU]
def dB:KP:=kn PX [hq 3700004 [(24,0)] [25,26,3,27,28,29,4,30,31,32,33,34,35,36,37,38,39,40,41,42,43,44,2,45] []] ⟨37,37,[AB],(.c eA)⟩ Tryz.call37 ma
def E6:TL:=
 let a:Ex:=bE 0 (bG 3 4)
 let b:Ex:=bE 1 (bG 3 4)
 .ite (aS (.i 32) (aG 3)) (.aa [(.i 6)]) (.loop [(.i 0),.nil] (.ite (aS 4 (aG 3)) (.ag (aU (.i 0) 4) (.ag (aS 4 (aG 3)) (.call 32 [0,1,2,3,a] 1 (.ite (aS 6 (.i 0)) (.aa [(.i 5)]) (.call 32 [0,1,2,3,b] 1 (.ite (aS 7 (.i 0)) (.aa [(.i 5)]) (.ite (.o .seq a b) (.aa [(.i 1)]) (.call 102 [(bE 2 (bG 3 4)),(.i 1),(.i 1000000000)] 1 (.ite (jK 8) (.aa [(.i 2)]) (.ite (.o (.mem 2) 5 (cq [a,b] .nil)) (.aa [(.i 4)]) (.next 0 [(eu 4),(.o (.Fh 2) 5 (cq [a,b] .nil))]))))))))))) (.aa [(.i 0)])))
def PU:KL:=[fV,du]
def Bc:KP:=kn PU [hq 3003012600004 [(16,0)] Cy [(1,(0,0))]] ⟨43,43,[Im],(.c eA)⟩ Tryz.call43 E6
def zh:TL:=
 .ite (bm 0 (.i 2)) (.call 132 [1] 1 (.aa [2])) (.call 18 [1] 1 (.aa [2]))
def P2:KL:=[nA,eh]
def qv:KP:=kn P2 [] ⟨48,48,[eA,eA],(.c AB)⟩ Tryz.call48 zh
def pD:TL:=
 let a:Ex:=aS 22 (aG 16)
 let b:Ex:=aU (.i 0) 22
 let c:Ex:=bE 1 (bG 12 20)
 let d:TL:= .ag (aU (aG (.o .bC 21 23)) (.i 8796093022208)) (.next 0 [(.o .bC 21 23),(eu 22)])
 let e:TL:= .call 48 [(.i 1),(bG 16 22)] 1 d
 let f:Ex:= .i 9223372036854775807
 let g:Ex:= .o .cat (.o .cat Mw 23) Og
 let h:Ex:=cq [atk,15,g,ap2,24] .nil
 let j:Ex:= .o .bC (.o .bC (.o .bC (.o .bC h ap3) 25) ap9) 26
 let k:TL:= .call 46 [21,atr] 1 (.ag (aU (.u .fD (.o .cat Mw 23)) f) (.ag (aU (.u .fD g) f) (.call 18 [17] 1 (.ite (gq 18 (.i 0)) (.call 18 [18] 1 (.call 18 [19] 1 (.ag (aU (aG j) (.i 8796093022208)) (.call 14 [0,1,j] 2 (.aa [27,28]))))) (.call 14 [0,1,h] 2 (.aa [25,26]))))))
 let l:TL:= .loop [.nil,(.i 0)] (.ite a (.ag b (.ag a (.ite (aS 22 (.i 0)) (.ag (.b false) (.fail "")) e))) k)
 .call 139 [2,3,4,5,6,7,8,9,10,11,12,13,14,15] 1 (.ite (aU (.i 0) 20) (.ite (aS 20 (aG 12)) (.ag (aU (.i 0) 20) (.ag (aS 20 (aG 12)) (.loop [.nil,(.i 0)] (.ite a (.ag b (.ag a (.ite (aS 22 (aG c)) (.ag b (.ag (aS 22 (aG c)) (.call 48 [(bE 1 (bG c 22)),(bG 16 22)] 1 d))) e))) k)))) l) l)
def zK:KL:=[bx,qv,dv,eh,aT]
def jb:KP:=kn zK [hq 14003005500007 [(8,9),(35,0)] hl5 [],hq 15003005500007 [(8,9),(35,0)] hl5 []] ⟨55,55,[ZO,Vc,anw],(.t [])⟩ Tryz.call55 pD
def wh:TL:=
 let a:TL:= .aa [(.b false)]
 .ite (.o .seq 0 5) (.call 158 [1,6] 1 (.ite 10 (.ite (bm 2 7) (.ite (bm 3 8) (.aa [(bm 4 9)]) a) a) a)) a
def FY:KL:=[eS]
def rG:KP:=kn FY [] ⟨78,78,[anw,anw],(.c vD)⟩ Tryz.call78 wh
def AV:TL:=
 let a:TL:= .aa [(.b false)]
 .ite (.o .seq 0 3) (.ite (bm 2 5) (.call 159 [1,4] 1 (.aa [6])) a) a
def Lt:KL:=[kv]
def vI:KP:=kn Lt [] ⟨80,80,[aru,aru],(.c vD)⟩ Tryz.call80 AV
def tw:TL:=
 .call 186 [0,1] 1 (.aa [2])
def C8:KL:=[kA]
def nS:KP:=kn C8 [] ⟨130,130,[AB,AB],(.c vD)⟩ Tryz.call130 tw
def On:TL:=
 .call 153 [0,1] 5 (.fail "op")
def O0:KL:=[aW]
def iO:KP:=kn O0 [] ⟨142,142,[lP],(.t [])⟩ Tryz.call142 On
def lH:TL:=
 .call 153 [0,1] 5 (.ite (bm 2 (.i 1)) (.call 92 [3] 1 (.aa [(jK 7),6])) (.aa [(.b false),6]))
def zF:KL:=[aW,iU]
def dJ:KP:=kn zF [] ⟨143,143,[lP],(.c vD)⟩ Tryz.call143 lH
def sZ:TL:=
 .call 153 [0,1] 5 (.ite (gq 3 2) (.call 142 [0,7] 1 (.call 146 [0,8] 1 (.aa [3,4,5,6,9]))) (.call 146 [0,7] 1 (.aa [3,4,5,6,8])))
def CZ:KL:=[aW,iO,iP]
def eP:KP:=kn CZ [] ⟨144,144,[lP,eA],(.c gq9)⟩ Tryz.call144 sZ
def mb:TL:=
 let a:TL:= .aa [(.o .seq 4 2),7]
 .call 153 [0,1] 5 (.ite (bm 3 (.i 1)) a (.ite (bm 3 (.i 3)) a (.aa [(.b false),7])))
def FZ:KL:=[aW]
def fI:KP:=kn FZ [] ⟨145,145,[lP,AB],(.c vD)⟩ Tryz.call145 mb
def lF:TL:=
 let a:TL:= .aa [(.b false)]
 .ite (bm 0 6) (.ite (bm 1 7) (.ite (bm 2 8) (.ite (bm 3 9) (.call 158 [4,10] 1 (.ite 12 (.call 158 [5,11] 1 (.aa [13])) a)) a) a) a) a
def WB:KL:=[eS]
def fH:KP:=kn WB [] ⟨155,155,[ak9,ak9],(.c vD)⟩ Tryz.call155 lF
def K4:TL:=
 let a:TL:= .aa [(.b false)]
 let b:Ex:=bG 0 2
 let c:Ex:=bG 1 2
 let d:Ex:=aS 6 (aG (bE 11 b))
 let e:Ex:=bG (bE 11 b) 6
 let f:Ex:=bG (bE 11 c) 6
 .ite (gq (aG 0) (aG 1)) a (.loop [(.i 0)] (.ite (aS 2 (aG 0)) (.ag (aU (.i 0) 2) (.ag (aS 2 (aG 0)) (.ag (aU (.i 0) 2) (.ag (aS 2 (aG 1)) (.ite (bm (bE 0 b) (bE 0 c)) (.ite (.o .seq (bE 1 b) (bE 1 c)) (.ite (.o .seq (bE 2 b) (bE 2 c)) (.ite (.o .beq (bE 18 b) (bE 18 c)) (.call 213 (nI b [3,4,5,6]++nI c [3,4,5,6]) 1 (.ite 3 (.call 213 (nI b [7,8,9,10]++nI c [7,8,9,10]) 1 (.ite 4 (.call 155 (nI b [12,13,14,15,16,17]++nI c [12,13,14,15,16,17]) 1 (.ite 5 (.ite (gq (aG (bE 11 b)) (aG (bE 11 c))) a (.loop [(.i 0)] (.ite d (.ag (aU (.i 0) 6) (.ag d (.ag (aU (.i 0) 6) (.ag (aS 6 (aG (bE 11 c))) (.call 213 (nI e [0,1,2,3]++nI f [0,1,2,3]) 1 (.ite (jK 7) a (.next 1 [(eu 6)]))))))) (.call 157 [(bE 19 b),(bE 19 c)] 1 (.ite 7 (.call 157 [(bE 20 b),(bE 20 c)] 1 (.ite (jK 8) a (.next 0 [(eu 2)]))) a))))) a)) a)) a)) a) a) a) a))))) (.aa [(.b true)])))
def SW:nK:=⟨157,157,[gq5,gq5],(.c vD)⟩
def R8:KL:=[lK,fH]
def Qj:nw:=[SW]
def TY:Mm Qj R8:=mq SW [hq 16004021400004 [(17,0)] hl6 [],hq 2000020400004 [(17,0)] hl6 []] Tryz.call157 K4
def om:Fm:={L:=R8,cs:=Qj,ms:=[TY]}
def tC:=om.g
theorem V5 (k:Nat):tC k 213=lK.F:=om.out k (j:=0) (x:=lK) rfl
theorem V4 (k:Nat):tC k 155=fH.F:=om.out k (j:=1) (x:=fH) rfl
theorem aec (k:Nat) (l:aP):tC (k+1) 157 l=if l.length=2 then K4.bR (tC k) l []else none:=om.step k (i:=0) (m:=TY) rfl l
def Gf:KP:=om.at 0
theorem ab6:Gf.F=tC (aF+1) 157:=om.top _ _ _ rfl
end
end
end Go.Proofs.YtlklkgdaegncaaaGreatDoor
