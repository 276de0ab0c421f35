/-
  A part of the proof of TopText: Kl4, Kl5, LB, LC, Kt6, Kl6, LD, LE, LF, LG, LS, OpM, LP1, LP2.
-/
import Derived.Test.YtlklkgdaegncaaaGreatDoorZ11
import Derived.Test.YtlklkgdaegncaaaGreatDoorZ10
import Derived.Test.YtlklkgdaegncaaaGreatDoorZ12
import Derived.KernelRfl
import Derived.Test.YtlklkgdaegncaaaGreatDoorZ07
import Derived.Test.YtlklkgdaegncaaaGreatDoorRows
import Derived.Lib.ItoaLen
namespace Go.Proofs.YtlklkgdaegncaaaGreatDoor
set_option linter.unusedVariables false
set_option linter.unusedSimpArgs false
set_option maxRecDepth 20000
set_option maxHeartbeats 8000000
open List
open Nat
open Int
section
noncomputable section
variable (l:aP)
def wj:=dl WG
theorem afO:Ge.F l=if l.length=1 then tX.bR wj l []else none:=rfl
theorem vE:wj 193=tM.F:=by kernel_rfl
theorem LH:wj 195=Gd.F:=by kernel_rfl
theorem Cw:wj 196=wQ.F:=by kernel_rfl
theorem LI:wj 197=DP.F:=by kernel_rfl
theorem LJ:wj 198=EM.F:=by kernel_rfl
def Ea:=dl Eh
theorem Q3:gp.F l=if l.length=3 then uO.bR Ea l []else none:=rfl
theorem qJ:Ea 64=aw.F:=by kernel_rfl
def oZ:=dl xp
theorem J3:cG.F l=if l.length=2 then kJ.bR oZ l []else none:=rfl
theorem ug:oZ 64=aw.F:=by kernel_rfl
theorem uh:oZ 67=aD.F:=by kernel_rfl
def JP:=dl Sm
theorem adP:ef.F l=if l.length=14 then QM.bR JP l []else none:=rfl
theorem Vo:JP 209=qt.F:=by kernel_rfl
def qx:=dl zE
theorem L0:dc.F l=if l.length=21 then yY.bR qx l []else none:=rfl
theorem Fp:qx 294=Bb.F:=by kernel_rfl
def uC:=dl C9
theorem Pg:iR.F l=if l.length=22 then Ch.bR uC l []else none:=rfl
theorem Jc:uC 166=ef.F:=by kernel_rfl
def xk:=dl Se
theorem adH:xZ.F l=if l.length=2 then QJ.bR xk l []else none:=rfl
theorem Vi:xk 330=oz.F:=by kernel_rfl
theorem Vj:xk 331=tK.F:=by kernel_rfl
def dA:=dl PN
theorem abw:vh.F l=if l.length=3 then Oj.bR dA l []else none:=rfl
theorem Tm:dA 332=OI.F:=by kernel_rfl
theorem Tj:dA 330=oz.F:=by kernel_rfl
theorem Tn:dA 333=OK.F:=by kernel_rfl
theorem To:dA 334=D5.F:=by kernel_rfl
theorem Tp:dA 335=OJ.F:=by kernel_rfl
theorem Tq:dA 336=DN.F:=by kernel_rfl
theorem Tl:dA 331=tK.F:=by kernel_rfl
def ji:=dl H2
theorem U5:oA.F l=if l.length=5 then y7.bR ji l []else none:=rfl
theorem NF:ji 347=rE.F:=by kernel_rfl
theorem NG:ji 348=wP.F:=by kernel_rfl
theorem NH:ji 349=rF.F:=by kernel_rfl
theorem NE:ji 182=B4.F:=by kernel_rfl
theorem NI:ji 350=nN.F:=by kernel_rfl
theorem Pp:ji 37=dB.F:=by kernel_rfl
def js:=dl So
theorem adR:pe.F l=if l.length=8 then HE.bR js l []else none:=rfl
theorem XP:js 25=jG.F:=by kernel_rfl
theorem XR:js 71=mY.F:=by kernel_rfl
theorem XT:js 72=fW.F:=by kernel_rfl
theorem XU:js 73=ig.F:=by kernel_rfl
theorem XV:js 74=ii.F:=by kernel_rfl
theorem XW:js 76=nO.F:=by kernel_rfl
theorem XX:js 78=rG.F:=by kernel_rfl
theorem XY:js 80=vI.F:=by kernel_rfl
theorem XQ:js 28=ku.F:=by kernel_rfl
def Cj:=dl Ll
theorem Xz:vG.F l=if l.length=28 then AP.bR Cj l []else none:=rfl
theorem Ti:Cj 8=pe.F:=by kernel_rfl
theorem Rc:Cj 90=vF.F:=by kernel_rfl
def ju:=dl uW
theorem GK:jB.F l=if l.length=19 then fv.bR ju l []else none:=rfl
theorem lu:ju 18=eh.F:=by kernel_rfl
theorem pU:ju 134=iT.F:=by kernel_rfl
theorem gX:ju 14=aT.F:=by kernel_rfl
def gD:=dl wu
theorem Ie:kt.F l=if l.length=6 then nF.bR gD l []else none:=rfl
theorem sB:gD 47=tQ.F:=by kernel_rfl
theorem EB:gD 46=dv.F:=by kernel_rfl
theorem EA:gD 14=aT.F:=by kernel_rfl
theorem DK:gD 138=mr.F:=by kernel_rfl
def R4:=dl Sk
theorem adN:tL.F l=if l.length=1 then HC.bR R4 l []else none:=rfl
theorem Vm:R4 141=Ge.F:=by kernel_rfl
def CR:=dl C2
theorem O7:ao.F l=if l.length=3 then tf.bR CR l []else none:=rfl
theorem Km:CR 64=aw.F:=by kernel_rfl
def CT:=dl C6
theorem Pb:bL.F l=if l.length=3 then tj.bR CT l []else none:=rfl
theorem IZ:CT 147=gp.F:=by kernel_rfl
def Du:=dl R9
theorem adD:tH.F l=if l.length=21 then Hw.bR Du l []else none:=rfl
theorem XM:Du 85=cD.F:=by kernel_rfl
theorem Vh:Du 162=jD.F:=by kernel_rfl
theorem tF:Du 166=ef.F:=by kernel_rfl
def Bl:=dl BA
theorem Nm:gJ.F l=if l.length=2 then jh.bR Bl l []else none:=rfl
theorem ow:Bl 65=bL.F:=by kernel_rfl
def Bj:=dl Bz
theorem Nl:gI.F l=if l.length=2 then mv.bR Bj l []else none:=rfl
theorem wL:Bj 65=bL.F:=by kernel_rfl
def zw:=dl zI
theorem L4:mj.F l=if l.length=2 then iM.bR zw l []else none:=rfl
theorem nz:zw 65=bL.F:=by kernel_rfl
def rV:=dl Bu
theorem Nh:jY.F l=if l.length=2 then qU.bR rV l []else none:=rfl
theorem Iz:rV 62=aB.F:=by kernel_rfl
theorem GX:rV 148=gJ.F:=by kernel_rfl
def kc:=dl wm
theorem Ic:ko.F l=if l.length=2 then fT.bR kc l []else none:=rfl
theorem lk:kc 145=fI.F:=by kernel_rfl
theorem rB:kc 149=gI.F:=by kernel_rfl
theorem DJ:kc 150=cG.F:=by kernel_rfl
def kW:=dl C5
theorem Pa:iQ.F l=if l.length=3 then np.bR kW l []else none:=rfl
theorem wK:kW 153=aW.F:=by kernel_rfl
theorem Kr:kW 67=aD.F:=by kernel_rfl
theorem Kq:kW 61=ao.F:=by kernel_rfl
theorem xW:kW 62=aB.F:=by kernel_rfl
def gx:=dl Bp
theorem Nc:gH.F l=if l.length=41 then qR.bR gx l []else none:=rfl
theorem Ip:gx 32=fV.F:=by kernel_rfl
theorem GT:gx 296=tN.F:=by kernel_rfl
theorem GQ:gx 139=bx.F:=by kernel_rfl
theorem GR:gx 261=dt.F:=by kernel_rfl
theorem GS:gx 262=cZ.F:=by kernel_rfl
def qC:=dl zH
theorem L3:ja.F l=if l.length=3 then pB.bR qC l []else none:=rfl
theorem G0:qC 61=ao.F:=by kernel_rfl
theorem G1:qC 62=aB.F:=by kernel_rfl
def MH:=dl WA
theorem afJ:Gc.F l=if l.length=6 then K0.bR MH l []else none:=rfl
theorem ZR:MH 34=vG.F:=by kernel_rfl
theorem ZS:MH 35=lB.F:=by kernel_rfl
def cK:=dl BD
theorem Nr:j0.F l=if l.length=15 then qZ.bR cK l []else none:=rfl
theorem I3:cK 14=aT.F:=by kernel_rfl
theorem I4:cK 17=fm.F:=by kernel_rfl
theorem I5:cK 51=jB.F:=by kernel_rfl
theorem wO:cK 18=eh.F:=by kernel_rfl
theorem I6:cK 52=yh.F:=by kernel_rfl
theorem I7:cK 53=mo.F:=by kernel_rfl
theorem I8:cK 54=kt.F:=by kernel_rfl
theorem I9:cK 55=jb.F:=by kernel_rfl
theorem Ja:cK 56=nQ.F:=by kernel_rfl
def gz:=dl BB
theorem Np:gN.F l=if l.length=2 then mw.bR gz l []else none:=rfl
theorem wN:gz 62=aB.F:=by kernel_rfl
theorem u5:gz 148=gJ.F:=by kernel_rfl
theorem wM:gz 61=ao.F:=by kernel_rfl
theorem G3:gz 149=gI.F:=by kernel_rfl
theorem G4:gz 150=cG.F:=by kernel_rfl
end
end
section
noncomputable section
variable (l:aP)
def gy:=dl Bx
theorem Nk:m6.F l=if l.length=2 then jg.bR gy l []else none:=rfl
theorem ou:gy 62=aB.F:=by kernel_rfl
theorem oq:gy 61=ao.F:=by kernel_rfl
theorem ov:gy 64=aw.F:=by kernel_rfl
theorem kl:gy 67=aD.F:=by kernel_rfl
theorem G2:gy 241=ko.F:=by kernel_rfl
def jj:=dl Ek
theorem Q5:ph.F l=if l.length=2 then nX.bR jj l []else none:=rfl
theorem Ac:jj 62=aB.F:=by kernel_rfl
theorem Ab:jj 61=ao.F:=by kernel_rfl
theorem Ad:jj 64=aw.F:=by kernel_rfl
theorem fj:jj 242=iQ.F:=by kernel_rfl
theorem xU:jj 150=cG.F:=by kernel_rfl
def nM:=dl CX
theorem O3:eO.F l=if l.length=2 then fe.bR nM l []else none:=rfl
theorem iB:nM 65=bL.F:=by kernel_rfl
theorem lm:nM 67=aD.F:=by kernel_rfl
theorem BX:nM 282000233=mG.F:=by kernel_rfl
def rh:=dl FV
theorem S8:rD.F l=if l.length=5 then l9.bR rh l []else none:=rfl
theorem qI:rh 312=KA.F:=by kernel_rfl
theorem Aa:rh 313=Kz.F:=by kernel_rfl
theorem Mh:rh 314=yc.F:=by kernel_rfl
def rW:=dl Bw
theorem Nj:m5.F l=if l.length=3 then qW.bR rW l []else none:=rfl
theorem IR:rW 62=aB.F:=by kernel_rfl
theorem GZ:rW 306=bK.F:=by kernel_rfl
def mQ:=dl Bt
theorem Ng:mZ.F l=if l.length=2 then mu.bR mQ l []else none:=rfl
theorem wH:mQ 61=ao.F:=by kernel_rfl
theorem wI:mQ 64=aw.F:=by kernel_rfl
theorem GW:mQ 306=bK.F:=by kernel_rfl
def dM:=dl wq
theorem Id:kp.F l=if l.length=2 then eN.bR dM l []else none:=rfl
theorem iC:dM 62=aB.F:=by kernel_rfl
theorem iE:dM 67=aD.F:=by kernel_rfl
theorem iD:dM 64=aw.F:=by kernel_rfl
theorem mB:dM 235000233=mF.F:=by kernel_rfl
theorem lX:dM 61=ao.F:=by kernel_rfl
theorem rC:dM 235=eO.F:=by kernel_rfl
def R2:=dl Sh
theorem adK:jA.F l=if l.length=4 then Hy.bR R2 l []else none:=rfl
theorem Vk:R2 292=rD.F:=by kernel_rfl
def DB:=dl SA
theorem ad3:yi.F l=if l.length=30 then HO.bR DB l []else none:=rfl
theorem LL:DB 37=dB.F:=by kernel_rfl
theorem AE:DB 253=jA.F:=by kernel_rfl
theorem VN:DB 175=jz.F:=by kernel_rfl
def fx:=dl CY
theorem fB:fC.F l=if l.length=2 then dy.bR fx l []else none:=rfl
theorem d9:fx 64=aw.F:=by kernel_rfl
theorem lr:fx 62=aB.F:=by kernel_rfl
theorem lp:fx 61=ao.F:=by kernel_rfl
theorem ki:fx 306=bK.F:=by kernel_rfl
theorem IA:fx 235=eO.F:=by kernel_rfl
theorem wJ:fx 327=mZ.F:=by kernel_rfl
def jk:=dl Em
theorem cR:jn.F l=if l.length=2 then bX.bR jk l []else none:=rfl
theorem ci:jk 64=aw.F:=by kernel_rfl
theorem fl:jk 308=m5.F:=by kernel_rfl
theorem qL:jk 61=ao.F:=by kernel_rfl
theorem xX:jk 306=bK.F:=by kernel_rfl
theorem mh:jk 62=aB.F:=by kernel_rfl
def GA:=dl P3
theorem abJ:lM.F l=if l.length=19 then Fa.bR GA l []else none:=rfl
theorem TC:GA 253=jA.F:=by kernel_rfl
theorem TD:GA 328=Ho.F:=by kernel_rfl
def o0:=dl xx
theorem J9:cr.F l=if l.length=25 then xc.bR o0 l []else none:=rfl
theorem EF:o0 311=lM.F:=by kernel_rfl
def ir:=dl xw
theorem J8:lC.F l=if l.length=43 then xa.bR ir l []else none:=rfl
theorem ED:ir 287=iR.F:=by kernel_rfl
theorem EE:ir 288=cr.F:=by kernel_rfl
def qD:=dl zN
theorem L8:fM.F l=if l.length=45 then zj.bR qD l []else none:=rfl
theorem Fx:qD 288=cr.F:=by kernel_rfl
def DA:=dl Sz
theorem adZ:tR.F l=if l.length=1 then HK.bR DA l []else none:=rfl
theorem VK:DA 218=KE.F:=by kernel_rfl
theorem VL:DA 219=KF.F:=by kernel_rfl
theorem VM:DA 220=KG.F:=by kernel_rfl
def dZ:=dl xq
theorem J4:lx.F l=if l.length=2 then kK.bR dZ l []else none:=rfl
theorem ul:dZ 62=aB.F:=by kernel_rfl
theorem uk:dZ 61=ao.F:=by kernel_rfl
theorem uo:dZ 64=aw.F:=by kernel_rfl
theorem um:dZ 63=bW.F:=by kernel_rfl
theorem sy:dZ 238=jY.F:=by kernel_rfl
theorem sA:dZ 239=jZ.F:=by kernel_rfl
def MG:=dl Wz
theorem afI:B3.F l=if l.length=4 then KZ.bR MG l []else none:=rfl
theorem XK:MG 253=jA.F:=by kernel_rfl
theorem XL:MG 293=NP.F:=by kernel_rfl
def jL:=dl BG
theorem Ns:m9.F l=if l.length=41 then Ap.bR jL l []else none:=rfl
theorem Hm:jL 309=fR.F:=by kernel_rfl
theorem Hl:jL 288=cr.F:=by kernel_rfl
def cW:=dl zP
theorem z7:jd.F l=if l.length=41 then pH.bR cW l []else none:=rfl
theorem vd:cW 32=fV.F:=by kernel_rfl
theorem FB:cW 139=bx.F:=by kernel_rfl
theorem FD:cW 296=tN.F:=by kernel_rfl
theorem FC:cW 291=fM.F:=by kernel_rfl
def cn:=dl C3
theorem O8:nP.F l=if l.length=2 then tg.bR cn l []else none:=rfl
theorem Kn:cn 62=aB.F:=by kernel_rfl
theorem Ko:cn 63=bW.F:=by kernel_rfl
theorem bD:cn 64=aw.F:=by kernel_rfl
theorem ed:cn 65=bL.F:=by kernel_rfl
theorem Kp:cn 66=gN.F:=by kernel_rfl
theorem IU:cn 199=kp.F:=by kernel_rfl
theorem xV:cn 67=aD.F:=by kernel_rfl
theorem IV:cn 200=mj.F:=by kernel_rfl
theorem IW:cn 201=lx.F:=by kernel_rfl
theorem IX:cn 202=m6.F:=by kernel_rfl
theorem IY:cn 203=ph.F:=by kernel_rfl
def pN:=dl Ls
theorem XD:vH.F l=if l.length=4 then oK.bR pN l []else none:=rfl
theorem Rl:pN 85=cD.F:=by kernel_rfl
theorem Rk:pN 37=dB.F:=by kernel_rfl
theorem Pq:pN 172=lL.F:=by kernel_rfl
theorem Pr:pN 176=tR.F:=by kernel_rfl
def lT:=dl Eg
theorem Q2:gm.F l=if l.length=5 then nV.bR lT l []else none:=rfl
theorem Kh:lT 252=mW.F:=by kernel_rfl
theorem Kg:lT 251=ya.F:=by kernel_rfl
theorem Ki:lT 253=jA.F:=by kernel_rfl
theorem Kj:lT 254=B3.F:=by kernel_rfl
def bo:=dl BF
theorem BP:dW.F l=if l.length=41 then re.bR bo l []else none:=rfl
theorem Hf:bo 285=m9.F:=by kernel_rfl
theorem Hh:bo 287=iR.F:=by kernel_rfl
theorem Hg:bo 286=mt.F:=by kernel_rfl
theorem Hi:bo 288=cr.F:=by kernel_rfl
theorem Hj:bo 289=lC.F:=by kernel_rfl
theorem vc:bo 290=jd.F:=by kernel_rfl
theorem He:bo 139=bx.F:=by kernel_rfl
theorem Hk:bo 291=fM.F:=by kernel_rfl
def cJ:=dl Bv
theorem Ni:m0.F l=if l.length=2 then qV.bR cJ l []else none:=rfl
theorem IE:cJ 61=ao.F:=by kernel_rfl
theorem IG:cJ 62=aB.F:=by kernel_rfl
theorem IH:cJ 63=bW.F:=by kernel_rfl
theorem kj:cJ 64=aw.F:=by kernel_rfl
theorem oo:cJ 65=bL.F:=by kernel_rfl
theorem II:cJ 66=gN.F:=by kernel_rfl
theorem IJ:cJ 67=aD.F:=by kernel_rfl
theorem IK:cJ 68=nP.F:=by kernel_rfl
theorem IL:cJ 69=pg.F:=by kernel_rfl
def jt:=dl Su
theorem adU:yd.F l=if l.length=13 then HH.bR jt l []else none:=rfl
theorem cC:jt 37=dB.F:=by kernel_rfl
theorem Vx:jt 172=lL.F:=by kernel_rfl
theorem Vy:jt 173=mX.F:=by kernel_rfl
theorem AC:jt 102=du.F:=by kernel_rfl
theorem Vs:jt 103=tO.F:=by kernel_rfl
theorem Vt:jt 104=oB.F:=by kernel_rfl
theorem Vu:jt 119=vH.F:=by kernel_rfl
theorem Vv:jt 123=vi.F:=by kernel_rfl
theorem Vw:jt 125=DQ.F:=by kernel_rfl
end
end
def aj0 (op:Int):Int:=if 1<=op/\op<=4 then 0 else if 5<=op/\op<=8 then 1 else if 9<=op/\op<=21 then 2 else if 22<=op/\op<=26 then 0 else-1
theorem aoF (op:Int):wP.F [.i op]=some [.i (aj0 op)]:=by
 rw[afL]
 simp only[K1,av,Nat.reduceAdd]
 unfold aj0
 repeat' split
 all_goals first|rfl|omega
theorem ajB (op:Int):qr.F [.i op]=some [.b (decide (22<=op/\op<=24))]:=by
 rw[abx]
 simp only[E4,av,Nat.reduceAdd]
 split<;>simp[*]
theorem ayC (op:Int):rE.F [.b false,.i op]=some [.b (decide (1<=op/\op<=24))]:=by
 rw[S9]
 simp only[we,Mi,aoF,aj0,av,Nat.reduceAdd]
 repeat' split
 all_goals first|omega|(congr 2;simp;omega)|skip
theorem am8 (op:Int):rF.F [.b false,.i op]=some [.b (decide (op=3\/22<=op/\op<=24))]:=by
 rw[Ta]
 simp only[wg,Mj,ajB,av,Nat.reduceAdd]
 repeat' split
 all_goals first|omega|(congr 2;simp[*];done)|skip
theorem avn (op:Int):nN.F [.b false,.i op]=some [.i 0,.i (if op=2 then 1 else if op=25 then 15 else if op=26 then 31 else 0),.b (decide (op=2\/op=25\/op=26))]:=by
 rw[O1]
 simp only[sV,Iq,ajB,av,Nat.reduceAdd]
 repeat' split
 all_goals first|omega|simp[*]
theorem ark (op:Int) (nm:Bs) (n:Int) (ks:i7):bw (oA.F [.b false,.i op,.s (bs nm),.i n,ae aj.cs ks]) (uJ op nm n ks.length):=by
 rw[U5]
 obtain⟨z,hz,hz2⟩:=nf nm
 simp only[y7,NF,NG,NH,NI,NE,Pp,ayC,aoF,am8,avn,YA,hz,av,Nat.reduceAdd]
 have hw:wd []=([]:Bs):=rfl
 simp only[hw]
 repeat' (refine bw.ite (fun _=> ?_) (fun _=> ?_))
 all_goals first|exact bw.bad (by decide)|(refine bw.some fun h=> ?_;unfold uJ;grind [aj0])
theorem Jy (e:aj) (h:e.sz<1000000):lK.F (e.cs++e.cs)=some [.b true]:=by
 rw[Qr]
 exact akp e _ (by unfold aF;omega) h
theorem ar9:∀(e:aj) (k:Nat),e.sz<=k->e.sz<1000000->A0 k 312 e.cs=some [.i e.sz]:=by
 refine aj.ind fun op nm n ks ih k hk hb=> ?_
 obtain⟨k,rfl⟩:∃j,k=j+1:=⟨k-1,by have:=aj.dR (.mk op nm n ks);omega⟩
 have kZ:∀x∈ks,x.sz<(aj.mk op nm n ks).sz:=fun x hx=>aj.Wi (e:= .mk op nm n ks) hx
 have e0:(aj.mk op nm n ks).sz=1+(ks.map aj.sz).sum:=aj.dR _
 have hln:=aj.AG ks
 rw[aj.jN,abL]
 simp only[HA,av,Nat.reduceAdd]
 refine cu (fun i=>[.i ((1+((ks.take i).map aj.sz).sum:Nat):Int),.i (i:Int)]) ks.length rfl (by omega) (fun i hi rec=> ?_) (fun rec=> ?_)
 ·obtain⟨x,hx⟩:=aV hi
  have hm:=aM hx
  have hr:=ih x hm k (by have:=kZ x hm;omega) (by have:=kZ x hm;omega)
  simp only[aj.aA x]at hr
  have bN:(i:Int)<ks.length:=by omega
  have ht:((ks.take (i+1)).map aj.sz).sum=((ks.take i).map aj.sz).sum+x.sz:=by
   rw[<-fN hx];simp
  have hle:((ks.take (i+1)).map aj.sz).sum<=(ks.map aj.sz).sum:=by
   have:ks.map aj.sz=(ks.take (i+1)).map aj.sz++(ks.drop (i+1)).map aj.sz:=by rw[<-map_append,take_append_drop]
   rw[this,sum_append];omega
  have hw:IntKind.i64.wrap (((1+((ks.take i).map aj.sz).sum:Nat):Int)+(x.sz:Int))=((1+((ks.take (i+1)).map aj.sz).sum:Nat):Int):=by
   rw[cE (by omega) (by omega)];omega
  simp only[ay hx,aj.aA x,hr,bN,hw,aJ (k:=i) (by omega),av,Nat.reduceAdd]
 ·simp only[Int.lt_irrefl,take_length,e0,av]
theorem arj:∀(e:aj) (k:Nat),e.sz<=k->e.sz<1000000->∃d:Nat,d<=e.sz/\uT k 313 e.cs=some [.i d]:=by
 refine aj.ind fun op nm n ks ih k hk hb=> ?_
 obtain⟨k,rfl⟩:∃j,k=j+1:=⟨k-1,by have:=aj.dR (.mk op nm n ks);omega⟩
 have kZ:∀x∈ks,x.sz<(aj.mk op nm n ks).sz:=fun x hx=>aj.Wi (e:= .mk op nm n ks) hx
 have e0:(aj.mk op nm n ks).sz=1+(ks.map aj.sz).sum:=aj.dR _
 have hln:=aj.AG ks
 rw[aj.jN,GN]
 simp only[qw,av,Nat.reduceAdd]
 have key:fA (dz (fun rec v=>qw.bR (fun _ _=>none) [] []) 0 []) (fun _=>True)->True:=fun _=>trivial
 clear key
 suffices h:fA (uT (k+1) 313 (aj.mk op nm n ks).cs) (fun r=>∃d:Nat,d<=(aj.mk op nm n ks).sz/\r=[.i d])by
  obtain⟨_,h1,d,h2,rfl⟩:=h
  rw[aj.jN,GN]at h1
  simp only[qw,av,Nat.reduceAdd]at h1
  exact⟨d,h2,h1⟩
 rw[aj.jN,GN]
 simp only[qw,av,Nat.reduceAdd]
 refine eG (S:=Nat) (fun i m=>[.i (m:Int),.i (i:Int)]) (fun i m=>m<(aj.mk op nm n ks).sz) ks.length (s:=0) rfl (by omega) (by omega) (fun i m rec hi hI hr=> ?_) (fun m rec hI=> ?_)
 ·obtain⟨x,hx⟩:=aV hi
  have hm:=aM hx
  obtain⟨d,hd,Z4⟩:=ih x hm k (by have:=kZ x hm;omega) (by have:=kZ x hm;omega)
  simp only[aj.aA x]at Z4
  have bN:(i:Int)<ks.length:=by omega
  simp only[ay hx,aj.aA x,Z4,bN,aJ (k:=i) (by omega),aux,av,Nat.reduceAdd]
  have:=kZ x hm
  split
  ·exact hr d (by omega)
  ·exact hr m hI
 ·simp only[Int.lt_irrefl,av]
  rw[cE (by omega) (by omega)]
  exact fA.some ⟨m+1,by omega,by simp⟩
theorem am9:∀(e:aj) (k:Nat),e.sz<=k->e.sz<1000000->bw (lS k 314 (.b false::e.cs)) e.ok:=by
 refine aj.ind fun op nm n ks ih k hk hb=> ?_
 obtain⟨k,rfl⟩:∃j,k=j+1:=⟨k-1,by have:=aj.dR (.mk op nm n ks);omega⟩
 have kZ:∀x∈ks,x.sz<(aj.mk op nm n ks).sz:=fun x hx=>aj.Wi (e:= .mk op nm n ks) hx
 have e0:(aj.mk op nm n ks).sz=1+(ks.map aj.sz).sum:=aj.dR _
 have hln:=aj.AG ks
 obtain⟨z,hz,hz2⟩:=ark op nm n ks
 rw[aj.jN,Rb]
 by_cases h0:z=0
 rotate_left
 ·simp only[px,yx,hz,h0,av,Nat.reduceAdd]
  exact bw.bad h0
 subst h0
 simp only[px,yx,hz,av,Nat.reduceAdd]
 refine eX (S:=Unit) (fun i _=>[.i (i:Int),]) (fun i _=>kN aj.ok ks i) ks.length (s:=()) rfl (by omega) kN.zero (fun i _ rec hi hI hr=> ?_) (fun _ rec hI=> ?_)
 ·obtain⟨x,hx⟩:=aV hi
  have hm:=aM hx
  obtain⟨y,hy,hy2⟩:=ih x hm k (by have:=kZ x hm;omega) (by have:=kZ x hm;omega)
  simp only[aj.aA x]at hy
  have bN:(i:Int)<ks.length:=by omega
  by_cases h0:y=0
  ·subst h0
   simp only[ay hx,aj.aA x,hy,bN,aJ (k:=i) (by omega),av,Nat.reduceAdd]
   exact hr () (hI.succ hx (hy2 rfl))
  ·simp only[ay hx,aj.aA x,hy,bN,h0,av,Nat.reduceAdd]
   exact bw.bad h0
 ·simp only[Int.lt_irrefl,av]
  exact bw.some fun _=>(aj.vZ _).2 ⟨hz2 rfl,hI.all⟩
theorem Ew (e:aj) (hb:e.sz<1000000):bw (jA.F e.cs) (e.ok/\e.sz<=60):=by
 have h1:=ar9 e (aF+1) (by unfold aF;omega) hb
 obtain⟨d,hd,h2⟩:=arj e (aF+1) (by unfold aF;omega) hb
 obtain⟨z,h3,h4⟩:=am9 e (aF+1) (by unfold aF;omega) hb
 rw[<-aae]at h1
 rw[<-aad]at h2
 rw[<-Px]at h3
 simp only[aj.aA e]at h1 h2 h3
 have hc:bw (rD.F (.b false::e.cs)) (e.ok/\e.sz<=60):=by
  rw[S8]
  by_cases c1:(60:Int)<(e.sz:Int)
  ·simp only[aj.aA e,l9,qI,h1,c1,av,Nat.reduceAdd]
   exact bw.bad (by decide)
  by_cases c2:(12:Int)<(d:Int)
  ·simp only[aj.aA e,l9,qI,Aa,h1,h2,c1,c2,av,Nat.reduceAdd]
   exact bw.bad (by decide)
  ·simp only[aj.aA e,l9,qI,Aa,Mh,h1,h2,h3,c1,c2,av,Nat.reduceAdd]
   exact bw.some fun h=>⟨h4 h,by omega⟩
 obtain⟨y,hy,hy2⟩:=hc
 simp only[aj.aA e]at hy
 rw[adK]
 simp only[aj.aA e,Hy,Vk,hy,av,Nat.reduceAdd]
 exact bw.some hy2
theorem ajF (e:aj) (h:e.sz<1000000):zo (lK.F (e.cs++[.i 0,.s (bs []),.i 0,.l []])) (e=aj.zero):=by
 obtain⟨op,nm,n,ks⟩:=e
 rw[Qr,aj.jN,Kc]
 by_cases h1:op=0
 rotate_left
 ·simp only[pw,h1,av,Nat.reduceAdd]
  exact zo.no
 by_cases h2:nm=[]
 rotate_left
 ·simp only[pw,h1,h2,av,Nat.reduceAdd]
  exact zo.no
 by_cases h3:n=0
 rotate_left
 ·simp only[pw,h1,h2,h3,av,Nat.reduceAdd]
  exact zo.no
 by_cases h4:ks=[]
 rotate_left
 ·have:¬((ks.length:Int)=((0:Nat):Int)):=by
   intro h;apply h4;rw[<-length_eq_zero_iff];omega
  simp only[pw,h1,h2,h3,length_nil,this,av,Nat.reduceAdd]
  exact zo.no
 subst h1 h2 h3 h4
 have:=akp (.mk 0 [] 0 []) (aF+1) (by unfold aF;simp[aj.sz,aj.im]) (by simp[aj.sz,aj.im])
 rw[aj.jN,Kc]at this
 refine⟨true,this,fun _=>rfl⟩
structure Use where
 nm:Bool
 pm:Bool
 e:Bool
 f:Bool
 args:Bool
 d:Bool
 flag:Bool
 body:Bool
 fG:Bool
def Use.cs (u:Use):aP:=[.b u.nm,.b u.pm,.b u.e,.b u.f,.b u.args,.b u.d,.b u.flag,.b u.body,.b u.fG]
def Dr (op:Int):Option Use:=
 if op=1 then some ⟨true,false,true,false,false,false,false,false,false⟩
 else if op=2 then some ⟨true,true,false,false,false,true,false,false,false⟩
 else if op=3 then some ⟨false,false,true,false,false,false,false,true,true⟩
 else if op=4 then some ⟨false,false,true,false,false,false,false,true,false⟩
 else if op=5 then some ⟨false,false,true,false,false,false,false,false,false⟩
 else if op=6 then some ⟨true,false,true,true,false,false,true,false,false⟩
 else if op=7 then some ⟨true,false,true,false,false,false,false,false,false⟩
 else if op=8 then some ⟨true,false,true,false,false,false,false,false,false⟩
 else if op=9 then some ⟨true,true,false,false,false,false,false,false,false⟩
 else if op=10 then some ⟨true,false,false,false,false,false,false,false,false⟩
 else if op=11 then some ⟨true,false,false,false,false,false,false,false,false⟩
 else if op=12 then some ⟨true,false,true,false,false,false,false,false,false⟩
 else if op=13 then some ⟨true,true,true,false,true,false,false,false,false⟩
 else if op=14 then some ⟨true,false,true,false,true,false,false,false,false⟩
 else if op=15 then some ⟨true,false,true,false,false,false,false,false,false⟩
 else if op=16 then some ⟨true,false,true,false,false,false,false,false,false⟩
 else if op=17 then some ⟨true,false,true,false,false,false,false,false,false⟩
 else if op=18 then some ⟨false,false,false,false,false,false,false,false,false⟩
 else none
theorem axA (op:Int):B7.F [.i op]=match Dr op with|some u=>some (u.cs++[.b true])|none=>some [.b false,.b false,.b false,.b false,.b false,.b false,.b false,.b false,.b false,.b false]:=by
 by_cases h1:op=1
 ·subst h1;kernel_rfl
 by_cases h2:op=2
 ·subst h2;kernel_rfl
 by_cases h3:op=3
 ·subst h3;kernel_rfl
 by_cases h4:op=4
 ·subst h4;kernel_rfl
 by_cases h5:op=5
 ·subst h5;kernel_rfl
 by_cases h6:op=6
 ·subst h6;kernel_rfl
 by_cases h7:op=7
 ·subst h7;kernel_rfl
 by_cases h8:op=8
 ·subst h8;kernel_rfl
 by_cases h9:op=9
 ·subst h9;kernel_rfl
 by_cases h10:op=10
 ·subst h10;kernel_rfl
 by_cases h11:op=11
 ·subst h11;kernel_rfl
 by_cases h12:op=12
 ·subst h12;kernel_rfl
 by_cases h13:op=13
 ·subst h13;kernel_rfl
 by_cases h14:op=14
 ·subst h14;kernel_rfl
 by_cases h15:op=15
 ·subst h15;kernel_rfl
 by_cases h16:op=16
 ·subst h16;kernel_rfl
 by_cases h17:op=17
 ·subst h17;kernel_rfl
 by_cases h18:op=18
 ·subst h18;kernel_rfl
 have hn:Dr op=none:=by simp only[Dr,h1,h2,h3,h4,h5,h6,h7,h8,h9,h10,h11,h12,h13,h14,h15,h16,h17,h18,if_false]
 rw[hn,afQ]
 simp only[K6,h1,h2,h3,h4,h5,h6,h7,h8,h9,h10,h11,h12,h13,h14,h15,h16,h17,h18,av,Nat.reduceAdd]
def ax.smN (s:ax):Prop:=s.e.sz<1000000/\s.f.sz<1000000/\(∀x∈s.args,x.sz<1000000)/\s.args.length<1000000/\s.d.lb
def ax.form (s:ax) (u:Use):Prop:=
 (u.nm=true\/s.nm=[])/\(u.pm=true\/s.pm=[])/\(u.e=true\/s.e=aj.zero)/\(u.f=true\/s.f=aj.zero)/\(u.args=true\/s.args=[])/\(u.d=true\/s.d=oO.zero)/\(u.flag=true\/s.flag=false)/\(u.body=true\/s.body=[])/\(u.fG=true\/s.fG=[])
def ax.parts (s:ax) (u:Use):Prop:=
 (u.nm=true->Name s.nm)/\(u.pm=true->Name s.pm)/\(u.e=true->s.e.ok/\s.e.sz<=60)/\(u.f=true->s.f.ok/\s.f.sz<=60)/\s.args.length<=6/\(∀x∈s.args,x.ok/\x.sz<=60)/\(u.d=true->s.d.ok)
theorem alm {α:Type} (xs:List α):((xs.length:Int)=0)↔xs=[]:=by rw[<-length_eq_zero_iff];omega
theorem avx (s:ax) (u:Use) (h:s.smN):zo (B6.F (s.cs++u.cs)) (s.form u):=by
 obtain⟨he,hf,ha,hal,hd⟩:=h
 obtain⟨e1,e2,e3⟩:=ajF s.e he
 obtain⟨f1,f2,f3⟩:=ajF s.f hf
 obtain⟨d1,d2,d3⟩:=adA s.d
 simp only[aj.aA,oO.aA,cons_append,nil_append]at e2 f2 d2
 have hw:wd []=([]:Bs):=rfl
 rw[afP,ax.aA]
 unfold Use.cs ax.form
 simp only[K5,X0,X1,hw,e2,f2,d2,alm,apply_ite Sc.bool,av,Nat.reduceAdd]
 repeat' (refine zo.ite (fun _=> ?_) (fun _=> ?_))
 all_goals first|exact zo.no|(refine zo.yes fun _=> ?_;grind)
theorem asg (s:ax) (u:Use) (h:s.smN):bw (yi.F (s.cs++u.cs)) (s.parts u):=by
 obtain⟨he,hf,ha,hal,hd⟩:=h
 obtain⟨z1,n1,m1⟩:=nf s.nm
 obtain⟨z2,n2,m2⟩:=nf s.pm
 obtain⟨ze,e1,e2⟩:=Ew s.e he
 obtain⟨zf,f1,f2⟩:=Ew s.f hf
 obtain⟨zd,d1,d2⟩:=Zr s.d hd
 simp only[aj.aA,oO.aA]at e1 f1 d1
 have c2:((2:Nat):Int)=2:=rfl
 have w01:IntKind.i64.wrap (0+1)=1:=by decide
 have w12:IntKind.i64.wrap (1+1)=2:=by decide
 rw[ad3,ax.aA]
 unfold Use.cs ax.parts
 simp only[HO,av,Nat.reduceAdd]
 refine eX (S:=Unit) (fun i _=>[.i (i:Int)]) (fun i _=>(0<i->u.nm=true->Name s.nm)/\(1<i->u.pm=true->Name s.pm)) 2 (s:=()) rfl (by omega) ⟨by omega,by omega⟩ (fun i _ rec hi hI hr=> ?_) (fun _ rec hI=> ?_)
 ·have bN:i=0\/i=1:=by omega
  rcases bN with rfl|rfl
  ·simp only[c2,w01,Int.natCast_zero,length_cons,length_nil,LL,n1,av,Nat.reduceAdd,Int.reduceLT,reduceLE]
   refine bw.ite (fun hu=>bw.ite (fun hz=>bw.bad hz) fun hz=> ?_) (fun hu=> ?_)
   ·exact hr () ⟨fun _ _=>m1 (by omega),by omega⟩
   ·exact hr () ⟨fun _ h=>absurd h hu,by omega⟩
  ·simp only[c2,w12,Int.natCast_one,length_cons,length_nil,LL,n2,av,reduceToNat,Nat.reduceAdd,Int.reduceLT,reduceLE]
   refine bw.ite (fun hu=>bw.ite (fun hz=>bw.bad hz) fun hz=> ?_) (fun hu=> ?_)
   ·exact hr () ⟨fun _=>hI.1 (by omega),fun _ _=>m2 (by omega)⟩
   ·exact hr () ⟨fun _=>hI.1 (by omega),fun _ h=>absurd h hu⟩
 obtain⟨i1,i2⟩:=hI
 have i1:=i1 (by omega)
 have i2:=i2 (by omega)
 simp only[c2,av,reduceToNat,Int.reduceLT,reduceLE]
 refine eX (S:=Unit) (fun i _=>[.i (i:Int)]) (fun i _=>(0<i->u.e=true->s.e.ok/\s.e.sz<=60)/\(1<i->u.f=true->s.f.ok/\s.f.sz<=60)) 2 (s:=()) rfl (by omega) ⟨by omega,by omega⟩ (fun i _ rec hi hI hr=> ?_) (fun _ rec hI=> ?_)
 ·have bN:i=0\/i=1:=by omega
  rcases bN with rfl|rfl
  ·simp only[w01,Int.natCast_zero,length_cons,length_nil,AE,e1,av,Nat.reduceAdd,Int.reduceLT,reduceLE]
   refine bw.ite (fun hu=> ?_) (fun hu=>bw.ite (fun hz=>bw.bad hz) fun hz=> ?_)
   ·exact hr () ⟨fun _ h=>absurd h (by simpa using hu),by omega⟩
   ·exact hr () ⟨fun _ _=>e2 (by omega),by omega⟩
  ·simp only[w12,Int.natCast_one,length_cons,length_nil,AE,f1,av,reduceToNat,Nat.reduceAdd,Int.reduceLT,reduceLE]
   refine bw.ite (fun hu=> ?_) (fun hu=>bw.ite (fun hz=>bw.bad hz) fun hz=> ?_)
   ·exact hr () ⟨fun _=>hI.1 (by omega),fun _ h=>absurd h (by simpa using hu)⟩
   ·exact hr () ⟨fun _=>hI.1 (by omega),fun _ _=>f2 (by omega)⟩
 obtain⟨j1,j2⟩:=hI
 have j1:=j1 (by omega)
 have j2:=j2 (by omega)
 simp only[c2,av,reduceToNat,Int.reduceLT,reduceLE]
 refine bw.ite (fun _=>bw.bad (by decide)) (fun h6=> ?_)
 refine eX (S:=Unit) (fun i _=>[.i (i:Int)]) (fun i _=>kN (fun x=>x.ok/\x.sz<=60) s.args i) s.args.length (s:=()) rfl (by omega) kN.zero (fun i _ rec hi hI hr=> ?_) (fun _ rec hI=> ?_)
 ·obtain⟨x,hx⟩:=aV hi
  have bN:(i:Int)<s.args.length:=by omega
  obtain⟨zx,x1,x2⟩:=Ew x (ha x (aM hx))
  simp only[aj.aA]at x1
  simp only[ay hx,aj.aA x,bN,AE,x1,aJ (k:=i) (by omega),av,Nat.reduceAdd]
  refine bw.ite (fun hz=>bw.bad hz) fun hz=> ?_
  exact hr () (hI.succ hx (x2 (by omega)))
 ·simp only[Int.lt_irrefl,VN,d1,av,Nat.reduceAdd]
  refine bw.ite (fun hz=>bw.some fun h0=> ?_) (fun hz=>bw.some fun h0=> ?_)
  ·exact⟨i1,i2,j1,j2,by omega,hI.all,fun _=>d2 h0⟩
  ·exact⟨i1,i2,j1,j2,by omega,hI.all,fun h=>absurd h hz⟩
mutual
def ax.sz:ax->Nat
 | .mk _ _ _ _ _ _ _ _ b c=>1+(ax.im b+ax.im c)
def ax.im:kb->Nat
 |[]=>0
 |k::r=>k.sz+ax.im r
end
theorem ax.nD:∀ks:kb,ax.im ks=(ks.map ax.sz).sum
 |[]=>rfl
 |k::r=>by rw[ax.im,ax.nD r];simp
theorem ax.dR:∀s:ax,s.sz=1+(ax.im s.body+ax.im s.fG)
 | .mk _ _ _ _ _ _ _ _ _ _=>by rw[ax.sz];rfl
theorem ax.aaM (s:ax):1<=s.sz:=by rw[ax.dR];omega
theorem ax.OM {x:ax}{l:kb} (h:x∈l):x.sz<=ax.im l:=by
 rw[ax.nD];exact yk (f:=ax.sz) h
theorem ax.pk:∀l:kb,l.length<=ax.im l
 |[]=>Nat.le_refl _
 |k::r=>by
  have h1:=ax.pk r
  have h2:=ax.aaM k
  rw[ax.im,length_cons];omega
theorem ax.X8 {Q:kb->Prop} (h:∀l,(∀l':kb,ax.im l'<ax.im l->Q l')->Q l):∀l,Q l:=by
 have:∀n l,ax.im l=n->Q l:=by
  intro n
  induction n using Nat.strongRecOn with
  |_ n ih=>
   intro l hl
   exact h l fun l' hl'=>ih (ax.im l') (by omega) l' rfl
 exact fun l=>this _ l rfl
theorem ax.vw {x:ax}{l:kb} (h:x∈l):ax.im x.body<ax.im l/\ax.im x.fG<ax.im l:=by
 have h1:=ax.OM h
 have h2:=ax.dR x
 omega
mutual
def ax.sm:ax->Prop
 | .mk op nm pm e f args d flag b c=>ax.smN (.mk op nm pm e f args d flag b c)/\ax.smL b/\ax.smL c
def ax.smL:kb->Prop
 |[]=>True
 |k::r=>k.sm/\ax.smL r
end
theorem ax.Wc:∀s:ax,s.sm↔s.smN/\ax.smL s.body/\ax.smL s.fG
 | .mk _ _ _ _ _ _ _ _ _ _=>by rw[ax.sm];rfl
theorem ax.Gr:∀l:kb,ax.smL l↔∀k∈l,k.sm
 |[]=>by simp[ax.smL]
 |k::r=>by rw[ax.smL,ax.Gr r];simp
def ax.okN (s:ax):Prop:=∃u,Dr s.op=some u/\s.form u/\s.parts u
mutual
def ax.ok:ax->Prop
 | .mk op nm pm e f args d flag b c=>ax.okN (.mk op nm pm e f args d flag b c)/\ax.R1 b/\ax.R1 c
def ax.R1:kb->Prop
 |[]=>True
 |k::r=>k.ok/\ax.R1 r
end
theorem ax.vZ:∀s:ax,s.ok↔s.okN/\ax.R1 s.body/\ax.R1 s.fG
 | .mk _ _ _ _ _ _ _ _ _ _=>by rw[ax.ok];rfl
theorem ax.vJ:∀l:kb,ax.R1 l↔∀k∈l,k.ok
 |[]=>by simp[ax.R1]
 |k::r=>by rw[ax.R1,ax.vJ r];simp
theorem alS:∀(l:kb) (k:Nat),ax.im l<k->ax.im l<1000000->ax.smL l->bw (nu k 220 [ae ax.cs l]) (ax.R1 l):=by
 refine ax.X8 fun l ih k hk hb hsm=> ?_
 obtain⟨k,rfl⟩:∃j,k=j+1:=⟨k-1,by omega⟩
 have hln:=ax.pk l
 rw[abQ]
 simp only[HN,av,Nat.reduceAdd]
 refine eX (S:=Unit) (fun i _=>[.i (i:Int)]) (fun i _=>kN ax.ok l i) l.length (s:=()) rfl (by omega) kN.zero (fun i _ rec hi hI hr=> ?_) (fun _ rec hI=> ?_)
 ·obtain⟨x,hx⟩:=aV hi
  have hm:=aM hx
  have bN:(i:Int)<l.length:=by omega
  obtain⟨Rv,hx2,hx3⟩:=(ax.Wc x).1 ((ax.Gr l).1 hsm x hm)
  obtain⟨b1,b2⟩:=ax.vw hm
  have hu:=axA x.op
  cases hue:Dr x.op with
  |none=>
   rw[hue]at hu
   simp only[ay hx,ax.aA x,bN,Gj,hu,av,Nat.reduceAdd]
   exact bw.bad (by decide)
  |some u=>
   rw[hue]at hu
   simp only[Use.cs,cons_append,nil_append]at hu
   obtain⟨bf,g1,g2⟩:=avx x u Rv
   obtain⟨zp,p1,p2⟩:=asg x u Rv
   obtain⟨zb,q1,q2⟩:=ih x.body b1 k (by omega) (by omega) hx2
   obtain⟨ze,r1,r2⟩:=ih x.fG b2 k (by omega) (by omega) hx3
   simp only[ax.aA x,Use.cs,cons_append,nil_append]at g1 p1
   simp only[ay hx,ax.aA x,bN,Gj,T1,T2,hu,g1,p1,q1,r1,aJ (k:=i) (by omega),av,Nat.reduceAdd]
   refine bw.ite (fun _=>bw.bad (by decide)) fun c1=>bw.ite (fun c=>bw.bad c) fun c2=>bw.ite (fun c=>bw.bad c) fun c3=>bw.ite (fun c=>bw.bad c) fun c4=> ?_
   have c1:bf=true:=by simpa using c1
   exact hr () (hI.succ hx ((ax.vZ x).2 ⟨⟨u,hue,g2 c1,p2 (by omega)⟩,q2 (by omega),r2 (by omega)⟩))
 ·simp only[Int.lt_irrefl,av]
  exact bw.some fun _=>(ax.vJ l).2 hI.all
theorem apK:∀(l:kb) (k:Nat),ax.im l<k->ax.im l<1000000->A1 k 218 [ae ax.cs l]=some [.i (ax.im l)]:=by
 refine ax.X8 fun l ih k hk hb=> ?_
 obtain⟨k,rfl⟩:∃j,k=j+1:=⟨k-1,by omega⟩
 have hln:=ax.pk l
 have key:∀i,i<=l.length->(l.length:Nat)+(ax.im (l.take i)-i)<=ax.im l/\i<=ax.im (l.take i):=by
  intro i hi
  have h1:ax.im l=ax.im (l.take i)+ax.im (l.drop i):=by
   rw[ax.nD,ax.nD,ax.nD,<-sum_append,<-map_append,take_append_drop]
  have h2:=ax.pk (l.drop i)
  have h3:=ax.pk (l.take i)
  simp only[length_drop,length_take]at h2 h3
  omega
 rw[abO]
 simp only[HL,av,Nat.reduceAdd]
 refine cu (fun i=>[.i ((l.length+(ax.im (l.take i)-i):Nat):Int),.i (i:Int)]) l.length (by simp[ax.im]) (by omega) (fun i hi rec=> ?_) (fun rec=> ?_)
 ·obtain⟨x,hx⟩:=aV hi
  have hm:=aM hx
  have bN:(i:Int)<l.length:=by omega
  obtain⟨b1,b2⟩:=ax.vw hm
  have q1:=ih x.body b1 k (by omega) (by omega)
  have q2:=ih x.fG b2 k (by omega) (by omega)
  have e0:=ax.dR x
  have ht:ax.im (l.take (i+1))=ax.im (l.take i)+x.sz:=by
   rw[<-fN hx,ax.nD,ax.nD];simp
  have k1:=key i (by omega)
  have k2:=key (i+1) (by omega)
  have w1:IntKind.i64.wrap ((ax.im x.body:Int)+(ax.im x.fG:Int))=(ax.im x.body:Int)+(ax.im x.fG:Int):=cE (by omega) (by omega)
  have w2:IntKind.i64.wrap (((l.length+(ax.im (l.take i)-i):Nat):Int)+((ax.im x.body:Int)+(ax.im x.fG:Int)))=((l.length+(ax.im (l.take (i+1))-(i+1)):Nat):Int):=by
   rw[cE (by omega) (by omega)];omega
  simp only[ay hx,ax.aA x,bN,q1,q2,w1,w2,aJ (k:=i) (by omega),av,Nat.reduceAdd]
 ·simp only[Int.lt_irrefl,take_length,av]
  congr 3
  omega
theorem apL:∀(l:kb) (k:Nat),ax.im l<k->ax.im l<1000000->fA (A2 k 219 [ae ax.cs l]) (fun r=>∃d:Nat,d<=ax.im l/\r=[.i d]):=by
 refine ax.X8 fun l ih k hk hb=> ?_
 obtain⟨k,rfl⟩:∃j,k=j+1:=⟨k-1,by omega⟩
 have hln:=ax.pk l
 rw[abP]
 simp only[HM,av,Nat.reduceAdd]
 refine eG (S:=Nat) (fun i m=>[.i (m:Int),.i (i:Int)]) (fun i m=>m<=ax.im l) l.length (s:=0) rfl (by omega) (by omega) (fun i m rec hi hI hr=> ?_) (fun m rec hI=> ?_)
 ·obtain⟨x,hx⟩:=aV hi
  have hm:=aM hx
  have bN:(i:Int)<l.length:=by omega
  obtain⟨b1,b2⟩:=ax.vw hm
  have e0:=ax.dR x
  have e1:=ax.OM hm
  obtain⟨_,q1,d1,q2,rfl⟩:=ih x.body b1 k (by omega) (by omega)
  obtain⟨_,r1,d2,r2,rfl⟩:=ih x.fG b2 k (by omega) (by omega)
  have w1:IntKind.i64.wrap (1+(d1:Int))=((1+d1:Nat):Int):=by rw[cE (by omega) (by omega)];omega
  have w2:IntKind.i64.wrap (1+(d2:Int))=((1+d2:Nat):Int):=by rw[cE (by omega) (by omega)];omega
  have hmx:∀a b:Nat,(if(b:Int)>(a:Int)then(b:Int)else(a:Int))=((Max.max a b:Nat):Int):=by
   intro a b;split<;>omega
  simp only[ay hx,ax.aA x,bN,q1,r1,w1,w2,aux,hmx,aJ (k:=i) (by omega),av,Nat.reduceAdd]
  exact hr _ (by omega)
 ·simp only[Int.lt_irrefl,av]
  exact fA.some ⟨m,hI,rfl⟩
theorem agR (l:kb) (hb:ax.im l<1000000) (hs:ax.smL l):bw (tR.F [ae ax.cs l]) (ax.R1 l/\ax.im l<=200):=by
 have h1:=apK l (aF+1) (by unfold aF;omega) hb
 obtain⟨_,h2,d,hd,rfl⟩:=apL l (aF+1) (by unfold aF;omega) hb
 obtain⟨z,h3,h4⟩:=alS l (aF+1) (by unfold aF;omega) hb hs
 rw[<-aag]at h1
 rw[<-aah]at h2
 rw[<-aai]at h3
 rw[adZ]
 simp only[HK,VK,VL,VM,h1,h2,h3,av,Nat.reduceAdd]
 refine bw.ite (fun _=>bw.bad (by decide)) fun c1=>bw.ite (fun c=>bw.bad (by decide)) fun c2=>bw.some fun c=>⟨h4 c,by omega⟩
section
noncomputable section
open Go.RowKit
def pG:TL:=
 let a:Ex:=bG 20 21
 .loop [(.i 0)] (.ite (aS 21 (aG 20)) (.ag (aU (.i 0) 21) (.ag (aS 21 (aG 20)) (.call 243 ([0,1,2,3,4,5,6,7,8,9,10,11,12,13,14,15,16,17,18,19]++nI a [0,1,2,3,4,5,6,7,8,9,10,11,12,13,14,15,16,17,18,19,20]) 1 (.ite (gq 22 (.i 0)) (.aa [22]) (.call 206 [0,1,2,3,4,5,6,7,8,9,10,11,12,13,14,15,16,17,18,19,(bE 19 a)] 1 (.ite (gq 23 (.i 0)) (.aa [23]) (.call 206 [0,1,2,3,4,5,6,7,8,9,10,11,12,13,14,15,16,17,18,19,(bE 20 a)] 1 (.ite (gq 24 (.i 0)) (.aa [24]) (.next 0 [(eu 21)]))))))))) (.aa [(.i 0)]))
def xK:nK:=⟨206,206,[abS,gq5],(.c eA)⟩
def xo:KL:=[dW]
def wE:nw:=[xK]
def yw:Mm wE xo:=mq xK [hq 18001020600002 [(12,0)] [13,14,15,6,16,17,18,7,19,20,21,4,22,23,24,25,8,26,27,28,29,30,31,32,9,33,34,35,36] []] Tryz.call206 pG
def fP:Fm:={L:=xo,cs:=wE,ms:=[yw]}
def iq:=fP.g
theorem ER (k:Nat):iq k 243=dW.F:=fP.out k (j:=0) (x:=dW) rfl
theorem Kf (k:Nat) (l:aP):iq (k+1) 206 l=if l.length=21 then pG.bR (iq k) l []else none:=fP.step k (i:=0) (m:=yw) rfl l
def qN:KP:=fP.at 0
theorem Ji:qN.F=iq (aF+1) 206:=fP.top _ _ _ rfl
def y8:TL:=
 let a:Ex:= .i 0
 let b:TL:= .aa [(.i 6)]
 let c:Ex:=bE 0 (bG 1 5)
 let d:Ex:=gq 7 a
 let e:Ex:=aS (.i 16) (aG 2)
 let f:Ex:=bG 2 8
 let g:Ex:=bE 0 f
 let h:Ex:=gq 10 a
 let j:EL:=[0,1,2,3]
 let k:TL:= .ite h (.aa [10]) (.call 43 j 1 (.aa [11]))
 let l:TL:= .next 1 [(eu 8),9]
 let m:EL:=nI f [0,1,2,3,4,5,6,7,8,9,10,11,12]
 let n:TL:= .ite (gq 11 a) (.aa [11]) (.call 43 j 1 (.aa [12]))
 let p:TL:= .aa [(.i 4)]
 let q:TL:= .call 43 j 1 (.aa [10])
 let r:TL:= .next 0 [(eu 5),6]
 let u:EL:=[(bE 1 (bG 1 5))]
 let w:EL:=[(bE 1 (bG 1 5)),(bE 2 (bG 1 5))]
 let x:Ex:=bG 2 7
 let y:Ex:=bE 0 x
 let z:Ex:=gq 9 a
 let A:TL:= .next 1 [(eu 7),8]
 let B:EL:=nI x [0,1,2,3,4,5,6,7,8,9,10,11,12]
 .call 37 [0] 1 (.ite (gq 4 a) (.aa [4]) (.ite (aS (.i 32) (aG 1)) b (.loop [a,.nil] (.ite (aS 5 (aG 1)) (.ag (aU a 5) (.ag (aS 5 (aG 1)) (.call 37 [c] 1 (.ite d (.ite d (.ite d (.ite d (.aa [7]) (.ite (bm (aG 2) a) (.aa [(.i 7)]) (.ite e b (.loop [a,.nil] (.ite (aS 8 (aG 2)) (.ag (aU a 8) (.ag (aS 8 (aG 2)) (.call 37 [g] 1 (.ite h (.ite h (.ite h k l) (.call 42 m 1 (.ite (gq 11 a) n l))) (.ite (.o (.mem 0) 9 g) p (.call 42 m 1 (.ite (gq 11 a) n (.next 1 [(eu 8),(.o (.Fh 0) 9 g)])))))))) q))))) r) (.call 172 u 1 (.ite (jK 8) (.aa [(.i 1)]) (.call 173 w 1 (.ite (jK 9) (.aa [(.i 2)]) r))))) (.ite (.o (.mem 0) 6 c) p (.call 172 u 1 (.ite (jK 8) (.aa [(.i 1)]) (.call 173 w 1 (.ite (jK 9) (.aa [(.i 2)]) (.next 0 [(eu 5),(.o (.Fh 0) 6 c)])))))))))) (.ite (bm (aG 2) a) (.aa [(.i 7)]) (.ite e b (.loop [a,.nil] (.ite (aS 7 (aG 2)) (.ag (aU a 7) (.ag (aS 7 (aG 2)) (.call 37 [y] 1 (.ite z (.ite z (.ite z (.ite z (.aa [9]) q) A) (.call 42 B 1 (.ite h k A))) (.ite (.o (.mem 0) 8 y) p (.call 42 B 1 (.ite h k (.next 1 [(eu 7),(.o (.Fh 0) 8 y)])))))))) (.call 43 j 1 (.aa [9]))))))))))
def PP:KL:=[dB,Bc,yd,lL,mX]
def fQ:KP:=kn PP [hq 3004003900004 [(16,0)] Cy [(2,(0,0))],hq 3006003900004 [(16,0)] Cy [(4,(0,0))],hq 3002009300004 [(16,0)] Cy [(1,(0,0))]] ⟨13,13,[Im],(.c eA)⟩ Tryz.call13 y8
def vM:TL:=
 let a:Ex:=bG 2 4
 .call 176 [6] 1 (.ite (gq 7 (.i 0)) (.aa [7]) (.ite (aS 4 (.i 0)) (.aa [(.i 2)]) (.ite (aU (aG 2) 4) (.aa [(.i 2)]) (.ag (aU (.i 0) 4) (.ag (aS 4 (aG 2)) (.call 206 ([0,1,2,3,4,1,5]++nI a [0,1,2,3,4,5,6,7,8,9,10,11,12]++[6]) 1 (.aa [8])))))))
def MS:KL:=[tR,qN]
def lZ:KP:=kn MS [] ⟨160,160,[Im,eA,gq4,gq5],(.c eA)⟩ Tryz.call160 vM
def za:TL:=
 let a:Ex:= .i 0
 let b:Ex:=bG 2 12
 .call 13 [0,1,2,3] 1 (.ite (gq 4 a) (.aa [jf,4]) (.call 14 [.nil,a,(cq [as4,0] .nil)] 2 (.call 17 [5,(eu 6),as8,1] 2 (.loop [a,7,8] (.ite (aS 9 (aG 3)) (.ag (aU a 9) (.ag (aS 9 (aG 3)) (.call 18 [(bE 2 (bG 3 9))] 1 (.call 14 [10,11,(cq [as1,(bE 0 (bG 3 9)),(bE 1 (bG 3 9)),12] .nil)] 2 (.next 0 [(eu 9),13,14]))))) (.loop [a,10,11] (.ite (aS 12 (aG 2)) (.ag (aU a 12) (.ag (aS 12 (aG 2)) (.call 19 ([13,14]++nI b [0,1,2,3,4,5,6,7,8,9,10,11,12]) 2 (.next 1 [(eu 12),15,16])))) (.call 14 [13,(.o (.sub .i64) 14 (.i 1)),(cq [Uq] .nil)] 2 (.ite (aS (.i 20000) (aG 15)) (.aa [jf,(.i 6)]) (.ag (.u .isb 15) (.aa [(.u .ofb 15),a])))))))))))
def PZ:KL:=[fQ,aT,fm,eh,j0]
def qu:KP:=kn PZ [hq 7003001600007 [(31,0)] [32,33,34,5,35,36,37,38] [(1,(1,5)),(1,(2,0))],hq 6003001600002 [(13,0)] [14,15,16,3,17,18,19,20,21,22,23,24,25,26,27] [(1,(1,5)),(1,(2,0))]] ⟨6,6,[Im],(.t [AB,eA])⟩ Tryz.call6 za
def E7:TL:=
 let a:Ex:= .i 0
 .call 59 [0] 3 (.ite (gq 3 a) (.ite (gq 3 a) (.aa [jf,.nil,.nil,.nil,2,3]) (.fail "op")) (.call 24 [1,a] 5 (.call 13 [4,5,6,7] 1 (.ite (gq 9 a) (.aa [jf,.nil,.nil,.nil,a,9]) (.aa [4,5,6,7,a,a])))))
def PY:KL:=[tL,m0,fQ]
def Be:KP:=kn PY [] ⟨7,7,[AB],(.t [Im,eA,eA])⟩ Tryz.call7 E7
def vL:TL:=
 let a:Ex:=aS 6 (aG (bE 10 (bG 2 5)))
 let b:Ex:=bG (bE 10 (bG 2 5)) 6
 let c:Ex:= .o .app (bE 1 b) (bE 2 b)
 .call 13 [0,1,2,3] 1 (.ite (gq 4 (.i 0)) (.aa [4]) (.loop [(.i 0)] (.ite (aS 5 (aG 2)) (.ag (aU (.i 0) 5) (.ag (aS 5 (aG 2)) (.loop [(.i 0)] (.ite a (.ag (aU (.i 0) 6) (.ag a (.ag (aU (aG (bE 1 b)) (.i 5864062014805)) (.ag (aU (aG c) (.i 5864062014805)) (.call 160 [0,1,2,3,5,c,(bE 3 b)] 1 (.ite (gq 7 (.i 0)) (.aa [7]) (.next 1 [(eu 6)]))))))) (.next 0 [(eu 5)]))))) (.aa [(.i 0)]))))
def MR:KL:=[fQ,lZ]
def oD:KP:=kn MR [hq 15002008100008 [(26,0)] [27,28,29,7,30,31,32,33,34,35,36,8,37,38,39,40,41,42,9,43,44,45,2,46] [],hq 3001008100005 [(18,0)] [19,20,21,22,5,4,23,24,25,26,27,28,29,7,30,31,32,33,34,35,36,8,37,38,39,40,41,42,9,43,44,45,2,46,47] []] ⟨81,81,[Im],(.c eA)⟩ Tryz.call81 vL
def tW:TL:=
 let a:Ex:=bG 2 4
 .call 160 [0,1,2,3,4,5,6] 1 (.ite (gq 7 (.i 0)) (.aa [.nil,7]) (.ag (aU (.i 0) 4) (.ag (aS 4 (aG 2)) (.call 169 ([0,1,2,3,1,5]++nI a [0,1,2,3,4,5,6,7,8,9,10,11,12]++[(.i 0),6]) 2 (.ite (gq 9 (.i 0)) (.aa [.nil,9]) (.aa [8,(.i 0)]))))))
def Lo:KL:=[lZ,mV]
def pY:KP:=kn Lo [] ⟨86,86,[Im,eA,gq4,gq5],(.ot 187 [eA])⟩ Tryz.call86 tW
def yU:TL:=
 let a:Ex:= .i 0
 let b:Ex:=aS 6 (aG 7)
 let c:Ex:=bG 7 6
 let d:Ex:=bE 10 c
 let e:Ex:=bG d 9
 .call 81 [0,1,2,3] 1 (.ite (gq 4 a) (.aa [jf,.nil,.nil,.nil,4]) (.call 82 [2] 1 (.loop [a,5] (.ite (aS 6 (aG 5)) (.ag (aU a 6) (.ag b (.call 30 [d] 1 (.ag (aU a 6) (.ag b (.loop [a,8] (.ite (aS 9 (aG d)) (.ag (aU a 9) (.ag (aS 9 (aG d)) (.call 83 ([0,1,2,3]++nI c [0,1,2,3,4,5,6,7,8,9,10,11,12]++nI e [0,1,2,3]) 1 (.call 84 [11,(bE 3 e)] 2 (.ite (gq 13 a) (.aa [jf,.nil,.nil,.nil,13]) (.ag (aU a 6) (.ag b (.ag (aU a 9) (.ag (aS 9 (aG 10)) (.next 1 [(eu 9),(.t .Yh 10 9 (cq (nI (bG 10 9) [0,1,2]++[12]) .nil))])))))))))) (.next 0 [(eu 6),(.t .Yh 7 6 (cq (nI c [0,1,2,3,4,5,6,7,8,9]++[10,(bE 11 c),(bE 12 c)]) .nil))])))))))) (.aa [0,.nil,7,3,a])))))
def PK:KL:=[oD,gZ,cT,tH,pd]
def qo:KP:=kh PK [⟨17003002900010,[(38,0)],[39,40,41,42,9,8,44,45,46,47,48,49,50,51,43,52,53,10,11,54,55,56,57,3,58,59,60,61,62,63,64,65,66,67],[],[16],[],[],[],[],0⟩,⟨4002002900006,[(23,0)],[24,25,26,27,7,6,28,29,30,31,32,33,34,35,36,37,38,39,40,41,42,9,8,44,45,46,47,48,49,50,51,43,52,53,10,11,54,55,56,57,3,58,59,60,61,62,63,64,65,66,67,68],[],[3],[],[],[],[3],0⟩] ⟨29,29,[Im],(.t [Im,eA])⟩ Tryz.call29 yU
def pq:TL:=
 let a:Ex:= .i 0
 let b:TL:= .aa [jf,a,a,.nil,(.i 2)]
 let c:Ex:=aG (bE 10 (bG 2 4))
 let d:Ex:=bG (bE 10 (bG 2 4)) 5
 let e:Ex:= .o .bC 8 (cq [(.i 19),a,a,a,a,jf,a,.nil,a,jf,a,.nil,.nil,a,a,a,a,.nil,.nil,(.b false)] .nil)
 .call 81 [0,1,2,3] 1 (.ite (gq 6 a) (.aa [jf,a,a,.nil,6]) (.ite (aS 4 a) b (.ite (aU (aG 2) 4) b (.ite (aS 5 a) b (.ag (aU a 4) (.ag (aS 4 (aG 2)) (.ite (aU c 5) b (.ag (aU a 4) (.ag (aS 4 (aG 2)) (.ag (aU a 5) (.ag (aS 5 c) (.call 85 [(cq [(bE 1 d),(bE 2 d)] .nil)] 1 (.call 86 [0,1,2,3,4,7,(bE 3 d)] 2 (.ite (gq 9 a) (.aa [jf,a,a,.nil,9]) (.ag (aU (aG e) (.i 549755813888)) (.ite (aS (.i 1000) (aG e)) (.aa [jf,a,a,.nil,(.i 6)]) (.aa [(bE 0 d),(aG (bE 1 d)),(aG 7),e,a])))))))))))))))))
def FU:KL:=[oD,cD,pY]
def km:KP:=kn FU [] ⟨31,31,[Im,eA,eA],(.t [avA,eA])⟩ Tryz.call31 pq
def AQ:TL:=
 let a:Ex:= .i 0
 let b:Ex:=bG 6 9
 let c:Ex:= .o .bC 13 (cq [15,16,17,18] .nil)
 let d:Ex:=bG 14 12
 let e:Ex:= .o .bC 10 (cq (nI b [0,1,2,3,4,5,6,7,8,9]++[14,(bE 11 b),(bE 12 b),13]) .nil)
 let f:Ex:= .o .bC 12 (cq [13,14,(bE 2 (bG 7 11))] .nil)
 .call 29 [0,1,2,3] 5 (.ite (gq 8 a) (.aa [jf,.nil,.nil,8]) (.loop [a,.nil] (.ite (aS 9 (aG 6)) (.ag (aU a 9) (.ag (aS 9 (aG 6)) (.call 30 [(bE 10 b)] 1 (.loop [a,.nil,11] (.ite (aS 12 (aG (bE 10 b))) (.call 31 [4,5,6,7,9,12] 5 (.ite (gq 19 a) (.aa [jf,.nil,.nil,19]) (.ag (aU a 12) (.ag (aS 12 (aG 14)) (.ag (aU (aG c) (.i 2513169434916)) (.next 1 [(eu 12),c,(.t .Yh 14 12 (cq (nI d [0,1,2]++[.nil]) .nil))])))))) (.ag (aU (aG e) (.i 429077708400)) (.next 0 [(eu 9),e]))))))) (.loop [a,.nil] (.ite (aS 11 (aG 7)) (.ag (aU a 11) (.ag (aS 11 (aG 7)) (.call 32 [4,5,6,7,(bE 0 (bG 7 11))] 1 (.call 32 [4,5,6,7,(bE 1 (bG 7 11))] 1 (.ag (aU (aG f) (.i 5864062014805)) (.next 1 [(eu 11),f])))))) (.aa [4,10,12,a]))))))
def Lm:KL:=[qo,cT,km,fV]
def mO:KP:=kn Lm [hq 7003000900022 [(81,0)] [82,83,84,13,85,86,87,88,89,90,91,92,93,94,95,96,97,98,99,100,101] [(2,(2,97))],⟨20005000900011,[(44,0)],[45,46,9,48,49,50,51,47,52,53,10,11,54,55,56,57,3,58,59,60,61,62,63,64,65,66,67,68,69,70],[(4,(13,62))],[19],[],[],[],[],0⟩,hq 6003000900006 [(29,0)] [30,31,32,33,7,6,34,35,8,36,37,38,39,40,41,42,43,44,45,46,9,48,49,50,51,47,52,53,10,11,54,55,56,57,3,58,59,60,61,62,63,64,65,66,67,68,69,70,71,72,73,74,75,76,77] [(2,(1,59))],⟨19005000900011,[(44,0)],[45,46,9,48,49,50,51,47,52,53,10,11,54,55,56,57,3,58,59,60,61,62,63,64,65,66,67,68,69,70],[(4,(13,62))],[18],[],[],[],[],0⟩] ⟨9,9,[Im],(.t [avz,eA])⟩ Tryz.call9 AQ
def JC:TL:=
 let a:Ex:= .i 0
 let b:Ex:=bE 13 (bG 11 a)
 let c:TL:= .aa [(.b false)]
 .call 12 [] 4 (.call 6 [0,1,2,3] 2 (.call 12 [] 4 (.call 9 [6,7,8,9] 4 (.ite (bm 5 a) (.ite (bm 13 a) (.ite (aS (.i 20) (.u .fD 4)) (.ite (bm (aG 11) (.i 1)) (.ag (aS a (aG 11)) (.ite (bm (aG b) (.i 1)) (.ag (aS a (aG 11)) (.ag (aS a (aG b)) (.aa [(bm (aG (bE 3 (bG b a))) (.i 4))]))) c)) c) c) c) c))))
def JT:KL:=[Rx,qu,mO]
def pj:KP:=kn JT [] ⟨5,5,[],(.c vD)⟩ Tryz.call5 JC
def eY:TL:=
 let a:TL:= .aa [(.b false)]
 .call 4 [0,1,2,3] 1 (.ite (jK 4) (.call 5 [] 1 (.aa [5])) (.call 6 [0,1,2,3] 2 (.ite (gq 6 (.i 0)) (.call 5 [] 1 (.aa [7])) (.call 7 [5] 6 (.ite (gq 12 (.i 0)) a (.ite (gq 11 (.i 0)) a (.call 8 [0,1,2,3,7,8,9,10] 1 (.ite (jK 13) a (.call 9 [0,1,2,3] 4 (.call 9 [7,8,9,10] 4 (.ite (bm 17 21) (.call 10 [14,15,16,18,19,20] 1 (.ite 22 (.call 5 [] 1 (.aa [23])) a)) a)))))))))))
def xu:KL:=[jc,pj,qu,Be,pe,mO,Gc]
def pi:KP:=kn xu [] ⟨3,3,[Im],(.c vD)⟩ Tryz.call3 eY
end
end
section
noncomputable section
variable (l:aP)
def ql:=dl PP
theorem aby:fQ.F l=if l.length=4 then y8.bR ql l []else none:=rfl
theorem Ir:ql 37=dB.F:=by kernel_rfl
theorem Vn:ql 43=Bc.F:=by kernel_rfl
theorem It:ql 42=yd.F:=by kernel_rfl
theorem Tr:ql 172=lL.F:=by kernel_rfl
theorem Ts:ql 173=mX.F:=by kernel_rfl
def Ed:=dl MS
theorem ZG:lZ.F l=if l.length=7 then vM.bR Ed l []else none:=rfl
theorem EC:Ed 176=tR.F:=by kernel_rfl
theorem Rn:Ed 206=qN.F:=by kernel_rfl
def qm:=dl PZ
theorem Qm:qu.F l=if l.length=4 then za.bR qm l []else none:=rfl
theorem I0:qm 13=fQ.F:=by kernel_rfl
theorem VD:qm 14=aT.F:=by kernel_rfl
theorem VE:qm 17=fm.F:=by kernel_rfl
theorem VF:qm 18=eh.F:=by kernel_rfl
theorem VG:qm 19=j0.F:=by kernel_rfl
def A4:=dl PY
theorem abF:Be.F l=if l.length=1 then E7.bR A4 l []else none:=rfl
theorem VC:A4 59=tL.F:=by kernel_rfl
theorem VB:A4 24=m0.F:=by kernel_rfl
theorem VA:A4 13=fQ.F:=by kernel_rfl
def Ec:=dl MR
theorem ZF:oD.F l=if l.length=4 then vL.bR Ec l []else none:=rfl
theorem Ga:Ec 13=fQ.F:=by kernel_rfl
theorem Rm:Ec 160=lZ.F:=by kernel_rfl
def Ck:=dl Lo
theorem XB:pY.F l=if l.length=7 then tW.bR Ck l []else none:=rfl
theorem Dj:Ck 160=lZ.F:=by kernel_rfl
theorem Pn:Ck 169=mV.F:=by kernel_rfl
def qk:=dl PK
theorem Ql:qo.F l=if l.length=4 then yU.bR qk l []else none:=rfl
theorem Io:qk 81=oD.F:=by kernel_rfl
theorem Ve:qk 82=gZ.F:=by kernel_rfl
theorem Vd:qk 30=cT.F:=by kernel_rfl
theorem Vf:qk 83=tH.F:=by kernel_rfl
theorem Vg:qk 84=pd.F:=by kernel_rfl
def rg:=dl FU
theorem S7:km.F l=if l.length=6 then pq.bR rg l []else none:=rfl
theorem BT:rg 81=oD.F:=by kernel_rfl
theorem NC:rg 85=cD.F:=by kernel_rfl
theorem ND:rg 86=pY.F:=by kernel_rfl
def pM:=dl Lm
theorem XA:mO.F l=if l.length=4 then AQ.bR pM l []else none:=rfl
theorem Re:pM 29=qo.F:=by kernel_rfl
theorem Rf:pM 30=cT.F:=by kernel_rfl
theorem Rg:pM 31=km.F:=by kernel_rfl
theorem Rh:pM 32=fV.F:=by kernel_rfl
def dq:=dl xu
theorem J6:pi.F l=if l.length=4 then eY.bR dq l []else none:=rfl
theorem G7:dq 4=jc.F:=by kernel_rfl
theorem G8:dq 5=pj.F:=by kernel_rfl
theorem G9:dq 6=qu.F:=by kernel_rfl
theorem Ha:dq 7=Be.F:=by kernel_rfl
theorem Hb:dq 8=pe.F:=by kernel_rfl
theorem Hc:dq 9=mO.F:=by kernel_rfl
theorem Fw:dq 10=Gc.F:=by kernel_rfl
end
end
theorem OE {α:Type}{g:fF->fF}{xs:List α}{v:aP} (p:α->Bool) (R:Nat->Option aP) (E:Option aP) (hv:v=[.i 0]) (hl:Lb xs.length)
 (av9:∀(i:Nat) (x:α) (rec:fF),xs[i]? =some x->p x=true->g rec [.i (i:Int)]=R i) (Yv:∀(i:Nat) (x:α) (rec:fF),xs[i]? =some x->p x=false->g rec [.i (i:Int)]=rec [.i ((i+1:Nat):Int)]) (X3:∀rec,g rec [.i (xs.length:Int)]=E):
 dz g aF v=match xs.findIdx? p with|some i=>R i|none=>E:=by
 unfold Lb at hl
 cases h:xs.findIdx? p with
 |none=>
  refine cu (fun i=>[.i (i:Int)]) xs.length hv (by omega) (fun i hi rec=> ?_) X3
  obtain⟨x,hx⟩:=aV hi
  exact Yv i x rec hx (by
   have:=findIdx?_eq_none_iff.1 h x (aM hx)
   exact this)
 |some j=>
  obtain⟨hj,h1,h2⟩:=findIdx?_eq_some_iff_getElem.1 h
  refine cu (fun i=>[.i (i:Int)]) j hv (by omega) (fun i hi rec=> ?_) (fun rec=>av9 j _ rec (getElem?_eq_getElem hj) h1)
  have hi2:i<xs.length:=by omega
  exact Yv i _ rec (getElem?_eq_getElem hi2) (by simpa using h2 i hi)
def cN {α:Type} (p:α->Bool) (xs:List α):Int:=match xs.findIdx? p with|some i=>i|none=> -1
theorem EW {α:Type}{p:α->Bool}{xs:List α} (h:0<=cN p xs):∃(j:Nat) (x:α),cN p xs=j/\xs[j]? =some x/\p x=true:=by
 unfold cN at h⊢
 cases hf:xs.findIdx? p with
 |none=>rw[hf]at h;simp at h
 |some j=>
  obtain⟨hj,h1,h2⟩:=findIdx?_eq_some_iff_getElem.1 hf
  exact⟨j,_,rfl,getElem?_eq_getElem hj,h1⟩
theorem aly {α:Type}{p:α->Bool}{xs:List α} (h:¬0<=cN p xs):cN p xs= -1:=by
 unfold cN at h⊢
 cases hf:xs.findIdx? p with
 |none=>rfl
 |some j=>rw[hf]at h;simp at h
def dL.lbN (d:dL):Prop:=Lb d.vars.length/\Lb d.res.length/\Lb d.cU.length/\Lb d.kX.length/\Lb d.fc.length/\Lb d.cd.length/\Lb d.de.length/\Lb d.levels.length/\Lb d.counts.length/\Lb d.nh.length/\Lb d.starts.length/\Lb d.laws.length
theorem N7 (d:dL) (h:d.lbN) (w:Bs):bx.F (d.cs++[.s (bs w)])=some [.i (cN (fun r:jv=>decide (r.nm=w)) d.nh)]:=by
 have hl:=h.2.2.2.2.2.2.2.2.2.1
 rw[LG]
 unfold dL.cs
 simp only[AU,av,Nat.reduceAdd]
 rw[OE (xs:=d.nh) (fun r:jv=>decide (r.nm=w)) (fun i=>some [.i (i:Int)]) (some [.i (-1)]) rfl hl]
 ·unfold cN;cases d.nh.findIdx? _<;>rfl
 ·intro i x rec hx hp
  have hi:=bp hx
  have bN:(i:Int)<d.nh.length:=by omega
  have hp:x.nm=w:=of_decide_eq_true hp
  simp only[ay hx,jv.cs,bN,hp,av]
 ·intro i x rec hx hp
  have hi:=bp hx
  unfold Lb at hl
  have bN:(i:Int)<d.nh.length:=by omega
  have hp:¬x.nm=w:=of_decide_eq_false hp
  simp only[ay hx,jv.cs,bN,hp,aJ (k:=i) (by omega),av]
 ·intro rec
  simp only[Int.lt_irrefl,av]
theorem arW (xs:xm) (w:Bs) (hl:Lb xs.length):cH.F [am xs,.s (bs w)]=some [.i (cN (fun x:Bs=>decide (w=x)) xs)]:=by
 rw[rz]
 simp only[kU,av,Nat.reduceAdd]
 rw[OE (xs:=xs) (fun x:Bs=>decide (w=x)) (fun i=>some [.i (i:Int)]) (some [.i (-1)]) rfl hl]
 ·unfold cN;cases xs.findIdx? _<;>rfl
 ·intro i x rec hx hp
  have hi:=bp hx
  have bN:(i:Int)<xs.length:=by omega
  have hp:w=x:=of_decide_eq_true hp
  simp only[ay hx,bN,eq_true hp,av]
 ·intro i x rec hx hp
  have hi:=bp hx
  unfold Lb at hl
  have bN:(i:Int)<xs.length:=by omega
  have hp:¬w=x:=of_decide_eq_false hp
  simp only[ay hx,bN,hp,aJ (k:=i) (by omega),av]
 ·intro rec
  simp only[Int.lt_irrefl,av]
theorem Zp (xs:xm) (w:Bs) (hl:Lb xs.length):zo (cO.F [am xs,.s (bs w)]) (w∈xs):=by
 rw[Az]
 simp only[iW,vW,arW xs w hl,av,Nat.reduceAdd]
 refine zo.yes fun h=> ?_
 obtain⟨j,x,_,h2,h3⟩:=EW (of_decide_eq_true h)
 have h3:w=x:=of_decide_eq_true h3
 rw[h3];exact aM h2
def fh.ok (v:fh):Prop:=Name v.nm/\vg 1 3 v.ty/\z8 v.ty v.n
def oP.lb (r:oP):Prop:=Lb r.shift.length/\r.up.lb/\r.down.lb
def oP.sched (r:oP):Prop:=(r.shift=[]/\r.oh=0)\/(r.shift≠[]/\r.shift.length<=20/\vg 1 1000000000 r.oh/\∀c∈r.shift,vg 0 (r.oh-1) c.at_/\vg 0 1000 c.gU)
theorem oP.aA (r:oP):r.cs=[.s (bs r.nm),.i r.gU,ae QQ.cs r.shift,.i r.oh,.s (bs r.fs),.i r.up.op,.i r.up.a,.i r.up.b,.i r.up.n,bY r.up.vs,bY r.up.ws,.i r.down.op,.i r.down.a,.i r.down.b,.i r.down.n,bY r.down.vs,bY r.down.ws]:=rfl
theorem asw (r:oP) (h:r.lb):bw (tO.F r.cs) r.sched:=by
 have hl:=h.1
 unfold Lb at hl
 rw[U7,oP.aA]
 by_cases h0:r.shift=[]
 ·have hc:((r.shift.length:Int)=0):=by rw[alm];exact h0
  by_cases h1:r.oh=0
  ·simp only[nj,hc,h1,av,Nat.reduceAdd,Int.reduceLT]
   exact bw.some fun _=> .inl ⟨h0,h1⟩
  ·simp only[nj,hc,h1,av,Nat.reduceAdd,Int.reduceLT]
   exact bw.bad (by decide)
 have hc:¬((r.shift.length:Int)=0):=by rw[alm];exact h0
 have ht:(((r.shift.length:Int)<0))=False:=by simp
 simp only[nj,hc,NJ,lg,av,Nat.reduceAdd]
 refine bw.ite (fun _=>bw.bad (by decide)) fun c1=>bw.ite (fun _=>bw.bad (by decide)) fun c2=> ?_
 have c2:vg 1 1000000000 r.oh:=by simpa using c2
 have hw:IntKind.i64.wrap (r.oh-1)=r.oh-1:=by unfold vg at c2;exact cE (by omega) (by omega)
 refine eX (S:=Unit) (fun i _=>[.i (i:Int)]) (fun i _=>kN (fun c:QQ=>vg 0 (r.oh-1) c.at_/\vg 0 1000 c.gU) r.shift i) r.shift.length (s:=()) rfl (by omega) kN.zero (fun i _ rec hi hI hr=> ?_) (fun _ rec hI=> ?_)
 ·obtain⟨x,hx⟩:=aV hi
  have bN:(i:Int)<r.shift.length:=by omega
  have hs:=aJ (k:=i) (by omega)
  have hp:(0:Int)<(i:Int)->IntKind.i64.wrap ((i:Int)-1)=((i-1:Nat):Int):=fun h=>by rw[cE (by omega) (by omega)];omega
  have fin:vg 0 (r.oh-1) x.at_->vg 0 1000 x.gU->bw (rec [.i ((i+1:Nat):Int)]) r.sched:=fun a b=>hr () (hI.succ hx ⟨a,b⟩)
  by_cases jW:(0:Int)<(i:Int)
  ·have hp:=hp jW
   have hi1:((i-1:Nat):Int)<r.shift.length:=by omega
   have h00:(0:Int)<=((i-1:Nat):Int):=by omega
   obtain⟨y,hy⟩:=aV (xs:=r.shift) (i:=i-1) (by omega)
   simp only[ay hx,ay hy,QQ.cs,bN,hw,hs,hp,jW,hi1,h00,lg,av,Nat.reduceAdd]
   repeat' (refine bw.ite (fun _=> ?_) (fun _=> ?_))
   all_goals first|exact bw.bad (by decide)|(refine fin ?_ ?_ <;>simp_all)
  ·simp only[ay hx,QQ.cs,bN,hw,hs,jW,lg,av,Nat.reduceAdd]
   repeat' (refine bw.ite (fun _=> ?_) (fun _=> ?_))
   all_goals first|exact bw.bad (by decide)|(refine fin ?_ ?_ <;>simp_all)
 ·simp only[Int.lt_irrefl,av]
  exact bw.some fun _=> .inr ⟨h0,by omega,c2,hI.all⟩
def oP.fault (r:oP) (ss:xm):Prop:=(r.fs=[]/\r.up=oO.zero/\r.down=oO.zero)\/(r.fs≠[]/\r.fs∈ss/\r.up.ok/\r.down.ok)
theorem arq (d:dL) (r:oP) (h:r.lb) (hd:d.lbN):bw (oB.F (d.cs++(.s (bs r.fs)::(r.up.cs++r.down.cs)))) (r.fault d.cd):=by
 obtain⟨b1,u1,u2⟩:=adA r.up
 obtain⟨b2,v1,v2⟩:=adA r.down
 obtain⟨b3,c1,c2⟩:=Zp d.cd r.fs hd.2.2.2.2.2.1
 obtain⟨z1,p1,p2⟩:=Zr r.up h.2.1
 obtain⟨z2,q1,q2⟩:=Zr r.down h.2.2
 have hw:wd []=([]:Bs):=rfl
 simp only[oO.aA,cons_append,nil_append]at u1 v1 p1 q1
 rw[U6]
 unfold dL.cs
 by_cases h0:r.fs=[]
 ·rw[h0]at c1⊢
  simp only[rL,hw,oO.aA,BU,BV,BW,u1,v1,c1,p1,q1,av,Nat.reduceAdd]
  repeat' (refine bw.ite (fun _=> ?_) (fun _=> ?_))
  all_goals first|exact bw.bad (by decide)|(refine bw.some fun _=> ?_;unfold oP.fault;simp_all)
 ·simp only[rL,hw,h0,oO.aA,BU,BV,BW,u1,v1,c1,p1,q1,av,Nat.reduceAdd]
  refine bw.ite (fun _=>bw.bad (by decide)) fun a1=>bw.ite (fun hz=>bw.bad hz) fun a2=>bw.some fun a3=> .inr ⟨h0,c2 (by simpa using a1),p2 (by omega),q2 a3⟩
theorem Zo (a b:List io) (ha:a.length<1000000) (hb:b.length<1000000):cD.F [.l [ae io.cs a,ae io.cs b]]=some [ae io.cs (a++b)]:=by
 obtain⟨k,hk⟩:∃k,aF=k+1+1+1:=⟨aF-3,by unfold aF;omega⟩
 have w1:IntKind.i64.wrap (0+(a.length:Int))=(a.length:Int):=by rw[cE (by omega) (by omega)];omega
 have w2:IntKind.i64.wrap ((a.length:Int)+(b.length:Int))=(a.length:Int)+(b.length:Int):=cE (by omega) (by omega)
 have w3:IntKind.i64.wrap ((a.length:Int)+(b.length:Int)-0)=(a.length:Int)+(b.length:Int):=by rw[cE (by omega) (by omega)];omega
 have w01:IntKind.i64.wrap (0+1)=1:=by decide
 have w12:IntKind.i64.wrap (1+1)=2:=by decide
 have c2:((2:Nat):Int)=2:=rfl
 have n1:¬((a.length:Int)<0):=by omega
 have n2:¬((a.length:Int)+(b.length:Int)<0):=by omega
 have n3:(a.length:Int)+(b.length:Int)<=5864062014805:=by omega
 have n4:(0:Int)<=(a.length:Int)+(b.length:Int):=by omega
 have n5:((a.length:Int)<=5864062014805):=by omega
 have n6:(((a.length+b.length:Nat):Int))<=5864062014805:=by omega
 rw[Fl]
 by_cases h0:(0:Int)<(a.length:Int)+(b.length:Int)
 ·simp only[iN,hk,bO,w1,w2,w3,w01,w12,c2,n1,n2,n3,n4,n6,h0,length_append,av,reduceToNat,Nat.reduceAdd,Int.reduceLT,reduceLE]
  simp[ae]
  omega
 ·simp only[iN,hk,bO,w1,w2,w3,w01,w12,c2,n1,n2,n3,n4,n6,h0,length_append,av,reduceToNat,Nat.reduceAdd,Int.reduceLT,reduceLE]
  simp[ae]
  omega
def io.ok (f:io):Prop:=Name f.nm/\vg 1 3 f.ty
def jv.lb (r:jv):Prop:=Lb r.params.length/\Lb r.locals.length/\ax.im r.body<1000000/\ax.smL r.body
def jv.ok (r:jv):Prop:=r.params.length<=6/\r.params.length+r.locals.length<=16/\(∀f∈r.params++r.locals,f.ok)/\ax.R1 r.body/\ax.im r.body<=200
theorem alL (r:jv) (h:r.lb):bw (vH.F r.cs) r.ok:=by
 obtain⟨h1,h2,h3,h4⟩:=h
 unfold Lb at h1 h2
 obtain⟨z,s1,s2⟩:=agR r.body h3 h4
 have hw:IntKind.i64.wrap ((r.params.length:Int)+(r.locals.length:Int))=(r.params.length:Int)+(r.locals.length:Int):=cE (by omega) (by omega)
 rw[XD]
 unfold jv.cs
 by_cases c1:(6:Int)<r.params.length
 ·simp only[oK,c1,av,Nat.reduceAdd]
  exact bw.bad (by decide)
 by_cases c2:(16:Int)<(r.params.length:Int)+(r.locals.length:Int)
 ·simp only[oK,c1,hw,c2,av,Nat.reduceAdd]
  exact bw.bad (by decide)
 have hcc:=Zo r.params r.locals (by omega) (by omega)
 generalize hL:r.params++r.locals=L at hcc
 have hLl:L.length<=16:=by rw[<-hL,length_append];omega
 simp only[oK,c1,hw,c2,Rl,hcc,av,Nat.reduceAdd]
 refine eX (S:=Sc) (fun i s=>[.i (i:Int),s]) (fun i _=>kN io.ok L i) L.length (s:= .l []) rfl (by omega) kN.zero (fun i s rec hi hI hr=> ?_) (fun _ rec hI=> ?_)
 ·obtain⟨x,hx⟩:=aV hi
  have bN:(i:Int)<L.length:=by omega
  obtain⟨y,n1,n2⟩:=nf x.nm
  simp only[ay hx,io.cs,bN,Rk,Pq,n1,aex,aJ (k:=i) (by omega),av,Nat.reduceAdd]
  repeat' (refine bw.ite (fun _=> ?_) (fun _=> ?_))
  all_goals first|exact bw.bad (by decide)|(exfalso;omega)|(refine bw.bad ?_;omega)|(refine hr _ (hI.succ hx ⟨n2 (by omega),by simp_all⟩))
 ·simp only[Int.lt_irrefl,Pr,s1,av,Nat.reduceAdd]
  exact bw.some fun h0=>⟨by omega,by omega,by rw[hL];exact hI.all,s2 h0⟩
def xB.ok (d:dL) (s:xB):Prop:=
 (∃(j:Nat) (r:jv),cN (fun r:jv=>decide (r.nm=s.rt)) d.nh=j/\d.nh[j]? =some r/\r.nm=s.rt/\s.args.length=r.params.length/\∀(i:Nat) (f:io) (n:Int),r.params[i]? =some f->s.args[i]? =some n->z8 f.ty n)/\vg 0 1000000000 s.at_/\vg 0 1000000000 s.every/\vg 0 1000000000 s.til/\(s.every=0->s.til=0)
theorem asG (d:dL) (s:xB) (h:d.lbN) (hs:Lb s.args.length) (hp:∀r∈d.nh,Lb r.params.length):bw (vi.F (d.cs++s.cs)) (s.ok d):=by
 have hx:=N7 d h s.rt
 rw[abD]
 unfold dL.cs xB.cs at*
 simp only[cons_append,nil_append]at hx⊢
 by_cases h0:0<=cN (fun r:jv=>decide (r.nm=s.rt)) d.nh
 rotate_left
 ·rw[aly h0]at hx
  simp only[sX,xS,hx,av,reduceToNat,Nat.reduceAdd,Int.reduceLT,reduceLE]
  exact bw.bad (by decide)
 obtain⟨j,r,e1,e2,e3⟩:=EW h0
 have e3:r.nm=s.rt:=of_decide_eq_true e3
 rw[e1]at hx
 have hj:=bp e2
 have W8:(j:Int)<d.nh.length:=by omega
 have hj0:¬((j:Int)<0):=by omega
 have hlp:=hp r (aM e2)
 unfold Lb at hs hlp
 by_cases c1:(s.args.length:Int)=r.params.length
 rotate_left
 ·simp only[sX,xS,hx,W8,hj0,ay e2,jv.cs,c1,av,Nat.reduceAdd]
  exact bw.bad (by decide)
 have c1':s.args.length=r.params.length:=by omega
 have ge1:∀A:Prop,A->True:=fun _ _=>trivial
 simp only[sX,xS,hx,W8,hj0,ay e2,jv.cs,c1,av,Nat.reduceAdd]
 refine eX (S:=Unit) (fun i _=>[.i (i:Int)]) (fun i _=>∀(q:Nat) (f:io) (n:Int),q<i->r.params[q]? =some f->s.args[q]? =some n->z8 f.ty n) s.args.length (s:=()) rfl (by omega) (fun q f n h=>by omega) (fun i _ rec hi hI hr=> ?_) (fun _ rec hI=> ?_)
 ·obtain⟨n,hn⟩:=aV hi
  obtain⟨f,hf⟩:=aV (xs:=r.params) (i:=i) (by omega)
  have bN:(i:Int)<r.params.length:=by omega
  obtain⟨b,b1,b2⟩:=ahZ f.ty n
  simp only[ay hn,ay hf,io.cs,bN,Tz,b1,aJ (k:=i) (by omega),av,Nat.reduceAdd]
  refine bw.ite (fun _=>bw.bad (by decide)) (fun hb=> ?_)
  refine hr () fun q f' n' hq h1 h2=> ?_
  rcases Nat.lt_succ_iff_lt_or_eq.1 hq with hq|rfl
  ·exact hI q f' n' hq h1 h2
  ·rw[hf]at h1;rw[hn]at h2;cases h1;cases h2
   exact b2 (by simpa using hb)
 ·simp only[c1,Int.lt_irrefl,Tx,lg,av,Nat.reduceAdd]
  repeat' (refine bw.ite (fun _=> ?_) (fun _=> ?_))
  all_goals first|exact bw.bad (by decide)|(refine bw.some fun _=>⟨⟨j,r,e1,e2,e3,c1',fun i f n h1 h2=>hI i f n (bp h2) h1 h2⟩,?_,?_,?_,?_⟩<;>simp_all)
def aaS:xm:=[aBj,aBk,aBl,aBm,aBn,aBo,aBp]
def rR.ok (d:dL) (t:rR):Prop:=t.what∈aaS/\((∃r∈d.nh,r.nm=t.nm)\/(∃r∈d.cU,r.nm=t.nm)\/t.nm∈d.counts)/\vg (-1000) 1000 t.jM/\t.jM≠0
theorem axt (d:dL) (t:rR) (h:d.lbN):bw (tP.F (d.cs++t.cs)) (t.ok d):=by
 have hx:=N7 d h t.nm
 have hl3:=h.2.2.1
 obtain⟨b,b1,b2⟩:=Zp d.counts t.nm h.2.2.2.2.2.2.2.2.1
 rw[adV]
 unfold dL.cs rR.cs at*
 simp only[cons_append,nil_append]at hx⊢
 have hR:0<=cN (fun r:jv=>decide (r.nm=t.nm)) d.nh->∃r∈d.nh,r.nm=t.nm:=fun h0=>by
  obtain⟨j,r,_,e2,e3⟩:=EW h0
  exact⟨r,aM e2,of_decide_eq_true e3⟩
 have fin:t.what∈aaS->((∃r∈d.nh,r.nm=t.nm)\/(∃r∈d.cU,r.nm=t.nm)\/t.nm∈d.counts)->bw (if ¬vg (-1000) 1000 t.jM then some [Sc.i 2]else if t.jM=0 then some [Sc.i 2]else some [Sc.i 0]) (t.ok d):=fun h1 h2=>by
  refine bw.ite (fun _=>bw.bad (by decide)) fun c1=>bw.ite (fun _=>bw.bad (by decide)) fun c2=>bw.some fun _=>⟨h1,h2,by simpa using c1,c2⟩
 have aoO:t.what∈aaS->∀g:fF->fF,
  (∀(i:Nat) (x:xg) (rec:fF),d.cU[i]? =some x->x.nm=t.nm->g rec [.i (i:Int)]=if ¬vg (-1000) 1000 t.jM then some [Sc.i 2]else if t.jM=0 then some [Sc.i 2]else some [Sc.i 0])->
  (∀(i:Nat) (x:xg) (rec:fF),d.cU[i]? =some x->¬x.nm=t.nm->g rec [.i (i:Int)]=rec [.i ((i+1:Nat):Int)])->
  (∀rec,g rec [.i (d.cU.length:Int)]=some [.i 5])->bw (dz g aF [.i 0]) (t.ok d):=fun hw g h1 h2 h3=>by
  rw[OE (xs:=d.cU) (fun x:xg=>decide (x.nm=t.nm)) _ _ rfl hl3 (fun i x rec hx hp=>h1 i x rec hx (of_decide_eq_true hp)) (fun i x rec hx hp=>h2 i x rec hx (of_decide_eq_false hp)) h3]
  cases hf:d.cU.findIdx? fun x:xg=>decide (x.nm=t.nm)with
  |none=>exact bw.bad (by decide)
  |some j=>
   obtain⟨hj,q1,q2⟩:=findIdx?_eq_some_iff_getElem.1 hf
   exact fin hw (.inr (.inl ⟨_,getElem_mem hj,of_decide_eq_true q1⟩))
 have pf:∀(i:Nat),i<d.cU.length->IntKind.wrap .i64 ((i:Int)+1)=((i+1:Nat):Int):=fun i hi=>aJ (k:=i) (by unfold Lb at hl3;omega)
 by_cases c1:t.what=aBj
 ·simp only[ip,eq_true c1,lQ,jm,hx,lg,av,Nat.reduceAdd]
  exact bw.ite (fun _=>bw.bad (by decide)) fun c=>fin (by rw[c1];decide) (.inl (hR (by simpa using c)))
 by_cases c2:t.what=aBk
 ·simp only[ip,c1,eq_true c2,lQ,jm,hx,lg,av,Nat.reduceAdd]
  exact bw.ite (fun _=>bw.bad (by decide)) fun c=>fin (by rw[c2];decide) (.inl (hR (by simpa using c)))
 by_cases c3:t.what=aBl
 ·simp only[ip,c1,c2,eq_true c3,lQ,jm,hx,lg,av,Nat.reduceAdd]
  exact bw.ite (fun _=>bw.bad (by decide)) fun c=>fin (by rw[c3];decide) (.inl (hR (by simpa using c)))
 by_cases c4:t.what=aBm
 ·simp only[ip,c1,c2,c3,eq_true c4,lQ,jm,hx,lg,av,Nat.reduceAdd]
  refine aoO (by rw[c4];decide) _ (fun i x rec hx hp=> ?_) (fun i x rec hx hp=> ?_) (fun rec=> ?_)
  ·have bN:(i:Int)<d.cU.length:=by have:=bp hx;omega
   simp only[ay hx,xg.cs,bN,hp,av]
  ·have bN:(i:Int)<d.cU.length:=by have:=bp hx;omega
   simp only[ay hx,xg.cs,bN,hp,pf i (bp hx),av]
  ·simp only[Int.lt_irrefl,av]
 by_cases c5:t.what=aBn
 ·simp only[ip,c1,c2,c3,c4,eq_true c5,lQ,jm,hx,lg,av,Nat.reduceAdd]
  refine aoO (by rw[c5];decide) _ (fun i x rec hx hp=> ?_) (fun i x rec hx hp=> ?_) (fun rec=> ?_)
  ·have bN:(i:Int)<d.cU.length:=by have:=bp hx;omega
   simp only[ay hx,xg.cs,bN,hp,av]
  ·have bN:(i:Int)<d.cU.length:=by have:=bp hx;omega
   simp only[ay hx,xg.cs,bN,hp,pf i (bp hx),av]
  ·simp only[Int.lt_irrefl,av]
 by_cases c6:t.what=aBo
 ·simp only[ip,c1,c2,c3,c4,c5,eq_true c6,lQ,jm,hx,lg,av,Nat.reduceAdd]
  refine aoO (by rw[c6];decide) _ (fun i x rec hx hp=> ?_) (fun i x rec hx hp=> ?_) (fun rec=> ?_)
  ·have bN:(i:Int)<d.cU.length:=by have:=bp hx;omega
   simp only[ay hx,xg.cs,bN,hp,av]
  ·have bN:(i:Int)<d.cU.length:=by have:=bp hx;omega
   simp only[ay hx,xg.cs,bN,hp,pf i (bp hx),av]
  ·simp only[Int.lt_irrefl,av]
 by_cases c7:t.what=aBp
 ·simp only[ip,c1,c2,c3,c4,c5,c6,eq_true c7,Vz,jm,b1,lg,av,Nat.reduceAdd]
  exact bw.ite (fun _=>bw.bad (by decide)) fun c=>fin (by rw[c7];decide) (.inr (.inr (b2 (by simpa using c))))
 ·simp only[ip,c1,c2,c3,c4,c5,c6,c7,av,Nat.reduceAdd]
  exact bw.bad (by decide)
def zC.ok (d:dL) (l:zC):Prop:=Name l.nm/\l.dK≠[]/\l.dK.length<=8/\(∀t∈l.dK,t.ok d)/\ld l.total
theorem awm (d:dL) (h:d.lbN):bw (DQ.F d.cs) (d.laws.length<=32/\∀l∈d.laws,l.ok d):=by
 have hl:=h.2.2.2.2.2.2.2.2.2.2.2
 unfold Lb at hl
 have ht:=fun t:rR=>axt d t h
 rw[adT]
 unfold dL.cs rR.cs at*
 simp only[cons_append,nil_append]at ht
 simp only[HG,av,Nat.reduceAdd]
 refine bw.ite (fun _=>bw.bad (by decide)) fun c1=> ?_
 refine eX (S:=Sc) (fun i s=>[.i (i:Int),s]) (fun i _=>kN (fun l:zC=>l.ok d) d.laws i) d.laws.length (s:= .l []) rfl (by omega) kN.zero (fun i s rec hi hI hr=> ?_) (fun _ rec hI=> ?_)
 ·obtain⟨x,hx⟩:=aV hi
  have bN:(i:Int)<d.laws.length:=by omega
  obtain⟨y,n1,n2⟩:=nf x.nm
  by_cases hy:y=0
  rotate_left
  ·simp only[ay hx,zC.cs,bN,LK,n1,hy,av,Nat.reduceAdd]
   exact bw.bad hy
  subst hy
  have n2:=n2 rfl
  have inner:∀(v:aP) (g:fF->fF),v=[.i 0]->x.dK≠[]->x.dK.length<=8->
   (∀(q:Nat) (t:rR) (z:Int) (rc:fF),x.dK[q]? =some t->z≠0->tP.F [Sc.s (bs d.nm),ae fh.cs d.vars,ae oP.cs d.res,ae xg.cs d.cU,ae CO.cs d.kX,am d.fc,am d.cd,am d.de,am d.levels,am d.counts,ae jv.cs d.nh,ae xB.cs d.starts,ae zC.cs d.laws,Sc.i t.jM,Sc.s (bs t.what),Sc.s (bs t.nm)]=some [.i z]->g rc [.i (q:Int)]=some [.i z])->
   (∀(q:Nat) (t:rR) (rc:fF),x.dK[q]? =some t->tP.F [Sc.s (bs d.nm),ae fh.cs d.vars,ae oP.cs d.res,ae xg.cs d.cU,ae CO.cs d.kX,am d.fc,am d.cd,am d.de,am d.levels,am d.counts,ae jv.cs d.nh,ae xB.cs d.starts,ae zC.cs d.laws,Sc.i t.jM,Sc.s (bs t.what),Sc.s (bs t.nm)]=some [.i 0]->g rc [.i (q:Int)]=rc [.i ((q+1:Nat):Int)])->
   (∀rc,(ld x.total->(∀t∈x.dK,t.ok d)->bw (g rc [.i (x.dK.length:Int)]) (d.laws.length<=32/\∀l∈d.laws,l.ok d))/\(¬ld x.total->g rc [.i (x.dK.length:Int)]=some [.i 2]))->bw (dz g aF v) (d.laws.length<=32/\∀l∈d.laws,l.ok d):=by
   intro v g hv rP h8 a1 a2 a3
   refine eX (S:=Unit) (fun q _=>[.i (q:Int)]) (fun q _=>kN (fun t:rR=>t.ok d) x.dK q) x.dK.length (s:=()) hv (by omega) kN.zero (fun q _ rc hq hQ hrc=> ?_) (fun _ rc hQ=> ?_)
   ·obtain⟨t,htt⟩:=aV hq
    obtain⟨z,t1,t2⟩:=ht t
    by_cases hz:z=0
    ·subst hz
     rw[a2 q t rc htt t1]
     exact hrc () (hQ.succ htt (t2 rfl))
    ·rw[a1 q t z rc htt hz t1]
     exact bw.bad hz
   ·by_cases hn:ld x.total
    ·exact(a3 rc).1 hn hQ.all
    ·rw[(a3 rc).2 hn]
     exact bw.bad (by decide)
  have e0:=alm x.dK
  simp only[ay hx,zC.cs,bN,LK,n1,e0,av,Nat.reduceAdd]
  refine bw.ite (fun _=>bw.bad (by decide)) fun d1=>bw.ite (fun _=>bw.bad (by decide)) fun d2=>bw.ite (fun _=>bw.bad (by decide)) fun d3=> ?_
  refine inner _ _ rfl d2 (by omega) (fun q t z rc hq hz h1=> ?_) (fun q t rc hq h1=> ?_) (fun rc=>⟨fun hn Rp=> ?_,fun hn=> ?_⟩)
  ·have hq':(q:Int)<x.dK.length:=by have:=bp hq;omega
   simp only[ay hq,rR.cs,hq',Iu,h1,hz,av,Nat.reduceAdd]
  ·have hq':(q:Int)<x.dK.length:=by have:=bp hq;omega
   simp only[ay hq,rR.cs,hq',Iu,h1,aJ (k:=q) (by have:=bp hq;omega),av,Nat.reduceAdd]
  ·simp only[Int.lt_irrefl,Iv,YA,hn,aJ (k:=i) (by omega),av,Nat.reduceAdd]
   exact hr _ (hI.succ hx ⟨n2,d2,by omega,Rp,hn⟩)
  ·simp only[Int.lt_irrefl,Iv,YA,hn,av,Nat.reduceAdd]
 ·simp only[Int.lt_irrefl,av]
  exact bw.some fun _=>⟨by omega,hI.all⟩
def oP.ok (d:dL) (r:oP):Prop:=Name r.nm/\vg 0 1000 r.gU/\r.sched/\r.fault d.cd
def xg.ok (x:xg):Prop:=Name x.nm/\vg 1 1000 x.room/\vg 1 3 x.KN
def CO.ok (x:CO):Prop:=Name x.nm/\vg 1 1000 x.length/\vg 1 1000 x.step
def dL.lb (d:dL):Prop:=d.lbN/\(∀r∈d.res,r.lb)/\(∀r∈d.nh,r.lb)/\(∀s∈d.starts,Lb s.args.length)
structure dL.ok (d:dL):Prop where
 vl:d.vars.length<=32
 v:∀x∈d.vars,x.ok
 rl:d.res.length<=32
 r:∀x∈d.res,x.ok d
 sl:d.cU.length<=32
 s:∀x∈d.cU,x.ok
 bl:d.kX.length<=32
 b:∀x∈d.kX,x.ok
 l1:d.fc.length<=32
 n1:∀x∈d.fc,Name x
 l2:d.cd.length<=32
 n2:∀x∈d.cd,Name x
 l3:d.de.length<=32
 n3:∀x∈d.de,Name x
 l4:d.levels.length<=32
 n4:∀x∈d.levels,Name x
 l5:d.counts.length<=32
 n5:∀x∈d.counts,Name x
 tl:d.nh.length<=16
 t:∀x∈d.nh,Name x.nm/\x.ok
 al:d.starts.length<=32
 a:∀x∈d.starts,x.ok d
 ll:d.laws.length<=32
 l:∀x∈d.laws,x.ok d
theorem EO {g:fF->fF}{A:Prop}{xs:xm}{s:Sc}{v:aP} (hv:v=[.i 0,s]) (hl:xs.length<=32)
 (hs:∀(i:Nat) (x:Bs) (s:Sc) (rec:fF) (z:Int),xs[i]? =some x->dB.F [.s (bs x)]=some [.i z]->(z≠0->g rec [.i (i:Int),s]=some [.i z])/\(z=0->g rec [.i (i:Int),s]=if(s.list.any fun k=>iG 0 k (.s (bs x)))=true then some [.i 4]else rec [.i ((i+1:Nat):Int),.l (if(s.list.any fun k=>iG 0 k (.s (bs x)))=true then s.list else s.list++[.s (bs x)])]))
 (hf:(∀x∈xs,Name x)->∀s rec,bw (g rec [.i (xs.length:Int),s]) A):bw (dz g aF v) A:=by
 refine eX (S:=Sc) (fun i s=>[.i (i:Int),s]) (fun i _=>kN Name xs i) xs.length (s:=s) hv (by omega) kN.zero (fun i s rec hi hI hr=> ?_) (fun s rec hI=>hf hI.all s rec)
 obtain⟨x,hx⟩:=aV hi
 obtain⟨z,n1,n2⟩:=nf x
 by_cases hz:z=0
 ·rw[(hs i x s rec z hx n1).2 hz]
  exact bw.ite (fun _=>bw.bad (by decide)) fun _=>hr _ (hI.succ hx (n2 hz))
 ·rw[(hs i x s rec z hx n1).1 hz]
  exact bw.bad hz
theorem axl (d:dL) (h:d.lb):bw (yd.F d.cs) d.ok:=by
 obtain⟨hn,hre,hrt,hsa⟩:=h
 have af6:∀r∈d.res,bw (oB.F (d.cs++(.s (bs r.fs)::(r.up.cs++r.down.cs)))) (r.fault d.cd):=fun r hr=>arq d r (hre r hr) hn
 have VR:∀s∈d.starts,bw (vi.F (d.cs++s.cs)) (s.ok d):=fun s hs=>asG d s hn (hsa s hs) fun r hr=>(hrt r hr).1
 have azQ:=awm d hn
 rw[adU]
 unfold dL.cs at*
 simp only[cons_append,nil_append,oO.aA,xB.cs]at af6 VR
 simp only[HH,av,Nat.reduceAdd]
 refine bw.ite (fun _=>bw.bad (by decide)) fun aCo=> ?_
 refine eX (S:=Sc) (fun i s=>[.i (i:Int),s]) (fun i _=>kN (fh.ok) d.vars i) d.vars.length (s:=_) rfl (by omega) kN.zero (fun i s rec hi hI hr=> ?_) (fun aE2 aAW ah5=> ?_)
 ·obtain⟨x,hx⟩:=aV hi
  have bN:(i:Int)<d.vars.length:=by omega
  obtain⟨y,n1,n2⟩:=nf x.nm
  obtain⟨b,b1,b2⟩:=ahZ x.ty x.n
  simp only[ay hx,fh.cs,bN,cC,Vx,Vy,n1,aex,b1,aJ (k:=i) (by omega),av,Nat.reduceAdd]
  refine bw.ite (fun hz=>bw.bad hz) fun hz=>bw.ite (fun _=>bw.bad (by decide)) fun _=>bw.ite (fun _=>bw.bad (by decide)) fun c1=>bw.ite (fun _=>bw.bad (by decide)) fun c2=> ?_
  exact hr _ (hI.succ hx ⟨n2 (by omega),by simpa using c1,b2 (by simpa using c2)⟩)
 replace ah5:=ah5.all
 simp only[Int.lt_irrefl,av]
 refine bw.ite (fun _=>bw.bad (by decide)) fun aFm=> ?_
 refine eX (S:=Sc) (fun i s=>[.i (i:Int),s]) (fun i _=>kN (oP.ok d) d.res i) d.res.length (s:=_) rfl (by omega) kN.zero (fun i s rec hi hI hr=> ?_) (fun aGl aB7 anC=> ?_)
 ·obtain⟨x,hx⟩:=aV hi
  have bN:(i:Int)<d.res.length:=by omega
  obtain⟨y,n1,n2⟩:=nf x.nm
  obtain⟨b,b1,b2⟩:=asw x (hre x (aM hx))
  obtain⟨c,d1,d2⟩:=af6 x (aM hx)
  simp only[oP.aA]at b1
  simp only[ay hx,oP.aA,bN,cC,AC,Vs,Vt,n1,lg,b1,d1,aJ (k:=i) (by omega),av,Nat.reduceAdd]
  refine bw.ite (fun hz=>bw.bad hz) fun hz=>bw.ite (fun _=>bw.bad (by decide)) fun _=>bw.ite (fun _=>bw.bad (by decide)) fun c1=>bw.ite (fun h=>bw.bad h) fun c2=>bw.ite (fun h=>bw.bad h) fun c3=> ?_
  exact hr _ (hI.succ hx ⟨n2 (by omega),by simpa using c1,b2 (by omega),d2 (by omega)⟩)
 replace anC:=anC.all
 simp only[Int.lt_irrefl,av]
 refine bw.ite (fun _=>bw.bad (by decide)) fun ayg=> ?_
 refine eX (S:=Sc) (fun i s=>[.i (i:Int),s]) (fun i _=>kN (xg.ok) d.cU i) d.cU.length (s:=_) rfl (by omega) kN.zero (fun i s rec hi hI hr=> ?_) (fun aA1 aw4 ZV=> ?_)
 ·obtain⟨x,hx⟩:=aV hi
  have bN:(i:Int)<d.cU.length:=by omega
  obtain⟨y,n1,n2⟩:=nf x.nm
  simp only[ay hx,xg.cs,bN,cC,AC,n1,lg,aJ (k:=i) (by omega),av,Nat.reduceAdd]
  refine bw.ite (fun hz=>bw.bad hz) fun hz=>bw.ite (fun _=>bw.bad (by decide)) fun _=>bw.ite (fun _=>bw.bad (by decide)) fun c1=>bw.ite (fun _=>bw.bad (by decide)) fun c2=>bw.ite (fun _=>bw.bad (by decide)) fun c3=> ?_
  exact hr _ (hI.succ hx ⟨n2 (by omega),by simpa using c1,by unfold vg;omega⟩)
 replace ZV:=ZV.all
 simp only[Int.lt_irrefl,av]
 refine bw.ite (fun _=>bw.bad (by decide)) fun aBt=> ?_
 refine eX (S:=Sc) (fun i s=>[.i (i:Int),s]) (fun i _=>kN (CO.ok) d.kX i) d.kX.length (s:=_) rfl (by omega) kN.zero (fun i s rec hi hI hr=> ?_) (fun aB9 ax2 aef=> ?_)
 ·obtain⟨x,hx⟩:=aV hi
  have bN:(i:Int)<d.kX.length:=by omega
  obtain⟨y,n1,n2⟩:=nf x.nm
  simp only[ay hx,CO.cs,bN,cC,AC,n1,lg,aJ (k:=i) (by omega),av,Nat.reduceAdd]
  refine bw.ite (fun hz=>bw.bad hz) fun hz=>bw.ite (fun _=>bw.bad (by decide)) fun _=>bw.ite (fun _=>bw.bad (by decide)) fun c1=>bw.ite (fun _=>bw.bad (by decide)) fun c2=> ?_
  exact hr _ (hI.succ hx ⟨n2 (by omega),by simpa using c1,by simpa using c2⟩)
 replace aef:=aef.all
 simp only[Int.lt_irrefl,av]
 refine bw.ite (fun _=>bw.bad (by decide)) fun aye=> ?_
 refine EO (xs:=d.fc) rfl (by omega) (fun i x s rec z hx n1=>⟨fun hz=> ?_,fun hz=> ?_⟩) (fun anB aA0 aw2=> ?_)
 ·have bN:(i:Int)<d.fc.length:=by have:=bp hx;omega
  simp only[ay hx,bN,cC,n1,hz,av,Nat.reduceAdd]
 ·have bN:(i:Int)<d.fc.length:=by have:=bp hx;omega
  simp only[ay hx,bN,cC,n1,hz,aJ (k:=i) (by have:=bp hx;omega),av,Nat.reduceAdd]
 simp only[Int.lt_irrefl,av]
 refine bw.ite (fun _=>bw.bad (by decide)) fun axE=> ?_
 refine EO (xs:=d.cd) rfl (by omega) (fun i x s rec z hx n1=>⟨fun hz=> ?_,fun hz=> ?_⟩) (fun alc ax3 auB=> ?_)
 ·have bN:(i:Int)<d.cd.length:=by have:=bp hx;omega
  simp only[ay hx,bN,cC,n1,hz,av,Nat.reduceAdd]
 ·have bN:(i:Int)<d.cd.length:=by have:=bp hx;omega
  simp only[ay hx,bN,cC,n1,hz,aJ (k:=i) (by have:=bp hx;omega),av,Nat.reduceAdd]
 simp only[Int.lt_irrefl,av]
 refine bw.ite (fun _=>bw.bad (by decide)) fun axF=> ?_
 refine EO (xs:=d.de) rfl (by omega) (fun i x s rec z hx n1=>⟨fun hz=> ?_,fun hz=> ?_⟩) (fun ald ax4 auC=> ?_)
 ·have bN:(i:Int)<d.de.length:=by have:=bp hx;omega
  simp only[ay hx,bN,cC,n1,hz,av,Nat.reduceAdd]
 ·have bN:(i:Int)<d.de.length:=by have:=bp hx;omega
  simp only[ay hx,bN,cC,n1,hz,aJ (k:=i) (by have:=bp hx;omega),av,Nat.reduceAdd]
 simp only[Int.lt_irrefl,av]
 refine bw.ite (fun _=>bw.bad (by decide)) fun ayd=> ?_
 refine EO (xs:=d.levels) rfl (by omega) (fun i x s rec z hx n1=>⟨fun hz=> ?_,fun hz=> ?_⟩) (fun anA aAZ aw1=> ?_)
 ·have bN:(i:Int)<d.levels.length:=by have:=bp hx;omega
  simp only[ay hx,bN,cC,n1,hz,av,Nat.reduceAdd]
 ·have bN:(i:Int)<d.levels.length:=by have:=bp hx;omega
  simp only[ay hx,bN,cC,n1,hz,aJ (k:=i) (by have:=bp hx;omega),av,Nat.reduceAdd]
 simp only[Int.lt_irrefl,av]
 refine bw.ite (fun _=>bw.bad (by decide)) fun ayc=> ?_
 refine EO (xs:=d.counts) rfl (by omega) (fun i x s rec z hx n1=>⟨fun hz=> ?_,fun hz=> ?_⟩) (fun anz aAY aw0=> ?_)
 ·have bN:(i:Int)<d.counts.length:=by have:=bp hx;omega
  simp only[ay hx,bN,cC,n1,hz,av,Nat.reduceAdd]
 ·have bN:(i:Int)<d.counts.length:=by have:=bp hx;omega
  simp only[ay hx,bN,cC,n1,hz,aJ (k:=i) (by have:=bp hx;omega),av,Nat.reduceAdd]
 simp only[Int.lt_irrefl,av]
 refine bw.ite (fun _=>bw.bad (by decide)) fun aFn=> ?_
 refine eX (S:=Sc) (fun i s=>[.i (i:Int),s]) (fun i _=>kN (fun x:jv=>Name x.nm/\x.ok) d.nh i) d.nh.length (s:=_) rfl (by omega) kN.zero (fun i s rec hi hI hr=> ?_) (fun aGm aB8 anD=> ?_)
 ·obtain⟨x,hx⟩:=aV hi
  have bN:(i:Int)<d.nh.length:=by omega
  obtain⟨y,n1,n2⟩:=nf x.nm
  obtain⟨b,b1,b2⟩:=alL x (hrt x (aM hx))
  simp only[jv.cs]at b1
  simp only[ay hx,jv.cs,bN,cC,Vu,n1,b1,aJ (k:=i) (by omega),av,Nat.reduceAdd]
  refine bw.ite (fun hz=>bw.bad hz) fun hz=>bw.ite (fun _=>bw.bad (by decide)) fun _=>bw.ite (fun h=>bw.bad h) fun c1=> ?_
  exact hr _ (hI.succ hx ⟨n2 (by omega),b2 (by omega)⟩)
 replace anD:=anD.all
 simp only[Int.lt_irrefl,av]
 refine bw.ite (fun _=>bw.bad (by decide)) fun ayf=> ?_
 refine eX (S:=Unit) (fun i _=>[.i (i:Int)]) (fun i _=>kN (xB.ok d) d.starts i) d.starts.length (s:=()) rfl (by omega) kN.zero (fun i s rec hi hI hr=> ?_) (fun _ aw3 ZU=> ?_)
 ·obtain⟨x,hx⟩:=aV hi
  have bN:(i:Int)<d.starts.length:=by omega
  obtain⟨b,b1,b2⟩:=VR x (aM hx)
  simp only[ay hx,xB.cs,bN,Vv,b1,aJ (k:=i) (by omega),av,Nat.reduceAdd]
  exact bw.ite (fun h=>bw.bad h) fun c1=>hr () (hI.succ hx (b2 (by omega)))
 replace ZU:=ZU.all
 obtain⟨z,l1,l2⟩:=azQ
 simp only[Int.lt_irrefl,Vw,l1,av,Nat.reduceAdd]
 refine bw.ite (fun h=>bw.bad h) fun aCn=>bw.some fun _=> ?_
 have l2:=l2 (by omega)
 exact⟨by omega,ah5,by omega,anC,by omega,ZV,by omega,aef,by omega,anB,by omega,alc,by omega,ald,by omega,anA,by omega,anz,by omega,anD,by omega,ZU,l2.1,l2.2⟩
def kL.lb (m:kL):Prop:=Lb m.params.length/\Lb m.sites.length/\Lb m.iH.length/\∀s∈m.sites,s.lb
def HR.ok (m:kL) (l:HR):Prop:=(∃s∈m.sites,s.nm=l.from_)/\(∃s∈m.sites,s.nm=l.aJL)/\vg 1 1000000000 l.ue
theorem Un (m:kL) (hl:Lb m.sites.length) (w:Bs):fV.F (m.cs++[.s (bs w)])=some [.i (cN (fun r:dL=>decide (r.nm=w)) m.sites)]:=by
 rw[Tc]
 unfold kL.cs
 simp only[HF,av,Nat.reduceAdd]
 rw[OE (xs:=m.sites) (fun r:dL=>decide (r.nm=w)) (fun i=>some [.i (i:Int)]) (some [.i (-1)]) rfl hl]
 ·unfold cN;cases m.sites.findIdx? _<;>rfl
 ·intro i x rec hx hp
  have hi:=bp hx
  have bN:(i:Int)<m.sites.length:=by omega
  have hp:x.nm=w:=of_decide_eq_true hp
  simp only[ay hx,dL.cs,bN,hp,av]
 ·intro i x rec hx hp
  have hi:=bp hx
  unfold Lb at hl
  have bN:(i:Int)<m.sites.length:=by omega
  have hp:¬x.nm=w:=of_decide_eq_false hp
  simp only[ay hx,dL.cs,bN,hp,aJ (k:=i) (by omega),av]
 ·intro rec
  simp only[Int.lt_irrefl,av]
theorem acT {m:kL}{w:Bs} (h:¬cN (fun r:dL=>decide (r.nm=w)) m.sites<0):∃s∈m.sites,s.nm=w:=by
 obtain⟨j,r,_,e2,e3⟩:=EW (by omega:0<=cN (fun r:dL=>decide (r.nm=w)) m.sites)
 exact⟨r,aM e2,of_decide_eq_true e3⟩
theorem ar0 (m:kL) (h:m.lb):bw (Bc.F m.cs) (m.iH.length<=32/\∀l∈m.iH,l.ok m):=by
 have hx:=Un m h.2.1
 have hl:=h.2.2.1
 unfold Lb at hl
 rw[abB]
 unfold kL.cs at*
 simp only[cons_append,nil_append]at hx
 simp only[E6,av,Nat.reduceAdd]
 refine bw.ite (fun _=>bw.bad (by decide)) fun c1=> ?_
 refine eX (S:=Sc) (fun i s=>[.i (i:Int),s]) (fun i _=>kN (HR.ok m) m.iH i) m.iH.length (s:= .l []) rfl (by omega) kN.zero (fun i s rec hi hI hr=> ?_) (fun _ rec hI=> ?_)
 ·obtain⟨x,hx'⟩:=aV hi
  have bN:(i:Int)<m.iH.length:=by omega
  simp only[ay hx',HR.cs,bN,Vr,Tu,hx,lg,aJ (k:=i) (by omega),av,Nat.reduceAdd]
  refine bw.ite (fun _=>bw.bad (by decide)) fun c1=>bw.ite (fun _=>bw.bad (by decide)) fun c2=>bw.ite (fun _=>bw.bad (by decide)) fun c3=>bw.ite (fun _=>bw.bad (by decide)) fun c4=>bw.ite (fun _=>bw.bad (by decide)) fun c5=> ?_
  exact hr _ (hI.succ hx' ⟨acT c1,acT c2,by simpa using c4⟩)
 ·simp only[Int.lt_irrefl,av]
  exact bw.some fun _=>⟨by omega,hI.all⟩
structure kL.ok (m:kL):Prop where
 nm:Name m.nm
 pl:m.params.length<=32
 p:∀x∈m.params,x.ok
 s0:m.sites≠[]
 sl:m.sites.length<=16
 s:∀x∈m.sites,Name x.nm/\x.ok
 ll:m.iH.length<=32
 l:∀x∈m.iH,x.ok m
theorem agq (m:kL) (h:m.lb):bw (fQ.F m.cs) m.ok:=by
 obtain⟨zl,l1,l2⟩:=ar0 m h
 have Z8:∀s∈m.sites,bw (yd.F s.cs) s.ok:=fun s hs=>axl s (h.2.2.2 s hs)
 obtain⟨zn,n1,n2⟩:=nf m.nm
 have e0:=alm m.sites
 rw[aby]
 unfold kL.cs at*
 by_cases hz:zn=0
 rotate_left
 ·simp only[y8,Ir,n1,hz,av,Nat.reduceAdd]
  exact bw.bad hz
 subst hz
 have n2:=n2 rfl
 simp only[y8,Ir,n1,av,Nat.reduceAdd]
 refine bw.ite (fun _=>bw.bad (by decide)) fun c1=> ?_
 refine eX (S:=Sc) (fun i s=>[.i (i:Int),s]) (fun i _=>kN fh.ok m.params i) m.params.length (s:= .l []) rfl (by omega) kN.zero (fun i s rec hi hI hr=> ?_) (fun s2 CE hP=> ?_)
 ·obtain⟨x,hx⟩:=aV hi
  have bN:(i:Int)<m.params.length:=by omega
  obtain⟨y,p1,p2⟩:=nf x.nm
  obtain⟨b,b1,b2⟩:=ahZ x.ty x.n
  by_cases hy:y=0
  rotate_left
  ·simp only[ay hx,fh.cs,bN,p1,hy,av,Nat.reduceAdd]
   exact bw.bad hy
  subst hy
  simp only[ay hx,fh.cs,bN,Tr,Ts,p1,aex,b1,aJ (k:=i) (by omega),av,Nat.reduceAdd]
  refine bw.ite (fun _=>bw.bad (by decide)) fun _=>bw.ite (fun _=>bw.bad (by decide)) fun c1=>bw.ite (fun _=>bw.bad (by decide)) fun c2=> ?_
  exact hr _ (hI.succ hx ⟨p2 rfl,by simpa using c1,b2 (by simpa using c2)⟩)
 replace hP:=hP.all
 simp only[Int.lt_irrefl,e0,av]
 refine bw.ite (fun _=>bw.bad (by decide)) fun c2=>bw.ite (fun _=>bw.bad (by decide)) fun c3=> ?_
 refine eX (S:=Sc) (fun i s=>[.i (i:Int),s]) (fun i _=>kN (fun x:dL=>Name x.nm/\x.ok) m.sites i) m.sites.length (s:= .l []) rfl (by omega) kN.zero (fun i s rec hi hI hr=> ?_) (fun s3 agH hS=> ?_)
 ·obtain⟨x,hx⟩:=aV hi
  have bN:(i:Int)<m.sites.length:=by omega
  obtain⟨y,p1,p2⟩:=nf x.nm
  obtain⟨b,b1,b2⟩:=Z8 x (aM hx)
  unfold dL.cs at b1
  by_cases hy:y=0
  rotate_left
  ·simp only[ay hx,dL.cs,bN,p1,hy,av,Nat.reduceAdd]
   exact bw.bad hy
  subst hy
  by_cases hb:b=0
  rotate_left
  ·simp only[ay hx,dL.cs,bN,It,p1,b1,hb,av,Nat.reduceAdd]
   exact bw.ite (fun _=>bw.bad (by decide)) fun _=>bw.bad hb
  subst hb
  simp only[ay hx,dL.cs,bN,It,p1,b1,aJ (k:=i) (by omega),av,Nat.reduceAdd]
  exact bw.ite (fun _=>bw.bad (by decide)) fun _=>hr _ (hI.succ hx ⟨p2 rfl,b2 rfl⟩)
 replace hS:=hS.all
 simp only[Int.lt_irrefl,Vn,l1,av,Nat.reduceAdd]
 exact bw.some fun h0=>⟨n2,by omega,hP,c2,by omega,hS,(l2 h0).1,(l2 h0).2⟩
theorem afF (xs:List fh) (hl:Lb xs.length):jG.F [ae fh.cs xs,ae fh.cs xs]=some [.b true]:=by
 unfold Lb at hl
 rw[GM]
 simp only[mN,av,Nat.reduceAdd]
 refine cu (fun i=>[.i (i:Int)]) xs.length rfl (by omega) (fun i hi rec=> ?_) (fun rec=> ?_)
 ·obtain⟨x,hx⟩:=aV hi
  have bN:(i:Int)<xs.length:=by omega
  simp only[ay hx,fh.cs,bN,aJ (k:=i) (by omega),av]
 ·simp only[Int.lt_irrefl,av]
theorem anf (xs:List HR) (hl:Lb xs.length):ku.F [ae HR.cs xs,ae HR.cs xs]=some [.b true]:=by
 unfold Lb at hl
 rw[Ig]
 simp only[nG,av,Nat.reduceAdd]
 refine cu (fun i=>[.i (i:Int)]) xs.length rfl (by omega) (fun i hi rec=> ?_) (fun rec=> ?_)
 ·obtain⟨x,hx⟩:=aV hi
  have bN:(i:Int)<xs.length:=by omega
  simp only[ay hx,HR.cs,bN,aJ (k:=i) (by omega),av]
 ·simp only[Int.lt_irrefl,av]
theorem ang (xs:List xg) (hl:Lb xs.length):fW.F [ae xg.cs xs,ae xg.cs xs]=some [.b true]:=by
 unfold Lb at hl
 rw[Cu]
 simp only[j8,av,Nat.reduceAdd]
 refine cu (fun i=>[.i (i:Int)]) xs.length rfl (by omega) (fun i hi rec=> ?_) (fun rec=> ?_)
 ·obtain⟨x,hx⟩:=aV hi
  have bN:(i:Int)<xs.length:=by omega
  simp only[ay hx,xg.cs,bN,aJ (k:=i) (by omega),av]
 ·simp only[Int.lt_irrefl,av]
theorem anc (xs:List CO) (hl:Lb xs.length):ig.F [ae CO.cs xs,ae CO.cs xs]=some [.b true]:=by
 unfold Lb at hl
 rw[DG]
 simp only[kS,av,Nat.reduceAdd]
 refine cu (fun i=>[.i (i:Int)]) xs.length rfl (by omega) (fun i hi rec=> ?_) (fun rec=> ?_)
 ·obtain⟨x,hx⟩:=aV hi
  have bN:(i:Int)<xs.length:=by omega
  simp only[ay hx,CO.cs,bN,aJ (k:=i) (by omega),av]
 ·simp only[Int.lt_irrefl,av]
theorem ane (xs:List QQ) (hl:Lb xs.length):iX.F [ae QQ.cs xs,ae QQ.cs xs]=some [.b true]:=by
 unfold Lb at hl
 rw[Fo]
 simp only[mc,av,Nat.reduceAdd]
 refine cu (fun i=>[.i (i:Int)]) xs.length rfl (by omega) (fun i hi rec=> ?_) (fun rec=> ?_)
 ·obtain⟨x,hx⟩:=aV hi
  have bN:(i:Int)<xs.length:=by omega
  simp only[ay hx,QQ.cs,bN,aJ (k:=i) (by omega),av]
 ·simp only[Int.lt_irrefl,av]
theorem afE (xs:List io) (hl:Lb xs.length):jE.F [ae io.cs xs,ae io.cs xs]=some [.b true]:=by
 unfold Lb at hl
 rw[GL]
 simp only[mM,av,Nat.reduceAdd]
 refine cu (fun i=>[.i (i:Int)]) xs.length rfl (by omega) (fun i hi rec=> ?_) (fun rec=> ?_)
 ·obtain⟨x,hx⟩:=aV hi
  have bN:(i:Int)<xs.length:=by omega
  simp only[ay hx,io.cs,bN,aJ (k:=i) (by omega),av]
 ·simp only[Int.lt_irrefl,av]
theorem anh (xs:List rR) (hl:Lb xs.length):kv.F [ae rR.cs xs,ae rR.cs xs]=some [.b true]:=by
 unfold Lb at hl
 rw[Ih]
 simp only[nH,av,Nat.reduceAdd]
 refine cu (fun i=>[.i (i:Int)]) xs.length rfl (by omega) (fun i hi rec=> ?_) (fun rec=> ?_)
 ·obtain⟨x,hx⟩:=aV hi
  have bN:(i:Int)<xs.length:=by omega
  simp only[ay hx,rR.cs,bN,aJ (k:=i) (by omega),av]
 ·simp only[Int.lt_irrefl,av]
theorem anb (xs:List ArD) (hl:Lb xs.length):lB.F [ae ArD.cs xs,ae ArD.cs xs]=some [.b true]:=by
 unfold Lb at hl
 rw[J7]
 simp only[oN,av,Nat.reduceAdd]
 refine cu (fun i=>[.i (i:Int)]) xs.length rfl (by omega) (fun i hi rec=> ?_) (fun rec=> ?_)
 ·obtain⟨x,hx⟩:=aV hi
  have bN:(i:Int)<xs.length:=by omega
  simp only[ay hx,ArD.cs,bN,aJ (k:=i) (by omega),av]
 ·simp only[Int.lt_irrefl,av]
theorem S3 (xs:xm) (hl:Lb xs.length):ii.F [am xs,am xs]=some [.b true]:=by
 unfold Lb at hl
 rw[DH]
 simp only[kT,av,Nat.reduceAdd]
 refine cu (fun i=>[.i (i:Int)]) xs.length rfl (by omega) (fun i hi rec=> ?_) (fun rec=> ?_)
 ·obtain⟨x,hx⟩:=aV hi
  have bN:(i:Int)<xs.length:=by omega
  simp only[ay hx,bN,aJ (k:=i) (by omega),av]
 ·simp only[Int.lt_irrefl,av]
theorem asv:∀(l:kb) (k:Nat),ax.im l<k->ax.im l<1000000->ax.smL l->tC k 157 [ae ax.cs l,ae ax.cs l]=some [.b true]:=by
 refine ax.X8 fun l ih k hk hb hsm=> ?_
 obtain⟨k,rfl⟩:∃j,k=j+1:=⟨k-1,by omega⟩
 have hln:=ax.pk l
 rw[aec]
 simp only[K4,av,Nat.reduceAdd]
 refine cu (fun i=>[.i (i:Int)]) l.length rfl (by omega) (fun i hi rec=> ?_) (fun rec=> ?_)
 ·obtain⟨x,hx⟩:=aV hi
  have hm:=aM hx
  have bN:(i:Int)<l.length:=by omega
  obtain⟨Rv,hx2,hx3⟩:=(ax.Wc x).1 ((ax.Gr l).1 hsm x hm)
  obtain⟨b1,b2⟩:=ax.vw hm
  have q1:=ih x.body b1 k (by omega) (by omega) hx2
  have q2:=ih x.fG b2 k (by omega) (by omega) hx3
  obtain⟨he,hf,ha,hal,hd⟩:=Rv
  have e1:=Jy x.e he
  have f1:=Jy x.f hf
  have d1:=Yo x.d hd
  simp only[aj.aA,oO.aA,cons_append,nil_append]at e1 f1 d1
  simp only[ay hx,ax.aA x,bN,V5,V4,e1,f1,d1,av,Nat.reduceAdd]
  refine cu (fun i=>[.i (i:Int)]) x.args.length rfl (by omega) (fun j hj CE=> ?_) (fun CE=> ?_)
  ·obtain⟨y,hy⟩:=aV hj
   have W8:(j:Int)<x.args.length:=by omega
   have g1:=Jy y (ha y (aM hy))
   simp only[aj.aA y,cons_append,nil_append]at g1
   simp only[ay hy,aj.aA y,W8,g1,aJ (k:=j) (by omega),av,Nat.reduceAdd]
  ·simp only[Int.lt_irrefl,q1,q2,aJ (k:=i) (by omega),av,Nat.reduceAdd]
 ·simp only[Int.lt_irrefl,av]
theorem apJ (l:kb) (h1:ax.im l<1000000) (h2:ax.smL l):Gf.F [ae ax.cs l,ae ax.cs l]=some [.b true]:=by
 rw[ab6]
 exact asv l _ (by unfold aF;omega) h1 h2
theorem alR (r:oP) (h:r.lb):mY.F (r.cs++r.cs)=some [.b true]:=by
 have h1:=ane r.shift h.1
 have h2:=Yo r.up h.2.1
 have h3:=Yo r.down h.2.2
 simp only[oO.aA,cons_append,nil_append]at h2 h3
 rw[Nf,oP.aA]
 simp only[qT,GU,GV,h1,h2,h3,av,Nat.reduceAdd]
theorem apH (r:jv) (h:r.lb):nO.F (r.cs++r.cs)=some [.b true]:=by
 have h1:=afE r.params h.1
 have h2:=afE r.locals h.2.1
 have h3:=apJ r.body h.2.2.1 h.2.2.2
 rw[O2]
 unfold jv.cs
 simp only[sW,Iw,Ix,h1,h2,h3,av,Nat.reduceAdd]
theorem apI (s:xB) (h:Lb s.args.length):rG.F (s.cs++s.cs)=some [.b true]:=by
 have h1:=S2 s.args h
 rw[Td]
 unfold xB.cs
 simp only[wh,Mk,h1,av,Nat.reduceAdd]
theorem apG (l:zC) (h:Lb l.dK.length):vI.F (l.cs++l.cs)=some [.b true]:=by
 have h1:=anh l.dK h
 rw[XE]
 unfold zC.cs
 simp only[AV,Ps,h1,av,Nat.reduceAdd]
def kL.lb2 (m:kL):Prop:=m.lb/\∀d∈m.sites,∀l∈d.laws,Lb l.dK.length
theorem akb (m:kL) (h:m.lb2):pe.F (m.cs++m.cs)=some [.b true]:=by
 obtain⟨⟨h1,h2,h3,h4⟩,h5⟩:=h
 have p1:=afF m.params h1
 have p2:=anf m.iH h3
 unfold Lb at h2
 rw[adR]
 unfold kL.cs
 simp only[HE,XP,p1,av,Nat.reduceAdd]
 refine cu (fun i=>[.i (i:Int)]) m.sites.length rfl (by omega) (fun i hi rec=> ?_) (fun rec=> ?_)
 ·obtain⟨d,hx⟩:=aV hi
  have hm:=aM hx
  have bN:(i:Int)<m.sites.length:=by omega
  obtain⟨hn,hre,hrt,hsa⟩:=h4 d hm
  have hla:=h5 d hm
  obtain⟨a1,a2,a3,a4,a5,a6,a7,a8,a9,a10,a11,a12⟩:=hn
  have e1:=afF d.vars a1
  have e3:=ang d.cU a3
  have e4:=anc d.kX a4
  have e5:=S3 d.fc a5
  have e6:=S3 d.cd a6
  have e7:=S3 d.de a7
  have e8:=S3 d.levels a8
  have e9:=S3 d.counts a9
  unfold Lb at a2 a10 a11 a12
  simp only[ay hx,dL.cs,bN,e1,av,Nat.reduceAdd]
  refine cu (fun i=>[.i (i:Int)]) d.res.length rfl (by omega) (fun j hj CE=> ?_) (fun CE=> ?_)
  ·obtain⟨y,hy⟩:=aV hj
   have W8:(j:Int)<d.res.length:=by omega
   have g1:=alR y (hre y (aM hy))
   simp only[oP.aA,cons_append,nil_append]at g1
   simp only[ay hy,oP.aA,W8,XR,g1,aJ (k:=j) (by omega),av,Nat.reduceAdd]
  simp only[Int.lt_irrefl,XT,XU,XV,e3,e4,e5,e6,e7,e8,e9,av,Nat.reduceAdd]
  refine cu (fun i=>[.i (i:Int)]) d.nh.length rfl (by omega) (fun j hj CE=> ?_) (fun CE=> ?_)
  ·obtain⟨y,hy⟩:=aV hj
   have W8:(j:Int)<d.nh.length:=by omega
   have g1:=apH y (hrt y (aM hy))
   simp only[jv.cs,cons_append,nil_append]at g1
   simp only[ay hy,jv.cs,W8,XW,g1,aJ (k:=j) (by omega),av,Nat.reduceAdd]
  simp only[Int.lt_irrefl,av]
  refine cu (fun i=>[.i (i:Int)]) d.starts.length rfl (by omega) (fun j hj CE=> ?_) (fun CE=> ?_)
  ·obtain⟨y,hy⟩:=aV hj
   have W8:(j:Int)<d.starts.length:=by omega
   have g1:=apI y (hsa y (aM hy))
   simp only[xB.cs,cons_append,nil_append]at g1
   simp only[ay hy,xB.cs,W8,XX,g1,aJ (k:=j) (by omega),av,Nat.reduceAdd]
  simp only[Int.lt_irrefl,av]
  refine cu (fun i=>[.i (i:Int)]) d.laws.length rfl (by omega) (fun j hj CE=> ?_) (fun CE=> ?_)
  ·obtain⟨y,hy⟩:=aV hj
   have W8:(j:Int)<d.laws.length:=by omega
   have g1:=apG y (hla y (aM hy))
   simp only[zC.cs,cons_append,nil_append]at g1
   simp only[ay hy,zC.cs,W8,XY,g1,aJ (k:=j) (by omega),av,Nat.reduceAdd]
  simp only[Int.lt_irrefl,aJ (k:=i) (by omega),av]
 ·simp only[Int.lt_irrefl,XQ,p2,av,Nat.reduceAdd]
section
open Go.ChangeShapes Go.WideShapes Go.ChangeAt Go.RowKit
section
variable {H:Type}
theorem amR (d:DataW H):1<=Rows.uptoBulk d:=by
 cases d with
 |lit l=>cases l<;>simp[Rows.uptoBulk]
 |nil=>simp[Rows.uptoBulk]
 |ptr d=>simp[Rows.uptoBulk]
 |slice elems spare=>simp[Rows.uptoBulk]
 |agg parts=>simp[Rows.uptoBulk]
 |iface t d=>simp[Rows.uptoBulk]
 |map entries=>simp[Rows.uptoBulk]
 |held h=>simp[Rows.uptoBulk]
theorem act {d:DataW H}:∀{l:List (DataW H)},d∈l->Rows.uptoBulk d<=Rows.uptoBulkAll l
 |x::r,h=>by
  simp only[Rows.uptoBulkAll]
  rcases mem_cons.1 h with rfl|h
  ·omega
  ·have:=act h;omega
theorem Zg {X:Type}{cX:X->Sc}{W:X->Nat}{R:X->Prop}:∀{l:List (DataW H)},(∀d∈l,∃x,Xx (ij d) (iJ d)=cX x/\W x<=Rows.uptoBulk d/\R x)->∃xs:List X,Xi l=xs.map cX/\(xs.map W).sum<=Rows.uptoBulkAll l/\xs.length<=Rows.uptoBulkAll l/\∀x∈xs,R x
 |[],_=>⟨[],by simp[Xi],by simp,by simp,fun x h=>by cases h⟩
 |d::r,h=>by
  obtain⟨x,h1,h2,h3⟩:=h d (mem_cons_self ..)
  obtain⟨xs,i1,i2,i3,i4⟩:=Zg (l:=r) fun d hd=>h d (mem_cons_of_mem _ hd)
  have:=amR d
  refine⟨x::xs,by rw[Xi,h1,i1];rfl,by simp only[map_cons,sum_cons,Rows.uptoBulkAll];omega,by simp only[length_cons,Rows.uptoBulkAll];omega,fun y hy=> ?_⟩
  rcases mem_cons.1 hy with rfl|hy
  ·exact h3
  ·exact i4 y hy
end
def BN:Nat:=1048576
theorem JB {α:Type}{f:α->Nat}:∀l:List α,(l.map fun x=>2*f x).sum=2*(l.map f).sum
 |[]=>rfl
 |x::r=>by simp only[map_cons,sum_cons];rw[JB r];omega
section
variable {w:World}{base:Nat}{H:Type}{enc:TypeId×Value->H}{spare:Nat->Bool}{held:Bool}
abbrev Rdt (enc:TypeId×Value->H) (w:World) (base:Nat) (spare:Nat->Bool) (held:Bool) (n:Nat) (t:TypeId) (d:DataW H):Prop:=Rd1 enc Tryz.prog w base spare held n t d
theorem lE {X:Type}{cX:X->aP}{W:X->Nat}{R:X->Prop}{n:Nat}{t e:TypeId}{d:DataW H} (hu:Tryz.prog.underlying t=some (.slice e)) (h:Rdt enc w base spare held n t d) (hb:Rows.uptoBulk d<=BN)
 (NK:∀m,m<n->∀d:DataW H,Rdt enc w base spare held m e d->Rows.uptoBulk d<=BN->∃x,iJ d=cX x/\ij d=true/\W x<=Rows.uptoBulk d/\R x):
 ∃xs:List X,iJ d=[ae cX xs]/\(xs.map W).sum+1<=Rows.uptoBulk d/\xs.length+1<=Rows.uptoBulk d/\∀x∈xs,R x:=by
 rcases h.slice hu with rfl|⟨m,elems,sp,rfl,rfl,hx⟩
 ·exact⟨[],by simp[iJ,ae],by simp[Rows.uptoBulk],by simp[Rows.uptoBulk],fun x h=>by cases h⟩
 ·simp only[Rows.uptoBulk]at hb⊢
  obtain⟨xs,i1,i2,i3,i4⟩:=Zg (cX:=fun x=>Sc.l (cX x)) (W:=W) (R:=R) (l:=elems) fun d hd=>by
   obtain⟨x,q1,q2,q3,q4⟩:=NK m (lt_succ_self m) d (hx d hd) (by have:=act hd;omega)
   exact⟨x,by rw[q1,q2];rfl,q3,q4⟩
  exact⟨xs,by rw[iJ,i1];rfl,by omega,by omega,i4⟩
theorem agG {X:Type}{cX:X->Sc}{n:Nat}{t e:TypeId}{d:DataW H} (hu:Tryz.prog.underlying t=some (.slice e)) (h:Rdt enc w base spare held n t d)
 (NK:∀m,∀d:DataW H,Rdt enc w base spare held m e d->∃x,iJ d=[cX x]/\ij d=false):
 ∃xs:List X,iJ d=[.l (xs.map cX)]/\xs.length+1<=Rows.uptoBulk d:=by
 rcases h.slice hu with rfl|⟨m,elems,sp,rfl,rfl,hx⟩
 ·exact⟨[],by simp[iJ],by simp[Rows.uptoBulk]⟩
 ·simp only[Rows.uptoBulk]
  obtain⟨xs,i1,i2,i3,i4⟩:=Zg (cX:=cX) (W:=fun _=>0) (R:=fun _=>True) (l:=elems) fun d hd=>by
   obtain⟨x,q1,q2⟩:=NK m d (hx d hd)
   exact⟨x,by rw[q1,q2];rfl,zero_le _,trivial⟩
  exact⟨xs,by rw[iJ,i1],by omega⟩
theorem aeP {n:Nat}{d:DataW H} (h:Rdt enc w base spare held n 107 d):∃xs:uD,iJ d=[bY xs]/\xs.length+1<=Rows.uptoBulk d:=
 agG (cX:=Sc.i) Tryz.underlying107 h fun m d hd=>by
  obtain⟨z,rfl⟩:=hd.int Tryz.underlying3
  exact⟨z,by simp[iJ],rfl⟩
theorem Uj {n:Nat}{d:DataW H} (h:Rdt enc w base spare held n 45 d):∃xs:xm,iJ d=[am xs]/\xs.length+1<=Rows.uptoBulk d:=
 agG (cX:=fun x:Bs=>Sc.s (bs x)) Tryz.underlying45 h fun m d hd=>by
  obtain⟨z,rfl⟩:=hd.str Tryz.underlying9
  exact⟨z,by simp[iJ,bs],rfl⟩
theorem aiH {n:Nat}{d:DataW H} (h:Rdt enc w base spare held n 109 d) (hb:Rows.uptoBulk d<=BN):∃x:oO,iJ d=x.cs/\ij d=true/\(fun _=>0) x<=Rows.uptoBulk d/\(fun x=>x.lb) x:=by
 obtain⟨m,ds,hn,rfl,g⟩:=h.struct Tryz.underlying109 (ts:=[106,3,3,3,107,107]) rfl
 obtain⟨a0,r0,rfl,h0,g⟩:=g.cons;obtain⟨a1,r1,rfl,h1,g⟩:=g.cons;obtain⟨a2,r2,rfl,h2,g⟩:=g.cons;obtain⟨a3,r3,rfl,h3,g⟩:=g.cons;obtain⟨a4,r4,rfl,h4,g⟩:=g.cons;obtain⟨a5,r5,rfl,h5,g⟩:=g.cons
 obtain rfl:=g.nil
 simp only[Rows.uptoBulk,Rows.uptoBulkAll]at hb⊢
 obtain⟨x0,rfl⟩:=h0.int Tryz.underlying106
 obtain⟨x1,rfl⟩:=h1.int Tryz.underlying3
 obtain⟨x2,rfl⟩:=h2.int Tryz.underlying3
 obtain⟨x3,rfl⟩:=h3.int Tryz.underlying3
 obtain⟨x4,e4,n4⟩:=aeP h4
 obtain⟨x5,e5,n5⟩:=aeP h5
 refine⟨⟨x0,x1,x2,x3,x4,x5⟩,?_,rfl,zero_le _,⟨by show _<=_;simp only[BN]at*;omega,by show _<=_;simp only[BN]at*;omega⟩⟩
 simp[iJ,vr,e4,e5,oO.cs]
theorem apr {n:Nat}{d:DataW H} (h:Rdt enc w base spare held n 114 d) (hb:Rows.uptoBulk d<=BN):∃x:io,iJ d=x.cs/\ij d=true/\(fun _=>0) x<=Rows.uptoBulk d/\(fun _=>True) x:=by
 obtain⟨m,ds,hn,rfl,g⟩:=h.struct Tryz.underlying114 (ts:=[9,84]) rfl
 obtain⟨a0,r0,rfl,h0,g⟩:=g.cons;obtain⟨a1,r1,rfl,h1,g⟩:=g.cons
 obtain rfl:=g.nil
 simp only[Rows.uptoBulk,Rows.uptoBulkAll]at hb⊢
 obtain⟨x0,rfl⟩:=h0.str Tryz.underlying9
 obtain⟨x1,rfl⟩:=h1.int Tryz.underlying84
 refine⟨⟨x0,x1⟩,?_,rfl,zero_le _,trivial⟩
 simp[iJ,vr,io.cs,bs]
theorem aps {n:Nat}{d:DataW H} (h:Rdt enc w base spare held n 86 d) (hb:Rows.uptoBulk d<=BN):∃x:fh,iJ d=x.cs/\ij d=true/\(fun _=>0) x<=Rows.uptoBulk d/\(fun _=>True) x:=by
 obtain⟨m,ds,hn,rfl,g⟩:=h.struct Tryz.underlying86 (ts:=[9,84,3]) rfl
 obtain⟨a0,r0,rfl,h0,g⟩:=g.cons;obtain⟨a1,r1,rfl,h1,g⟩:=g.cons;obtain⟨a2,r2,rfl,h2,g⟩:=g.cons
 obtain rfl:=g.nil
 simp only[Rows.uptoBulk,Rows.uptoBulkAll]at hb⊢
 obtain⟨x0,rfl⟩:=h0.str Tryz.underlying9
 obtain⟨x1,rfl⟩:=h1.int Tryz.underlying84
 obtain⟨x2,rfl⟩:=h2.int Tryz.underlying3
 refine⟨⟨x0,x1,x2⟩,?_,rfl,zero_le _,trivial⟩
 simp[iJ,vr,fh.cs,bs]
theorem awO {n:Nat}{d:DataW H} (h:Rdt enc w base spare held n 222 d) (hb:Rows.uptoBulk d<=BN):∃x:QQ,iJ d=x.cs/\ij d=true/\(fun _=>0) x<=Rows.uptoBulk d/\(fun _=>True) x:=by
 obtain⟨m,ds,hn,rfl,g⟩:=h.struct Tryz.underlying222 (ts:=[3,3]) rfl
 obtain⟨a0,r0,rfl,h0,g⟩:=g.cons;obtain⟨a1,r1,rfl,h1,g⟩:=g.cons
 obtain rfl:=g.nil
 simp only[Rows.uptoBulk,Rows.uptoBulkAll]at hb⊢
 obtain⟨x0,rfl⟩:=h0.int Tryz.underlying3
 obtain⟨x1,rfl⟩:=h1.int Tryz.underlying3
 refine⟨⟨x0,x1⟩,?_,rfl,zero_le _,trivial⟩
 simp[iJ,vr,QQ.cs]
theorem awW {n:Nat}{d:DataW H} (h:Rdt enc w base spare held n 139 d) (hb:Rows.uptoBulk d<=BN):∃x:xg,iJ d=x.cs/\ij d=true/\(fun _=>0) x<=Rows.uptoBulk d/\(fun _=>True) x:=by
 obtain⟨m,ds,hn,rfl,g⟩:=h.struct Tryz.underlying139 (ts:=[9,3,137]) rfl
 obtain⟨a0,r0,rfl,h0,g⟩:=g.cons;obtain⟨a1,r1,rfl,h1,g⟩:=g.cons;obtain⟨a2,r2,rfl,h2,g⟩:=g.cons
 obtain rfl:=g.nil
 simp only[Rows.uptoBulk,Rows.uptoBulkAll]at hb⊢
 obtain⟨x0,rfl⟩:=h0.str Tryz.underlying9
 obtain⟨x1,rfl⟩:=h1.int Tryz.underlying3
 obtain⟨x2,rfl⟩:=h2.int Tryz.underlying137
 refine⟨⟨x0,x1,x2⟩,?_,rfl,zero_le _,trivial⟩
 simp[iJ,vr,xg.cs,bs]
theorem awN {n:Nat}{d:DataW H} (h:Rdt enc w base spare held n 142 d) (hb:Rows.uptoBulk d<=BN):∃x:CO,iJ d=x.cs/\ij d=true/\(fun _=>0) x<=Rows.uptoBulk d/\(fun _=>True) x:=by
 obtain⟨m,ds,hn,rfl,g⟩:=h.struct Tryz.underlying142 (ts:=[9,3,3]) rfl
 obtain⟨a0,r0,rfl,h0,g⟩:=g.cons;obtain⟨a1,r1,rfl,h1,g⟩:=g.cons;obtain⟨a2,r2,rfl,h2,g⟩:=g.cons
 obtain rfl:=g.nil
 simp only[Rows.uptoBulk,Rows.uptoBulkAll]at hb⊢
 obtain⟨x0,rfl⟩:=h0.str Tryz.underlying9
 obtain⟨x1,rfl⟩:=h1.int Tryz.underlying3
 obtain⟨x2,rfl⟩:=h2.int Tryz.underlying3
 refine⟨⟨x0,x1,x2⟩,?_,rfl,zero_le _,trivial⟩
 simp[iJ,vr,CO.cs,bs]
theorem awY {n:Nat}{d:DataW H} (h:Rdt enc w base spare held n 229 d) (hb:Rows.uptoBulk d<=BN):∃x:rR,iJ d=x.cs/\ij d=true/\(fun _=>0) x<=Rows.uptoBulk d/\(fun _=>True) x:=by
 obtain⟨m,ds,hn,rfl,g⟩:=h.struct Tryz.underlying229 (ts:=[3,9,9]) rfl
 obtain⟨a0,r0,rfl,h0,g⟩:=g.cons;obtain⟨a1,r1,rfl,h1,g⟩:=g.cons;obtain⟨a2,r2,rfl,h2,g⟩:=g.cons
 obtain rfl:=g.nil
 simp only[Rows.uptoBulk,Rows.uptoBulkAll]at hb⊢
 obtain⟨x0,rfl⟩:=h0.int Tryz.underlying3
 obtain⟨x1,rfl⟩:=h1.str Tryz.underlying9
 obtain⟨x2,rfl⟩:=h2.str Tryz.underlying9
 refine⟨⟨x0,x1,x2⟩,?_,rfl,zero_le _,trivial⟩
 simp[iJ,vr,rR.cs,bs]
theorem awQ {n:Nat}{d:DataW H} (h:Rdt enc w base spare held n 75 d) (hb:Rows.uptoBulk d<=BN):∃x:HR,iJ d=x.cs/\ij d=true/\(fun _=>0) x<=Rows.uptoBulk d/\(fun _=>True) x:=by
 obtain⟨m,ds,hn,rfl,g⟩:=h.struct Tryz.underlying75 (ts:=[9,9,3]) rfl
 obtain⟨a0,r0,rfl,h0,g⟩:=g.cons;obtain⟨a1,r1,rfl,h1,g⟩:=g.cons;obtain⟨a2,r2,rfl,h2,g⟩:=g.cons
 obtain rfl:=g.nil
 simp only[Rows.uptoBulk,Rows.uptoBulkAll]at hb⊢
 obtain⟨x0,rfl⟩:=h0.str Tryz.underlying9
 obtain⟨x1,rfl⟩:=h1.str Tryz.underlying9
 obtain⟨x2,rfl⟩:=h2.int Tryz.underlying3
 refine⟨⟨x0,x1,x2⟩,?_,rfl,zero_le _,trivial⟩
 simp[iJ,vr,HR.cs,bs]
theorem aiI:∀{n:Nat}{d:DataW H},Rdt enc w base spare held n 105 d->Rows.uptoBulk d<=BN->∃x:aj,iJ d=x.cs/\ij d=true/\(fun x:aj=>2*x.sz) x<=Rows.uptoBulk d/\True:=by
 intro n
 induction n using Nat.strongRecOn with|_ n ih=> ?_
 intro d h hb
 obtain⟨m,ds,hn,rfl,g⟩:=h.struct Tryz.underlying105 (ts:=[103,9,3,101]) rfl
 obtain⟨a0,r0,rfl,h0,g⟩:=g.cons;obtain⟨a1,r1,rfl,h1,g⟩:=g.cons;obtain⟨a2,r2,rfl,h2,g⟩:=g.cons;obtain⟨a3,r3,rfl,h3,g⟩:=g.cons
 obtain rfl:=g.nil
 simp only[Rows.uptoBulk,Rows.uptoBulkAll]at hb⊢
 obtain⟨x0,rfl⟩:=h0.int Tryz.underlying103
 obtain⟨x1,rfl⟩:=h1.str Tryz.underlying9
 obtain⟨x2,rfl⟩:=h2.int Tryz.underlying3
 obtain⟨x3,e3,w3,n3,p3⟩:=lE (cX:=aj.cs) (W:=fun x=>2*x.sz) (R:=fun _=>True) Tryz.underlying101 h3 (by omega) (fun j hj d hd hb=>ih j (by omega) hd hb)
 simp only[Rows.uptoBulk]at hb⊢
 refine⟨.mk x0 x1 x2 x3,?_,rfl,?_,trivial⟩
 ·rw[aj.jN];simp[iJ,vr,e3,bs]
 ·rw[aj.dR]
  have:(x3.map fun x:aj=>2*x.sz).sum=2*(x3.map aj.sz).sum:=JB x3
  show 2*(1+(x3.map aj.sz).sum)<=_
  omega
theorem awX:∀{n:Nat}{d:DataW H},Rdt enc w base spare held n 111 d->Rows.uptoBulk d<=BN->∃x:ax,iJ d=x.cs/\ij d=true/\(fun x:ax=>2*x.sz) x<=Rows.uptoBulk d/\x.sm:=by
 intro n
 induction n using Nat.strongRecOn with|_ n ih=> ?_
 intro d h hb
 obtain⟨m,ds,hn,rfl,g⟩:=h.struct Tryz.underlying111 (ts:=[102,9,9,105,105,101,109,4,52,52]) rfl
 obtain⟨a0,r0,rfl,h0,g⟩:=g.cons;obtain⟨a1,r1,rfl,h1,g⟩:=g.cons;obtain⟨a2,r2,rfl,h2,g⟩:=g.cons;obtain⟨a3,r3,rfl,h3,g⟩:=g.cons;obtain⟨a4,r4,rfl,h4,g⟩:=g.cons;obtain⟨a5,r5,rfl,h5,g⟩:=g.cons;obtain⟨a6,r6,rfl,h6,g⟩:=g.cons;obtain⟨a7,r7,rfl,h7,g⟩:=g.cons;obtain⟨a8,r8,rfl,h8,g⟩:=g.cons;obtain⟨a9,r9,rfl,h9,g⟩:=g.cons
 obtain rfl:=g.nil
 simp only[Rows.uptoBulk,Rows.uptoBulkAll]at hb⊢
 obtain⟨x0,rfl⟩:=h0.int Tryz.underlying102
 obtain⟨x1,rfl⟩:=h1.str Tryz.underlying9
 obtain⟨x2,rfl⟩:=h2.str Tryz.underlying9
 obtain⟨x3,e3,_,w3,p3⟩:=aiI h3 (by omega)
 obtain⟨x4,e4,_,w4,p4⟩:=aiI h4 (by omega)
 obtain⟨x5,e5,w5,n5,p5⟩:=lE (cX:=aj.cs) (W:=fun x=>2*x.sz) (R:=fun _=>True) Tryz.underlying101 h5 (by omega) (fun m _ d hd hb=>aiI hd hb)
 obtain⟨x6,e6,_,w6,p6⟩:=aiH h6 (by omega)
 obtain⟨x7,rfl⟩:=h7.bool Tryz.underlying4
 obtain⟨x8,e8,w8,n8,p8⟩:=lE (cX:=ax.cs) (W:=fun x=>2*x.sz) (R:=fun x=>x.sm) Tryz.underlying52 h8 (by omega) (fun j hj d hd hb=>ih j (by omega) hd hb)
 obtain⟨x9,e9,w9,n9,p9⟩:=lE (cX:=ax.cs) (W:=fun x=>2*x.sz) (R:=fun x=>x.sm) Tryz.underlying52 h9 (by omega) (fun j hj d hd hb=>ih j (by omega) hd hb)
 simp only[Rows.uptoBulk]at hb⊢
 have c5:(x5.map fun x:aj=>2*x.sz).sum=2*(x5.map aj.sz).sum:=JB x5
 have c8:(x8.map fun x:ax=>2*x.sz).sum=2*(x8.map ax.sz).sum:=JB x8
 have c9:(x9.map fun x:ax=>2*x.sz).sum=2*(x9.map ax.sz).sum:=JB x9
 have l5:=aj.AG x5
 have w3:2*x3.sz<=_:=w3
 have w4:2*x4.sz<=_:=w4
 refine⟨.mk x0 x1 x2 x3 x4 x5 x6 x7 x8 x9,?_,rfl,?_,?_⟩
 ·rw[ax.aA];simp[iJ,vr,e3,e4,e5,e6,e8,e9,bs,aj.aA,oO.cs,ax.op,ax.nm,ax.pm,ax.e,ax.f,ax.args,ax.d,ax.flag,ax.body,ax.fG]
 ·show 2*(ax.mk x0 x1 x2 x3 x4 x5 x6 x7 x8 x9).sz<=_
  rw[ax.sz,ax.nD,ax.nD]
  omega
 ·unfold BN at*
  rw[ax.Wc]
  refine⟨⟨?_,?_,fun y hy=> ?_,?_,p6⟩,(ax.Gr _).2 p8,(ax.Gr _).2 p9⟩
  ·show x3.sz<_;omega
  ·show x4.sz<_;omega
  ·have:=yk (f:=aj.sz) (show y∈x5 from hy);omega
  ·show x5.length<_;omega
theorem awS {n:Nat}{d:DataW H} (h:Rdt enc w base spare held n 135 d) (hb:Rows.uptoBulk d<=BN):∃x:oP,iJ d=x.cs/\ij d=true/\(fun _=>0) x<=Rows.uptoBulk d/\x.lb:=by
 obtain⟨m,ds,hn,rfl,g⟩:=h.struct Tryz.underlying135 (ts:=[9,3,131,3,133]) rfl
 obtain⟨a0,r0,rfl,h0,g⟩:=g.cons;obtain⟨a1,r1,rfl,h1,g⟩:=g.cons;obtain⟨a2,r2,rfl,h2,g⟩:=g.cons;obtain⟨a3,r3,rfl,h3,g⟩:=g.cons;obtain⟨a4,r4,rfl,h4,g⟩:=g.cons
 obtain rfl:=g.nil
 obtain⟨m4,ds4,hn4,rfl,q⟩:=h4.struct Tryz.underlying133 (ts:=[9,109,109]) rfl
 obtain⟨a5,r5,rfl,h5,q⟩:=q.cons;obtain⟨a6,r6,rfl,h6,q⟩:=q.cons;obtain⟨a7,r7,rfl,h7,q⟩:=q.cons
 obtain rfl:=q.nil
 simp only[Rows.uptoBulk,Rows.uptoBulkAll]at hb⊢
 obtain⟨x0,rfl⟩:=h0.str Tryz.underlying9
 obtain⟨x1,rfl⟩:=h1.int Tryz.underlying3
 obtain⟨x2,e2,w2,n2,p2⟩:=lE (cX:=QQ.cs) (W:=fun _=>0) (R:=fun _=>True) Tryz.underlying131 h2 (by omega) (fun m _ d hd hb=>awO hd hb)
 obtain⟨x3,rfl⟩:=h3.int Tryz.underlying3
 obtain⟨x5,rfl⟩:=h5.str Tryz.underlying9
 obtain⟨x6,e6,_,w6,p6⟩:=aiH h6 (by omega)
 obtain⟨x7,e7,_,w7,p7⟩:=aiH h7 (by omega)
 refine⟨⟨x0,x1,x2,x3,x5,x6,x7⟩,?_,rfl,zero_le _,by show _<=_;simp only[BN]at*;omega,p6,p7⟩
 simp[iJ,vr,e2,e6,e7,oP.cs,bs]
theorem awT {n:Nat}{d:DataW H} (h:Rdt enc w base spare held n 54 d) (hb:Rows.uptoBulk d<=BN):∃x:jv,iJ d=x.cs/\ij d=true/\(fun _=>0) x<=Rows.uptoBulk d/\(fun x=>x.lb) x:=by
 obtain⟨m,ds,hn,rfl,g⟩:=h.struct Tryz.underlying54 (ts:=[9,51,51,52]) rfl
 obtain⟨a0,r0,rfl,h0,g⟩:=g.cons;obtain⟨a1,r1,rfl,h1,g⟩:=g.cons;obtain⟨a2,r2,rfl,h2,g⟩:=g.cons;obtain⟨a3,r3,rfl,h3,g⟩:=g.cons
 obtain rfl:=g.nil
 simp only[Rows.uptoBulk,Rows.uptoBulkAll]at hb⊢
 obtain⟨x0,rfl⟩:=h0.str Tryz.underlying9
 obtain⟨x1,e1,w1,n1,p1⟩:=lE (cX:=io.cs) (W:=fun _=>0) (R:=fun _=>True) Tryz.underlying51 h1 (by omega) (fun m _ d hd hb=>apr hd hb)
 obtain⟨x2,e2,w2,n2,p2⟩:=lE (cX:=io.cs) (W:=fun _=>0) (R:=fun _=>True) Tryz.underlying51 h2 (by omega) (fun m _ d hd hb=>apr hd hb)
 obtain⟨x3,e3,w3,n3,p3⟩:=lE (cX:=ax.cs) (W:=fun x=>2*x.sz) (R:=fun x=>x.sm) Tryz.underlying52 h3 (by omega) (fun m _ d hd hb=>awX hd hb)
 have c3:(x3.map fun x:ax=>2*x.sz).sum=2*(x3.map ax.sz).sum:=JB x3
 refine⟨⟨x0,x1,x2,x3⟩,?_,rfl,zero_le _,⟨by show _<=_;simp only[BN]at*;omega,by show _<=_;simp only[BN]at*;omega,?_,(ax.Gr _).2 p3⟩⟩
 ·simp[iJ,vr,e1,e2,e3,jv.cs,bs]
 ·show ax.im x3<_
  rw[ax.nD];unfold BN at hb;omega
theorem awU {n:Nat}{d:DataW H} (h:Rdt enc w base spare held n 116 d) (hb:Rows.uptoBulk d<=BN):∃x:xB,iJ d=x.cs/\ij d=true/\(fun _=>0) x<=Rows.uptoBulk d/\(fun x=>Lb x.args.length) x:=by
 obtain⟨m,ds,hn,rfl,g⟩:=h.struct Tryz.underlying116 (ts:=[9,107,3,3,3]) rfl
 obtain⟨a0,r0,rfl,h0,g⟩:=g.cons;obtain⟨a1,r1,rfl,h1,g⟩:=g.cons;obtain⟨a2,r2,rfl,h2,g⟩:=g.cons;obtain⟨a3,r3,rfl,h3,g⟩:=g.cons;obtain⟨a4,r4,rfl,h4,g⟩:=g.cons
 obtain rfl:=g.nil
 simp only[Rows.uptoBulk,Rows.uptoBulkAll]at hb⊢
 obtain⟨x0,rfl⟩:=h0.str Tryz.underlying9
 obtain⟨x1,e1,n1⟩:=aeP h1
 obtain⟨x2,rfl⟩:=h2.int Tryz.underlying3
 obtain⟨x3,rfl⟩:=h3.int Tryz.underlying3
 obtain⟨x4,rfl⟩:=h4.int Tryz.underlying3
 refine⟨⟨x0,x1,x2,x3,x4⟩,?_,rfl,zero_le _,by show _<=_;simp only[BN]at*;omega⟩
 simp[iJ,vr,e1,xB.cs,bs]
theorem awP {n:Nat}{d:DataW H} (h:Rdt enc w base spare held n 148 d) (hb:Rows.uptoBulk d<=BN):∃x:zC,iJ d=x.cs/\ij d=true/\(fun _=>0) x<=Rows.uptoBulk d/\(fun x=>Lb x.dK.length) x:=by
 obtain⟨m,ds,hn,rfl,g⟩:=h.struct Tryz.underlying148 (ts:=[9,146,3]) rfl
 obtain⟨a0,r0,rfl,h0,g⟩:=g.cons;obtain⟨a1,r1,rfl,h1,g⟩:=g.cons;obtain⟨a2,r2,rfl,h2,g⟩:=g.cons
 obtain rfl:=g.nil
 simp only[Rows.uptoBulk,Rows.uptoBulkAll]at hb⊢
 obtain⟨x0,rfl⟩:=h0.str Tryz.underlying9
 obtain⟨x1,e1,w1,n1,p1⟩:=lE (cX:=rR.cs) (W:=fun _=>0) (R:=fun _=>True) Tryz.underlying146 h1 (by omega) (fun m _ d hd hb=>awY hd hb)
 obtain⟨x2,rfl⟩:=h2.int Tryz.underlying3
 refine⟨⟨x0,x1,x2⟩,?_,rfl,zero_le _,by show _<=_;simp only[BN]at*;omega⟩
 simp[iJ,vr,e1,zC.cs,bs]
theorem awV {n:Nat}{d:DataW H} (h:Rdt enc w base spare held n 50 d) (hb:Rows.uptoBulk d<=BN):∃x:dL,iJ d=x.cs/\ij d=true/\(fun _=>0) x<=Rows.uptoBulk d/\(fun x=>x.lb/\∀l∈x.laws,Lb l.dK.length) x:=by
 obtain⟨m,ds,hn,rfl,g⟩:=h.struct Tryz.underlying50 (ts:=[9,22,42,43,44,45,45,45,45,45,46,47,48]) rfl
 obtain⟨a0,r0,rfl,h0,g⟩:=g.cons;obtain⟨a1,r1,rfl,h1,g⟩:=g.cons;obtain⟨a2,r2,rfl,h2,g⟩:=g.cons;obtain⟨a3,r3,rfl,h3,g⟩:=g.cons;obtain⟨a4,r4,rfl,h4,g⟩:=g.cons;obtain⟨a5,r5,rfl,h5,g⟩:=g.cons;obtain⟨a6,r6,rfl,h6,g⟩:=g.cons;obtain⟨a7,r7,rfl,h7,g⟩:=g.cons;obtain⟨a8,r8,rfl,h8,g⟩:=g.cons;obtain⟨a9,r9,rfl,h9,g⟩:=g.cons;obtain⟨a10,r10,rfl,h10,g⟩:=g.cons;obtain⟨a11,r11,rfl,h11,g⟩:=g.cons;obtain⟨a12,r12,rfl,h12,g⟩:=g.cons
 obtain rfl:=g.nil
 simp only[Rows.uptoBulk,Rows.uptoBulkAll]at hb⊢
 obtain⟨x0,rfl⟩:=h0.str Tryz.underlying9
 obtain⟨x1,e1,w1,n1,p1⟩:=lE (cX:=fh.cs) (W:=fun _=>0) (R:=fun _=>True) Tryz.underlying22 h1 (by omega) (fun m _ d hd hb=>aps hd hb)
 obtain⟨x2,e2,w2,n2,p2⟩:=lE (cX:=oP.cs) (W:=fun _=>0) (R:=fun x=>x.lb) Tryz.underlying42 h2 (by omega) (fun m _ d hd hb=>awS hd hb)
 obtain⟨x3,e3,w3,n3,p3⟩:=lE (cX:=xg.cs) (W:=fun _=>0) (R:=fun _=>True) Tryz.underlying43 h3 (by omega) (fun m _ d hd hb=>awW hd hb)
 obtain⟨x4,e4,w4,n4,p4⟩:=lE (cX:=CO.cs) (W:=fun _=>0) (R:=fun _=>True) Tryz.underlying44 h4 (by omega) (fun m _ d hd hb=>awN hd hb)
 obtain⟨x5,e5,n5⟩:=Uj h5
 obtain⟨x6,e6,n6⟩:=Uj h6
 obtain⟨x7,e7,n7⟩:=Uj h7
 obtain⟨x8,e8,n8⟩:=Uj h8
 obtain⟨x9,e9,n9⟩:=Uj h9
 obtain⟨x10,e10,w10,n10,p10⟩:=lE (cX:=jv.cs) (W:=fun _=>0) (R:=fun x=>x.lb) Tryz.underlying46 h10 (by omega) (fun m _ d hd hb=>awT hd hb)
 obtain⟨x11,e11,w11,n11,p11⟩:=lE (cX:=xB.cs) (W:=fun _=>0) (R:=fun x=>Lb x.args.length) Tryz.underlying47 h11 (by omega) (fun m _ d hd hb=>awU hd hb)
 obtain⟨x12,e12,w12,n12,p12⟩:=lE (cX:=zC.cs) (W:=fun _=>0) (R:=fun x=>Lb x.dK.length) Tryz.underlying48 h12 (by omega) (fun m _ d hd hb=>awP hd hb)
 refine⟨⟨x0,x1,x2,x3,x4,x5,x6,x7,x8,x9,x10,x11,x12⟩,?_,rfl,zero_le _,⟨⟨by show _<=_;simp only[BN]at*;omega,by show _<=_;simp only[BN]at*;omega,by show _<=_;simp only[BN]at*;omega,by show _<=_;simp only[BN]at*;omega,by show _<=_;simp only[BN]at*;omega,by show _<=_;simp only[BN]at*;omega,by show _<=_;simp only[BN]at*;omega,by show _<=_;simp only[BN]at*;omega,by show _<=_;simp only[BN]at*;omega,by show _<=_;simp only[BN]at*;omega,by show _<=_;simp only[BN]at*;omega,by show _<=_;simp only[BN]at*;omega⟩,p2,p10,p11⟩,p12⟩
 simp[iJ,vr,e1,e2,e3,e4,e5,e6,e7,e8,e9,e10,e11,e12,dL.cs,bs]
theorem awR {n:Nat}{d:DataW H} (h:Rdt enc w base spare held n 26 d) (hb:Rows.uptoBulk d<=BN):∃x:kL,iJ d=x.cs/\x.lb2:=by
 obtain⟨m,ds,hn,rfl,g⟩:=h.struct Tryz.underlying26 (ts:=[9,22,23,24]) rfl
 obtain⟨a0,r0,rfl,h0,g⟩:=g.cons;obtain⟨a1,r1,rfl,h1,g⟩:=g.cons;obtain⟨a2,r2,rfl,h2,g⟩:=g.cons;obtain⟨a3,r3,rfl,h3,g⟩:=g.cons
 obtain rfl:=g.nil
 simp only[Rows.uptoBulk,Rows.uptoBulkAll]at hb
 obtain⟨x0,rfl⟩:=h0.str Tryz.underlying9
 obtain⟨x1,e1,w1,n1,p1⟩:=lE (cX:=fh.cs) (W:=fun _=>0) (R:=fun _=>True) Tryz.underlying22 h1 (by omega) (fun m _ d hd hb=>aps hd hb)
 obtain⟨x2,e2,w2,n2,p2⟩:=lE (cX:=dL.cs) (W:=fun _=>0) (R:=fun x=>x.lb/\∀l∈x.laws,Lb l.dK.length) Tryz.underlying23 h2 (by omega) (fun m _ d hd hb=>awV hd hb)
 obtain⟨x3,e3,w3,n3,p3⟩:=lE (cX:=HR.cs) (W:=fun _=>0) (R:=fun _=>True) Tryz.underlying24 h3 (by omega) (fun m _ d hd hb=>awQ hd hb)
 refine⟨⟨x0,x1,x2,x3⟩,?_,⟨by show _<=_;simp only[BN]at*;omega,by show _<=_;simp only[BN]at*;omega,by show _<=_;simp only[BN]at*;omega,fun s hs=>(p2 s hs).1⟩,fun s hs=>(p2 s hs).2⟩
 simp[iJ,vr,e1,e2,e3,kL.cs,bs]
end
def aCz:uE:=[3,9,50,54,75,86,105,111,114,116,135,139,142,148,222,229]
theorem arn:arm Tryz.prog aCz=true:=by kernel_rfl
end
theorem aaL:∀ts:xm,Wf (ts.map fun x=>Sc.s (bs x))=some (ts.map bs)
 |[]=>rfl
 |t::r=>by simp[Wf,aaL r]
theorem aac (ts:xm) (sep:Bs) (h1:ts.length<=140737488355328) (h2:(dE ts sep).length<=281474976710656):dv.F [am ts,.s (bs sep)]=some [.s (bs (dE ts sep))]:=by
 have hF:dv.F=agc:=by unfold dv;rfl
 rw[hF]
 unfold am agc
 simp only[aaL,length_map,map_map]
 have e:((fun x:ByteArray=>x.data.toList)∘bs)=id:=by funext x;rfl
 rw[e,map_id]
 have h2':(Lib.join ts (bs sep).data.toList).length<=281474976710656:=h2
 rw[if_pos ⟨h1,h2'⟩]
 rfl
theorem qn (sep:Bs):∀ts:xm,(dE ts sep).length<=(ts.map List.length).sum+sep.length*ts.length
 |[]=>by simp[dE,Lib.join]
 |[t]=>by simp[dE,Lib.join]
 |t::u::r=>by
  have ih:=qn sep (u::r)
  have:dE (t::u::r) sep=t++sep++dE (u::r) sep:=by simp[dE,Lib.join,intercalate,intersperse]
  rw[this]
  simp only[length_append,map_cons,sum_cons,length_cons]at ih⊢
  have:sep.length*(r.length+1+1)=sep.length*(r.length+1)+sep.length:=by rw[Nat.mul_add];omega
  omega
theorem df (n:Int) (h: -9223372036854775808<=n/\n<=9223372036854775807):eh.F [.i n]=some [.s (bs (bQ n))]:=by
 have h1:sD.F [.i n]=some [.s (bs (bQ n))]:=by
  have hF:sD.F=ajZ:=by unfold sD;rfl
  rw[hF]
  show(if-9223372036854775808<=n/\n<=9223372036854775807 then some [Sc.s ⟨(Lib.itoa n).toArray⟩]else none)=_
  rw[if_pos h];rfl
 rw[ahX]
 simp only[Om,ab0,h1,av,Nat.reduceAdd]
theorem akz (n:Int):nA.F [.i n]=some [.s (bs (pI n))]:=by
 rw[abH]
 simp only[E9,av,Nat.reduceAdd]
 unfold pI
 split<;>rfl
theorem CC (op:Int):jo.F [.i op]=some [.s (bs (lf op).1),.i (lf op).2.1,.b (lf op).2.2]:=by
 by_cases h19:op=19
 ·subst h19;kernel_rfl
 by_cases h18:op=18
 ·subst h18;kernel_rfl
 by_cases h14:op=14
 ·subst h14;kernel_rfl
 by_cases h15:op=15
 ·subst h15;kernel_rfl
 by_cases h16:op=16
 ·subst h16;kernel_rfl
 by_cases h17:op=17
 ·subst h17;kernel_rfl
 by_cases h9:op=9
 ·subst h9;kernel_rfl
 by_cases h10:op=10
 ·subst h10;kernel_rfl
 by_cases h11:op=11
 ·subst h11;kernel_rfl
 by_cases h12:op=12
 ·subst h12;kernel_rfl
 by_cases h13:op=13
 ·subst h13;kernel_rfl
 rw[U8]
 unfold lf
 simp only[zg,h19,h18,h14,h15,h16,h17,h9,h10,h11,h12,h13,av,Nat.reduceAdd]
 rfl
theorem arY (e:aj):vj.F e.cs=some [.i (kQ e.op)]:=by
 rw[abG,aj.aA]
 simp only[E8,TA,CC,kQ,av,Nat.reduceAdd]
 repeat' split
 all_goals rfl
theorem agw (n:Int) (h:ld n):(bQ n).length<=21:=Lib.itoa_length_le n (by unfold ld at h;omega) (by unfold ld at h;omega)
theorem dF {w:Bs} (h:Name w):w.length<=24:=h.2.1
theorem NW (op l:Int) (t:Bs):(rQ op l t).length<=t.length+2:=by
 unfold rQ
 split
 ·simp[wd]
 ·omega
theorem aa4 (op:Int):(fE op).length<=7:=by
 unfold fE
 repeat' split
 all_goals simp[wd]
theorem ao8 (op:Int):(lf op).1.length<=3:=by
 unfold lf
 repeat' split
 all_goals simp[wd]
theorem alt {op:Int}{nm:Bs}{n:Int}{ks:i7}{ts:xm} (h:uJ op nm n ks.length) (hl:ts.length=ks.length):(ft op nm n ks ts).length<=40+(ts.map List.length).sum:=by
 have g0:(ts.getD 0 []).length<=(ts.map List.length).sum:=by
  cases ts with
  |nil=>simp
  |cons a r=>simp
 have hnm:nm.length<=24:=by
  unfold uJ at h
  rcases h with h|h|h|h|h|h|h
  ·rw[h.2.2.1];simp
  ·rw[h.2.2.1];simp
  ·exact dF h.2.2.1
  ·rw[h.2.2.1];simp
  ·rw[h.2.2.2.1];simp
  ·rw[h.2.2.2.1];simp
  ·exact dF h.2.2.2.1
 have hk:ts.length<=2:=by
  unfold uJ at h
  rcases h with h|h|h|h|h|h|h<;>omega
 have g1:(ts.getD 0 []).length+(ts.getD 1 []).length<=(ts.map List.length).sum:=by
  match ts with
  |[]=>simp
  |[a]=>simp
  |a::b::r=>simp
 unfold ft
 split
 ·rename_i h1
  have hn:ld n:=by
   unfold uJ at h
   rcases h with h|h|h|h|h|h|h<;>first|exact h.2.1|(exfalso;omega)
  have:=agw n hn
  split
  ·simp[wd];omega
  ·omega
 split
 ·unfold pI;split<;>(simp[wd];try omega)
 split
 ·simp[wd];omega
 split
 ·omega
 split
 ·unfold SP
  have:=aa4 op
  split
  ·simp only[length_append];simp[wd];omega
  ·have h1:=qn j9 ts
   have h2:(j9).length=2:=by simp[wd]
   rw[h2]at h1
   simp only[length_append]
   simp only[wd,length_map,length_cons,length_nil]at h1⊢
   omega
 split
 ·have:=NW (na ks 0) 3 (ts.getD 0 [])
  simp only[length_append]
  simp only[wd,length_map,length_cons,length_nil]
  omega
 split
 ·have:=NW (na ks 0) 7 (ts.getD 0 [])
  simp only[length_append]
  simp only[wd,length_map,length_cons,length_nil]
  omega
 ·have h1:=NW (na ks 0) (sF (lf op).2.1) (ts.getD 0 [])
  have h2:=NW (na ks 1) (oH (lf op).2.1) (ts.getD 1 [])
  have h3:=ao8 op
  simp only[length_append]
  simp only[wd,length_map,length_cons,length_nil]
  omega
theorem RV:∀e:aj,e.ok->e.tx.length<=40*e.sz:=by
 refine aj.ind fun op nm n ks ih dI=> ?_
 obtain⟨h1,h2⟩:=(aj.vZ _).1 dI
 rw[aj.aqn,aj.dR]
 have h3:=alt (ts:=ks.map aj.tx) h1 (by simp[aj.ks])
 have h4:((ks.map aj.tx).map List.length).sum<=40*(ks.map aj.sz).sum:=by
  have:∀l:i7,(∀k∈l,k.tx.length<=40*k.sz)->((l.map aj.tx).map List.length).sum<=40*(l.map aj.sz).sum:=by
   intro l
   induction l with
   |nil=>intro _;simp
   |cons a r ih=>
    intro h
    have h1:=h a (by simp)
    have h2:=ih fun k hk=>h k (by simp[hk])
    simp only[map_cons,sum_cons]
    omega
  exact this ks fun k hk=>ih k hk (h2 k hk)
 have e1:(aj.mk op nm n ks).ks=ks:=rfl
 rw[e1]at*
 show(ft op nm n ks (ks.map aj.tx)).length<=_
 have e2:(aj.mk op nm n ks).op=op:=rfl
 have h3':(ft op nm n ks (ks.map aj.tx)).length<=40+((ks.map aj.tx).map List.length).sum:=h3
 omega
theorem ao7 (e:aj) (l:Int) (k:Nat) (dI:e.ok) (hs:e.sz<1000000) (h:cp k 228 e.cs=some [.s (bs e.tx)]):cp (k+1) 274 (e.cs++[.i l])=some [.s (bs (rQ e.op l e.tx))]:=by
 have hl:=RV e dI
 have lv:=arY e
 rw[aj.aA]at h lv
 rw[Vb,aj.aA]
 have n1:((((cI++e.tx)).length:Nat):Int)<=9223372036854775807:=by simp[wd];omega
 have n2:(((((cI++e.tx)++cj)).length:Nat):Int)<=9223372036854775807:=by simp[wd];omega
 unfold rQ
 by_cases c:kQ e.op<l
 ·simp only[tY,Gi,lv,c,h,n1,n2,av,Nat.reduceAdd]
 ·simp only[tY,Gi,lv,c,h,av,Nat.reduceAdd]
theorem ac9 (ks:i7) (i:Nat) (x:aj) (h:ks[i]? =some x):Sc.l ((am ((ks.take i).map aj.tx)).list++[.s (bs x.tx)])=am ((ks.take (i+1)).map aj.tx):=by
 rw[ai3,<-fN h];simp
theorem akQ (w:Bs) (op:Int) (nm:Bs) (n:Int) (ks:i7) (k:Nat) (hw:w.length<=100) (hnm:nm.length<=100) (hkl:ks.length<=10) (dI:∀x∈ks,x.ok) (hs:∀x∈ks,x.sz<1000000) (h:∀x∈ks,cp k 228 x.cs=some [.s (bs x.tx)]):
 cp (k+1) 273 [.s (bs w),.i op,.s (bs nm),.i n,ae aj.cs ks]=some [.s (bs (SP w nm (ks.map aj.tx)))]:=by
 rw[abM]
 unfold SP
 have n1:((((w++cI)).length:Nat):Int)<=9223372036854775807:=by simp[wd];omega
 have e0:=alm ks
 by_cases c:ks=[]
 ·subst c
  have n2:(((((w++cI)++nm)).length:Nat):Int)<=9223372036854775807:=by simp[wd];omega
  have n3:((((((w++cI)++nm)++cj)).length:Nat):Int)<=9223372036854775807:=by simp[wd];omega
  simp only[Bi,length_nil,Int.natCast_zero,n1,n2,n3,av,Nat.reduceAdd]
 have arR:∀l:i7,(∀k∈l,k.tx.length<=40000000)->((l.map aj.tx).map List.length).sum<=40000000*l.length:=by
  intro l
  induction l with
  |nil=>intro _;simp
  |cons a r ih=>
   intro h
   have h1:=h a (by simp)
   have h2:=ih fun k hk=>h k (by simp[hk])
   simp only[map_cons,sum_cons,length_cons]
   omega
 have hj:=qn j9 (ks.map aj.tx)
 have hj2:=arR ks fun x hx=>by have:=RV x (dI x hx);have:=hs x hx;omega
 have h2l:(j9).length=2:=by simp[wd]
 rw[h2l,length_map]at hj
 have hjl:(dE (ks.map aj.tx) j9).length<=1000000000:=by omega
 have c':¬(ks.map aj.tx=[]):=by simpa using c
 simp only[Bi,n1,e0,c,c',av,Nat.reduceAdd]
 have n2:(((((w++cI)++dE (ks.map aj.tx) j9)).length:Nat):Int)<=9223372036854775807:=by simp only[length_append];simp only[wd,length_map,length_cons,length_nil]at hjl⊢;omega
 have n3:((((((w++cI)++dE (ks.map aj.tx) j9)++cj)).length:Nat):Int)<=9223372036854775807:=by simp only[length_append];simp only[wd,length_map,length_cons,length_nil]at hjl⊢;omega
 refine cu (fun i=>[am ((ks.take i).map aj.tx),.i (i:Int)]) ks.length rfl (by omega) (fun i hi rec=> ?_) (fun rec=> ?_)
 ·obtain⟨x,hx⟩:=aV hi
  have hm:=aM hx
  have bN:(i:Int)<ks.length:=by omega
  have g1:=h x hm
  simp only[aj.aA x]at g1
  have e1:=ac9 ks i x hx
  have e2:(((am ((ks.take i).map aj.tx)).list++[Sc.s (bs x.tx)]).length:Int)<=8796093022208:=by
   simp[am];omega
  simp only[VZ,map_map]at e1 e2
  simp only[ay hx,aj.aA x,bN,g1,aJ (k:=i) (by omega),e1,e2,map_map,av,Nat.reduceAdd]
 ·have g2:=aac (ks.map aj.tx) j9 (by simp;omega) (by omega)
  simp only[Int.lt_irrefl,take_length,V3,g2,n2,n3,av,Nat.reduceAdd]
end Go.Proofs.YtlklkgdaegncaaaGreatDoor
