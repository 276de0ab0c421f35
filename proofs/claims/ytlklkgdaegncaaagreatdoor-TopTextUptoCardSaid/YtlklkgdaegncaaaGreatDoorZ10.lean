/-
  A part of the proof of TopText: Kl1, Kl2, Kl3, LA0, LA, L1.
-/
import Derived.Test.YtlklkgdaegncaaaGreatDoorZ08
import Derived.Test.YtlklkgdaegncaaaGreatDoorZ09
import Derived.KernelRfl
namespace Go.Proofs.YtlklkgdaegncaaaGreatDoor
set_option linter.unusedVariables false
set_option linter.unusedSimpArgs false
set_option maxRecDepth 20000
set_option maxHeartbeats 8000000
open List
open Nat
open Int
section
noncomputable section
variable (l:aP)
def rX:=dl BC
theorem Nq:aT.F l=if l.length=3 then qY.bR rX l []else none:=rfl
theorem I1:rX 45=oC.F:=by kernel_rfl
theorem I2:rX 46=dv.F:=by kernel_rfl
def YM:=dl YU
theorem ahX:eh.F l=if l.length=1 then Om.bR YM l []else none:=rfl
theorem ab0:YM 49=sD.F:=by kernel_rfl
def Gz:=dl uY
theorem GM:jG.F l=if l.length=2 then mN.bR Gz l []else none:=rfl
def HX:=dl wv
theorem Ig:ku.F l=if l.length=2 then nG.bR HX l []else none:=rfl
def adn:=dl Sq
theorem Tc:fV.F l=if l.length=5 then HF.bR adn l []else none:=rfl
def JS:=dl xv
theorem J7:lB.F l=if l.length=2 then oN.bR JS l []else none:=rfl
def adp:=dl Sy
theorem adY:tQ.F l=if l.length=1 then vt.bR adp l []else none:=rfl
def YN:=dl MQ
theorem ZE:yh.F l=if l.length=1 then qi.bR YN l []else none:=rfl
def zA:=dl zJ
theorem L5:mo.F l=if l.length=4 then pC.bR zA l []else none:=rfl
theorem G5:zA 14=aT.F:=by kernel_rfl
def uB:=dl C7
theorem Pc:nQ.F l=if l.length=5 then tr.bR uB l []else none:=rfl
theorem iF:uB 18=eh.F:=by kernel_rfl
theorem Kt:uB 14=aT.F:=by kernel_rfl
def Cl:=dl pP
theorem Cu:fW.F l=if l.length=2 then j8.bR Cl l []else none:=rfl
def Dx:=dl rm
theorem DG:ig.F l=if l.length=2 then kS.bR Dx l []else none:=rfl
def Dy:=dl rn
theorem DH:ii.F l=if l.length=2 then kT.bR Dy l []else none:=rfl
def Ff:=dl tZ
theorem Fl:cD.F l=if l.length=1 then iN.bR Ff l []else none:=rfl
def YL:=dl MP
theorem ZD:ye.F l=if l.length=1 then CM.bR YL l []else none:=rfl
def Xu:=dl Lu
theorem XF:iU.F l=if l.length=1 then AW.bR Xu l []else none:=rfl
def YK:=dl MO
theorem ZC:du.F l=if l.length=3 then CJ.bR YK l []else none:=rfl
def HV:=dl H4
theorem U7:tO.F l=if l.length=17 then nj.bR HV l []else none:=rfl
theorem NJ:HV 102=du.F:=by kernel_rfl
def abk:=dl P1
theorem abH:nA.F l=if l.length=1 then E9.bR abk l []else none:=rfl
def Xr:=dl Lr
theorem LG:bx.F l=if l.length=14 then AU.bR Xr l []else none:=rfl
def OZ:=dl C4
theorem O9:iP.F l=if l.length=2 then th.bR OZ l []else none:=rfl
def QS:=dl El
theorem Q6:aW.F l=if l.length=2 then uQ.bR QS l []else none:=rfl
def Fg:=dl uc
theorem Fo:iX.F l=if l.length=2 then mc.bR Fg l []else none:=rfl
def Gy:=dl uX
theorem GL:jE.F l=if l.length=2 then mM.bR Gy l []else none:=rfl
def LY:=dl zM
theorem z6:eS.F l=if l.length=2 then lJ.bR LY l []else none:=rfl
def HY:=dl ww
theorem Ih:kv.F l=if l.length=2 then nH.bR HY l []else none:=rfl
def abj:=dl PT
theorem abA:lL.F l=if l.length=1 then E5.bR abj l []else none:=rfl
def amw:=dl aff
theorem anl:B4.F l=if l.length=1 then Wm.bR amw l []else none:=rfl
def adh:=dl Sb
theorem adF:DM.F l=if l.length=2 then QH.bR adh l []else none:=rfl
def HZ:=dl wx
theorem Ii:kA.F l=if l.length=2 then jJ.bR HZ l []else none:=rfl
def adl:=dl Sl
theorem adO:tM.F l=if l.length=1 then HD.bR adl l []else none:=rfl
def afd:=dl WE
theorem afM:wQ.F l=if l.length=1 then K2.bR afd l []else none:=rfl
def R3:=dl Sj
theorem adM:DP.F l=if l.length=1 then HB.bR R3 l []else none:=rfl
theorem Vl:R3 231=B5.F:=by kernel_rfl
def Lh:=dl Lp
theorem XC:mP.F l=if l.length=2 then AR.bR Lh l []else none:=rfl
theorem Po:Lh 255=jC.F:=by kernel_rfl
def Dz:=dl ru
theorem rz:cH.F l=if l.length=2 then kU.bR Dz l []else none:=rfl
def abf:=dl PL
theorem abu:Ba.F l=if l.length=6 then dx.bR abf l []else none:=rfl
def abg:=dl PM
theorem abv:qp.F l=if l.length=3 then E3.bR abg l []else none:=rfl
end
end
section
noncomputable section
variable (l:aP)
def adk:=dl Si
theorem adL:mW.F l=if l.length=2 then Hz.bR adk l []else none:=rfl
def MI:=dl Bq
theorem Nd:dV.F l=if l.length=21 then qS.bR MI l []else none:=rfl
def Gt:=dl uV
theorem GJ:cM.F l=if l.length=21 then uw.bR Gt l []else none:=rfl
def afe:=dl WI
theorem afQ:B7.F l=if l.length=1 then K6.bR afe l []else none:=rfl
def UK:=dl H5
theorem U8:jo.F l=if l.length=1 then zg.bR UK l []else none:=rfl
def adm:=dl Sn
theorem adQ:tN.F l=if l.length=6 then QN.bR adm l []else none:=rfl
def rT:=dl Bo
theorem Nb:gG.F l=if l.length=21 then qQ.bR rT l []else none:=rfl
theorem GO:rT 258=dV.F:=by kernel_rfl
theorem GP:rT 259=cM.F:=by kernel_rfl
def PE:=dl P0
theorem abG:vj.F l=if l.length=4 then E8.bR PE l []else none:=rfl
theorem TA:PE 275=jo.F:=by kernel_rfl
def YO:=dl MT
theorem ZH:fR.F l=if l.length=2 then CN.bR YO l []else none:=rfl
def oc:=dl wy
theorem Ij:kC.F l=if l.length=22 then vu.bR oc l []else none:=rfl
theorem DL:oc 309=fR.F:=by kernel_rfl
def adg:=dl Sa
theorem adE:tI.F l=if l.length=4 then Hx.bR adg l []else none:=rfl
def adj:=dl Sg
theorem adJ:tK.F l=if l.length=1 then QL.bR adj l []else none:=rfl
def adi:=dl Sf
theorem adI:DN.F l=if l.length=3 then QK.bR adi l []else none:=rfl
def ado:=dl Sw
theorem adW:yf.F l=if l.length=9 then HI.bR ado l []else none:=rfl
def GC:=dl P4
theorem abK:vk.F l=if l.length=16 then Oo.bR GC l []else none:=rfl
theorem TE:GC 309=fR.F:=by kernel_rfl
def Xv:=dl Ly
theorem XH:qd.F l=if l.length=2 then JE.bR Xv l []else none:=rfl
def afc:=dl WD
theorem afL:wP.F l=if l.length=1 then K1.bR afc l []else none:=rfl
def ahv:=dl YT
theorem ahW:kP.F l=if l.length=1 then Xn.bR ahv l []else none:=rfl
def ahw:=dl YV
theorem ahY:KB.F l=if l.length=1 then Xo.bR ahw l []else none:=rfl
def R5:=dl F0
theorem Tf:kB.F l=if l.length=1 then Fb.bR R5 l []else none:=rfl
def abh:=dl PO
theorem abx:qr.F l=if l.length=1 then E4.bR abh l []else none:=rfl
def Gw:=dl PX
theorem abE:dB.F l=if l.length=1 then ma.bR Gw l []else none:=rfl
theorem AD:Gw 91=ye.F:=by kernel_rfl
theorem Iy:Gw 92=iU.F:=by kernel_rfl
def Gv:=dl PU
theorem abB:Bc.F l=if l.length=4 then E6.bR Gv l []else none:=rfl
theorem Vr:Gv 32=fV.F:=by kernel_rfl
theorem Tu:Gv 102=du.F:=by kernel_rfl
def Gx:=dl P2
theorem abI:qv.F l=if l.length=2 then zh.bR Gx l []else none:=rfl
theorem TB:Gx 132=nA.F:=by kernel_rfl
theorem VI:Gx 18=eh.F:=by kernel_rfl
def fK:=dl zK
theorem L6:jb.F l=if l.length=20 then pD.bR fK l []else none:=rfl
theorem Fr:fK 139=bx.F:=by kernel_rfl
theorem G6:fK 48=qv.F:=by kernel_rfl
theorem vb:fK 46=dv.F:=by kernel_rfl
theorem u7:fK 18=eh.F:=by kernel_rfl
theorem u6:fK 14=aT.F:=by kernel_rfl
def FR:=dl FY
theorem Td:rG.F l=if l.length=10 then wh.bR FR l []else none:=rfl
theorem Mk:FR 158=eS.F:=by kernel_rfl
def Li:=dl Lt
theorem XE:vI.F l=if l.length=6 then AV.bR Li l []else none:=rfl
theorem Ps:Li 159=kv.F:=by kernel_rfl
def CU:=dl C8
theorem Pf:nS.F l=if l.length=2 then tw.bR CU l []else none:=rfl
theorem Jb:CU 186=kA.F:=by kernel_rfl
def qA:=dl zF
theorem L1:dJ.F l=if l.length=2 then lH.bR qA l []else none:=rfl
theorem uj:qA 153=aW.F:=by kernel_rfl
theorem GY:qA 92=iU.F:=by kernel_rfl
def uy:=dl CZ
theorem O4:eP.F l=if l.length=3 then sZ.bR uy l []else none:=rfl
theorem IC:uy 153=aW.F:=by kernel_rfl
theorem IB:uy 146=iP.F:=by kernel_rfl
def aa8:=dl FZ
theorem Te:fI.F l=if l.length=3 then mb.bR aa8 l []else none:=rfl
theorem qK:aa8 153=aW.F:=by kernel_rfl
def Wy:=dl WB
theorem WZ:fH.F l=if l.length=12 then lF.bR Wy l []else none:=rfl
theorem Cv:Wy 158=eS.F:=by kernel_rfl
end
end
section
noncomputable section
variable (l:aP)
def Aq:=dl H1
theorem U4:tJ.F l=if l.length=40 then yW.bR Aq l []else none:=rfl
theorem NB:Aq 213=lK.F:=by kernel_rfl
theorem NA:Aq 155=fH.F:=by kernel_rfl
def JQ:=dl Sr
theorem adS:mX.F l=if l.length=2 then nE.bR JQ l []else none:=rfl
theorem Vq:JQ 182=B4.F:=by kernel_rfl
theorem Vp:JQ 102=du.F:=by kernel_rfl
def ob:=dl od
theorem Az:cO.F l=if l.length=2 then iW.bR ob l []else none:=rfl
theorem vW:ob 215=cH.F:=by kernel_rfl
def JO:=dl Sd
theorem adG:jz.F l=if l.length=6 then ca.bR JO l []else none:=rfl
theorem bH:JO 216=Ba.F:=by kernel_rfl
theorem cw:JO 217=qp.F:=by kernel_rfl
def Dw:=dl Sv
theorem adV:tP.F l=if l.length=16 then ip.bR Dw l []else none:=rfl
theorem lQ:Dw 139=bx.F:=by kernel_rfl
theorem jm:Dw 102=du.F:=by kernel_rfl
theorem Vz:Dw 174=cO.F:=by kernel_rfl
def MK:=dl WF
theorem afN:Gd.F l=if l.length=1 then K3.bR MK l []else none:=rfl
theorem XN:MK 193=tM.F:=by kernel_rfl
theorem XO:MK 196=wQ.F:=by kernel_rfl
def QR:=dl YS
theorem ZB:EM.F l=if l.length=1 then wZ.bR QR l []else none:=rfl
theorem xR:QR 130=nS.F:=by kernel_rfl
theorem ZT:QR 232=lc.F:=by kernel_rfl
def uU:=dl PV
theorem abC:qt.F l=if l.length=14 then Ol.bR uU l []else none:=rfl
theorem Tw:uU 215=cH.F:=by kernel_rfl
theorem Tv:uU 139=bx.F:=by kernel_rfl
def JR:=dl Sx
theorem adX:yg.F l=if l.length=1 then HJ.bR JR l []else none:=rfl
theorem VH:JR 228=lA.F:=by kernel_rfl
theorem XZ:JR 46=dv.F:=by kernel_rfl
def ML:=dl WH
theorem afP:B6.F l=if l.length=30 then K5.bR ML l []else none:=rfl
theorem X0:ML 155=fH.F:=by kernel_rfl
theorem X1:ML 213=lK.F:=by kernel_rfl
def iZ:=dl zO
theorem L9:mt.F l=if l.length=23 then zk.bR iZ l []else none:=rfl
theorem Fy:iZ 309=fR.F:=by kernel_rfl
theorem FA:iZ 310=kC.F:=by kernel_rfl
def Gu:=dl PQ
theorem abz:Bb.F l=if l.length=14 then Ok.bR Gu l []else none:=rfl
theorem Tt:Gu 209=qt.F:=by kernel_rfl
def D9:=dl MN
theorem ZA:oz.F l=if l.length=1 then LW.bR D9 l []else none:=rfl
theorem Ri:D9 351=kP.F:=by kernel_rfl
def UI:=dl acl
theorem ak0:OI.F l=if l.length=2 then aaT.bR UI l []else none:=rfl
theorem abT:UI 351=kP.F:=by kernel_rfl
def Ar:=dl aco
theorem ak3:OK.F l=if l.length=2 then aaW.bR Ar l []else none:=rfl
theorem abY:Ar 351=kP.F:=by kernel_rfl
theorem abZ:Ar 352=KB.F:=by kernel_rfl
theorem abX:Ar 185=DM.F:=by kernel_rfl
def UJ:=dl acm
theorem ak1:D5.F l=if l.length=2 then aaU.bR UJ l []else none:=rfl
theorem abU:UJ 351=kP.F:=by kernel_rfl
def HW:=dl acn
theorem ak2:OJ.F l=if l.length=2 then aaV.bR HW l []else none:=rfl
theorem abW:HW 351=kP.F:=by kernel_rfl
theorem abV:HW 334=D5.F:=by kernel_rfl
def Ee:=dl MU
theorem ZI:sE.F l=if l.length=2 then LX.bR Ee l []else none:=rfl
theorem Ro:Ee 356=kB.F:=by kernel_rfl
def Cm:=dl Lv
theorem XG:pZ.F l=if l.length=3 then JD.bR Cm l []else none:=rfl
theorem Pt:Cm 356=kB.F:=by kernel_rfl
def FP:=dl FW
theorem S9:rE.F l=if l.length=2 then we.bR FP l []else none:=rfl
theorem Mi:FP 348=wP.F:=by kernel_rfl
def FQ:=dl FX
theorem Ta:rF.F l=if l.length=2 then wg.bR FQ l []else none:=rfl
theorem Mj:FQ 357=qr.F:=by kernel_rfl
def CP:=dl CV
theorem O1:nN.F l=if l.length=2 then sV.bR CP l []else none:=rfl
theorem Iq:CP 357=qr.F:=by kernel_rfl
def wk:=dl wo
theorem wG:dO.F l=if l.length=2 then bU.bR wk l []else none:=rfl
theorem cm:wk 145=fI.F:=by kernel_rfl
def zB:=dl zL
theorem L7:jc.F l=if l.length=4 then pF.bR zB l []else none:=rfl
theorem Hd:zB 11=nR.F:=by kernel_rfl
def lh:=dl xt
theorem J5:fm.F l=if l.length=4 then oM.bR lh l []else none:=rfl
theorem Fu:lh 47=tQ.F:=by kernel_rfl
theorem Fv:lh 48=qv.F:=by kernel_rfl
theorem Ft:lh 14=aT.F:=by kernel_rfl
def uA:=dl C1
theorem O6:aB.F l=if l.length=2 then te.bR uA l []else none:=rfl
theorem IP:uA 143=dJ.F:=by kernel_rfl
theorem IQ:uA 144=eP.F:=by kernel_rfl
def CQ:=dl C0
theorem O5:bW.F l=if l.length=2 then td.bR CQ l []else none:=rfl
theorem ID:CQ 144=eP.F:=by kernel_rfl
def vN:=dl Ej
theorem Ey:aw.F l=if l.length=3 then nW.bR vN l []else none:=rfl
theorem xT:vN 145=fI.F:=by kernel_rfl
theorem Kl:vN 146=iP.F:=by kernel_rfl
def zt:=dl zG
theorem L2:aD.F l=if l.length=2 then pA.bR zt l []else none:=rfl
theorem Fq:zt 144=eP.F:=by kernel_rfl
def Eb:=dl Ei
theorem Q4:pg.F l=if l.length=2 then uP.bR Eb l []else none:=rfl
theorem Kk:Eb 153=aW.F:=by kernel_rfl
def rU:=dl Br
theorem Nf:mY.F l=if l.length=34 then qT.bR rU l []else none:=rfl
theorem GU:rU 154=iX.F:=by kernel_rfl
theorem GV:rU 155=fH.F:=by kernel_rfl
def ux:=dl CW
theorem O2:nO.F l=if l.length=8 then sW.bR ux l []else none:=rfl
theorem Iw:ux 156=jE.F:=by kernel_rfl
theorem Ix:ux 157=Gf.F:=by kernel_rfl
def Lg:=dl Lk
theorem Xy:vF.F l=if l.length=8 then AO.bR Lg l []else none:=rfl
theorem Pm:Lg 171=tJ.F:=by kernel_rfl
def tD:=dl H3
theorem U6:oB.F l=if l.length=26 then rL.bR tD l []else none:=rfl
theorem BU:tD 155=fH.F:=by kernel_rfl
theorem BV:tD 174=cO.F:=by kernel_rfl
theorem BW:tD 175=jz.F:=by kernel_rfl
def A3:=dl PW
theorem abD:vi.F l=if l.length=18 then sX.bR A3 l []else none:=rfl
theorem xS:A3 139=bx.F:=by kernel_rfl
theorem Tz:A3 173=mX.F:=by kernel_rfl
theorem Tx:A3 102=du.F:=by kernel_rfl
def Dv:=dl Ss
theorem adT:DQ.F l=if l.length=13 then HG.bR Dv l []else none:=rfl
theorem LK:Dv 37=dB.F:=by kernel_rfl
theorem Iu:Dv 181=tP.F:=by kernel_rfl
theorem Iv:Dv 182=B4.F:=by kernel_rfl
def MJ:=dl WC
theorem afK:iT.F l=if l.length=6 then pu.bR MJ l []else none:=rfl
theorem pT:MJ 175=jz.F:=by kernel_rfl
theorem sx:MJ 18=eh.F:=by kernel_rfl
end
end
theorem OO (c:UInt8):ye.F [.i (c.toNat:Int)]=some [.b (Xe c)]:=by
 rw[ZD]
 have h1:((97:Int)<=(c.toNat:Int))↔97<=c.toNat:=by omega
 have h2:((c.toNat:Int)<=122)↔c.toNat<=122:=by omega
 simp only[CM,Xe,h1,h2,av,Nat.reduceAdd]
 by_cases h:97<=c.toNat<;>simp[h]
theorem awk:∀w∈Ya,iU.F [.s (bs w)]=some [.b true]:=by
 unfold Ya
 repeat(rw[forall_mem_cons];refine⟨by kernel_rfl,?_⟩)
 intro w hw;cases hw
theorem aAp (w:Bs) (h:w∉Ya):iU.F [.s (bs w)]=some [.b false]:=by
 simp only[Ya,mem_cons,not_or,not_mem_nil,not_false_eq_true,and_true]at h
 rw[XF]
 simp only[AW,h,av,Nat.reduceAdd]
theorem awj (w:Bs):iU.F [.s (bs w)]=some [.b (decide (w∈Ya))]:=by
 by_cases h:w∈Ya
 ·rw[awk w h];simp[h]
 ·rw[aAp w h];simp[h]
theorem nf (w:Bs):bw (dB.F [.s (bs w)]) (Name w):=by
 rw[abE]
 by_cases h0:w=wd []
 ·simp only[ma,h0,av,Nat.reduceAdd]
  exact bw.bad (by decide)
 have rP:w≠[]:=h0
 have jW:=length_pos_iff.2 rP
 by_cases hl:(24:Int)<((w.length:Nat):Int)
 ·simp only[ma,h0,hl,av,Nat.reduceAdd]
  exact bw.bad (by decide)
 have hp:(0:Int)<((w.length:Nat):Int):=by omega
 by_cases hc:Xe (w.getD 0 0)=true
 rotate_left
 ·simp only[ma,h0,hl,hp,AD,OO,hc,av,Nat.reduceAdd]
  exact bw.bad (by decide)
 by_cases hk:w∈Ya
 ·simp only[ma,h0,hl,hp,AD,Iy,OO,hc,awj,hk,av,Nat.reduceAdd]
  exact bw.bad (by decide)
 simp only[ma,h0,hl,hp,AD,Iy,OO,hc,awj,hk,av,Nat.reduceAdd]
 refine eX (S:=Unit) (fun i _=>[.i (i:Int)]) (fun i _=>kN (fun c=>Jf c=true) w i) w.length (s:=()) rfl (by omega) kN.zero (fun i _ rec hi hI hr=> ?_) (fun _ rec hI=> ?_)
 ·obtain⟨x,hx⟩:=aV hi
  have hx':w.getD i 0=x:=by simp[getD_eq_getElem?_getD,hx]
  have bN:(i:Int)<((w.length:Nat):Int):=by omega
  have hs:=aJ (k:=i) (by omega)
  have hnx:Jf x=true->bw (rec [.i ((i+1:Nat):Int)]) (Name w):=fun h=>hr () (hI.succ hx h)
  simp only[bN,hx',OO,hs,av,Nat.reduceAdd]
  by_cases h1:Xe x=true
  ·simp only[h1,Dh]
   exact hnx (by simp[Jf,h1])
  have h1:Xe x=false:=by simpa using h1
  by_cases h2:((x.toNat:Nat):Int)<48
  ·by_cases h3:((x.toNat:Nat):Int)=95
   ·simp only[h1,h3,Dh,Int.reduceLT]
    exact hnx (by have:x.toNat=95:=by omega
                  simp[Jf,this])
   ·simp only[h1,h2,h3,Dh]
    exact bw.bad (by decide)
  by_cases h4:(57:Int)<((x.toNat:Nat):Int)
  ·by_cases h3:((x.toNat:Nat):Int)=95
   ·simp only[h1,h3,Dh,Int.reduceLT]
    exact hnx (by have:x.toNat=95:=by omega
                  simp[Jf,this])
   ·simp only[h1,h2,h3,h4,Dh]
    exact bw.bad (by decide)
  ·simp only[h1,h2,h4,Dh]
   exact hnx (by simp[Jf,dgB];omega)
 ·simp only[Int.lt_irrefl,av]
  exact bw.some fun _=>⟨rP,by omega,hc,hI.all,hk⟩
def vg (lo hi n:Int):Prop:=lo<=n/\n<=hi
instance (lo hi n:Int):Decidable (vg lo hi n):=by unfold vg;exact inferInstance
theorem lg (n lo hi:Int):du.F [.i n,.i lo,.i hi]=some [.b (decide (vg lo hi n))]:=by
 rw[ZC]
 simp only[CJ,av,Nat.reduceAdd]
 by_cases h:lo<=n<;>simp[h,vg]
instance (n:Int):Decidable (ld n):=by unfold ld;exact inferInstance
theorem YA (n:Int):B4.F [.i n]=some [.b (decide (ld n))]:=by
 rw[anl]
 simp only[Wm,av,Nat.reduceAdd]
 by_cases h: -1000000000000<=n<;>simp[h,ld]
theorem aex (n:Int):lL.F [.i n]=some [.b (decide (vg 1 3 n))]:=by
 rw[abA]
 simp only[E5,av,Nat.reduceAdd]
 by_cases h:1<=n<;>simp[h,vg]
def z8 (t n:Int):Prop:=(t=1/\ld n)\/(t=2/\(n=0\/n=1))\/(t=3/\0<=n/\n<=1000000000)
theorem ahZ (t n:Int):zo (mX.F [.i t,.i n]) (z8 t n):=by
 rw[adS]
 by_cases h1:t=1
 ·simp only[nE,h1,Vq,YA,av,Nat.reduceAdd,reduceEq]
  exact zo.yes fun h=> .inl ⟨rfl,of_decide_eq_true h⟩
 by_cases h2:t=2
 ·by_cases h3:n=0
  ·simp only[nE,h2,h3,av,Nat.reduceAdd,reduceEq]
   exact zo.yes fun h=> .inr (.inl ⟨rfl,.inl rfl⟩)
  ·simp only[nE,h2,h3,av,Nat.reduceAdd,reduceEq]
   exact zo.yes fun h=> .inr (.inl ⟨rfl,.inr (by simpa using h)⟩)
 by_cases h3:t=3
 ·simp only[nE,h3,Vp,lg,av,Nat.reduceAdd,reduceEq]
  exact zo.yes fun h=> .inr (.inr ⟨rfl,of_decide_eq_true h⟩)
 ·simp only[nE,h1,h2,h3,av,Nat.reduceAdd]
  exact zo.no
theorem OA (lo hi:Int) (xs:uD) (hl:Lb xs.length):zo (qp.F [.i lo,.i hi,bY xs]) (∀x∈xs,vg lo hi x):=by
 unfold Lb at hl
 rw[abv]
 simp only[E3,av,Nat.reduceAdd]
 refine aoP (S:=Unit) (fun i _=>[.i (i:Int)]) (fun i _=>kN (vg lo hi) xs i) xs.length (s:=()) rfl (by omega) kN.zero (fun i _ rec bN hI hr=> ?_) (fun _ rec hI=> ?_)
 ·obtain⟨x,hx⟩:=aV bN
  have hi2:(i:Int)<((xs.length:Nat):Int):=by omega
  have hs:=aJ (k:=i) (by omega)
  simp only[hi2,ay hx,hs,av]
  by_cases h1:x<lo
  ·simp only[h1,Dh]
   exact zo.no
  by_cases h2:hi<x
  ·simp only[h1,h2,Dh]
   exact zo.no
  ·simp only[h1,h2,Dh]
   exact hr () (hI.succ hx ⟨by omega,by omega⟩)
 ·simp only[Int.lt_irrefl,av]
  exact zo.yes fun _=>hI.all
def oO.lb (d:oO):Prop:=Lb d.vs.length/\Lb d.ws.length
def oO.ok0 (d:oO):Prop:=
 (d.op=1/\d.b=0/\d.n=0/\d.vs=[]/\d.ws=[]/\vg 0 1000000000 d.a)\/
 (d.op=2/\d.n=0/\d.vs=[]/\d.ws=[]/\vg 0 1000000000 d.a/\vg 0 1000000000 d.b/\d.a<=d.b)\/
 (d.op=5/\d.n=0/\d.vs=[]/\d.ws=[]/\vg 1 1000 d.a/\vg 1 1000 d.b)\/
 (d.op=4/\d.vs=[]/\d.ws=[]/\vg 1 20 d.n/\vg 0 1000000 d.a/\vg 0 1000000 d.b/\d.a<=d.b)\/
 (d.op=3/\d.a=0/\d.b=0/\d.n=0/\d.vs.length=d.ws.length/\0<d.vs.length/\d.vs.length<=20/\(∀x∈d.vs,vg 0 1000000000 x)/\(∀x∈d.ws,vg 1 1000 x))
def oO.unused (d:oO):Prop:=
 (d.op=1/\d.b=0/\d.n=0/\d.vs=[]/\d.ws=[])\/((d.op=2\/d.op=5)/\d.n=0/\d.vs=[]/\d.ws=[])\/(d.op=4/\d.vs=[]/\d.ws=[])\/(d.op=3/\d.a=0/\d.b=0/\d.n=0)
theorem oO.aA (d:oO):d.cs=[.i d.op,.i d.a,.i d.b,.i d.n,bY d.vs,bY d.ws]:=rfl
theorem aqq (d:oO) (hl:d.lb):zo (Ba.F d.cs) d.unused:=by
 obtain⟨LM,hl2⟩:=hl
 unfold Lb at LM hl2
 have hw:IntKind.i64.wrap ((d.vs.length:Int)+(d.ws.length:Int))=(d.vs.length:Int)+(d.ws.length:Int):=cE (by omega) (by omega)
 have hz:((d.vs.length:Int)+(d.ws.length:Int)=0)↔(d.vs=[]/\d.ws=[]):=by
  rw[<-length_eq_zero_iff,<-length_eq_zero_iff];omega
 rw[abu,oO.aA]
 unfold oO.unused
 by_cases h1:d.op=1
 ·by_cases h2:d.vs=[]/\d.ws=[]
  ·by_cases h3:d.b=0
   ·simp only[dx,h1,h2,h3,av,Nat.reduceAdd,reduceEq]
    exact zo.yes fun h=>by simpa using h
   ·simp only[dx,h1,h2,h3,av,Nat.reduceAdd,reduceEq]
    exact zo.no
  ·simp only[dx,h1,hw,hz,h2,av,Nat.reduceAdd,reduceEq]
   exact zo.no
 by_cases h2:d.op=2
 ·by_cases h3:d.vs=[]/\d.ws=[]
  ·simp only[dx,h2,h3,av,Nat.reduceAdd,reduceEq]
   exact zo.yes fun h=>by simpa using h
  ·simp only[dx,h2,hw,hz,h3,av,Nat.reduceAdd,reduceEq]
   exact zo.no
 by_cases h5:d.op=5
 ·by_cases h3:d.vs=[]/\d.ws=[]
  ·simp only[dx,h5,h3,av,Nat.reduceAdd,reduceEq]
   exact zo.yes fun h=>by simpa using h
  ·simp only[dx,h5,hw,hz,h3,av,Nat.reduceAdd,reduceEq]
   exact zo.no
 by_cases h4:d.op=4
 ·simp only[dx,h4,hw,hz,av,Nat.reduceAdd,reduceEq]
  exact zo.yes fun h=>by simpa using h
 by_cases h3:d.op=3
 ·by_cases h6:d.a=0
  ·by_cases h7:d.b=0
   ·simp only[dx,h3,h6,h7,av,Nat.reduceAdd,reduceEq]
    exact zo.yes fun h=>by simpa using h
   ·simp only[dx,h3,h6,h7,av,Nat.reduceAdd,reduceEq]
    exact zo.no
  ·simp only[dx,h3,h6,av,Nat.reduceAdd,reduceEq]
   exact zo.no
 ·simp only[dx,h1,h2,h5,h4,h3,av,Nat.reduceAdd]
  exact zo.no
theorem dw1 (lo hi a:Int):zo (qp.F [.i lo,.i hi,.l [.i a]]) (vg lo hi a):=
 (OA lo hi [a] (by simp[Lb])).mono fun h=>h a (by simp)
theorem dw2 (lo hi a b:Int):zo (qp.F [.i lo,.i hi,.l [.i a,.i b]]) (vg lo hi a/\vg lo hi b):=
 (OA lo hi [a,b] (by simp[Lb])).mono fun h=>⟨h a (by simp),h b (by simp)⟩
theorem akX (d:oO) (hl:d.lb):bw (jz.F d.cs) d.ok0:=by
 obtain⟨u,hu,hu2⟩:=aqq d hl
 obtain⟨op,da,db,dn,vs,ws⟩:=d
 obtain⟨LM,hl2⟩:=hl
 rw[adG]
 rw[oO.aA]at hu⊢
 simp only at hu LM hl2⊢
 cases u
 ·simp only[ca,bH,hu,av,Nat.reduceAdd]
  exact bw.bad (by decide)
 have hu2:=hu2 rfl
 unfold oO.unused at hu2
 unfold oO.ok0
 simp only at hu2⊢
 by_cases h1:op=1
 ·subst h1
  obtain⟨b,hb,Rr⟩:=dw1 0 1000000000 da
  cases b
  ·simp only[ca,bH,hu,cw,hb,av,Nat.reduceAdd,reduceEq]
   exact bw.bad (by decide)
  ·have Rr:=Rr rfl
   simp only[ca,bH,hu,cw,hb,av,Nat.reduceAdd,reduceEq]
   exact bw.some fun _=>by simpa[Rr]using hu2
 by_cases h2:op=2
 ·subst h2
  obtain⟨b,hb,Rr⟩:=dw2 0 1000000000 da db
  cases b
  ·simp only[ca,bH,hu,cw,hb,av,Nat.reduceAdd,reduceEq]
   exact bw.bad (by decide)
  ·have Rr:=Rr rfl
   by_cases h3:da<=db
   ·simp only[ca,bH,hu,cw,hb,h3,av,Nat.reduceAdd,reduceEq]
    exact bw.some fun _=>by simpa[Rr,h3]using hu2
   ·simp only[ca,bH,hu,cw,hb,h3,av,Nat.reduceAdd,reduceEq]
    exact bw.bad (by decide)
 by_cases h4:op=4
 ·subst h4
  obtain⟨c,hc,hc2⟩:=dw1 1 20 dn
  obtain⟨b,hb,Rr⟩:=dw2 0 1000000 da db
  cases c
  ·simp only[ca,bH,hu,cw,hc,av,Nat.reduceAdd,reduceEq]
   exact bw.bad (by decide)
  have hc2:=hc2 rfl
  cases b
  ·simp only[ca,bH,hu,cw,hb,hc,av,Nat.reduceAdd,reduceEq]
   exact bw.bad (by decide)
  ·have Rr:=Rr rfl
   by_cases h3:da<=db
   ·simp only[ca,bH,hu,cw,hb,hc,h3,av,Nat.reduceAdd,reduceEq]
    exact bw.some fun _=>by simpa[Rr,hc2,h3]using hu2
   ·simp only[ca,bH,hu,cw,hb,hc,h3,av,Nat.reduceAdd,reduceEq]
    exact bw.bad (by decide)
 by_cases h5:op=5
 ·subst h5
  obtain⟨b,hb,Rr⟩:=dw2 1 1000 da db
  cases b
  ·simp only[ca,bH,hu,cw,hb,av,Nat.reduceAdd,reduceEq]
   exact bw.bad (by decide)
  ·have Rr:=Rr rfl
   simp only[ca,bH,hu,cw,hb,av,Nat.reduceAdd,reduceEq]
   exact bw.some fun _=>by simpa[Rr]using hu2
 by_cases h3:op=3
 rotate_left
 ·simp[h1,h2,h4,h5,h3]at hu2
 subst h3
 have hw:((vs.length:Int)=(ws.length:Int))↔vs.length=ws.length:=by omega
 have hz:((vs.length:Int)=0)↔vs.length=0:=by omega
 have h20:((20:Int)<(vs.length:Int))↔20<vs.length:=by omega
 by_cases c1:vs.length=ws.length
 rotate_left
 ·simp only[ca,bH,hu,hw,c1,av,Nat.reduceAdd,reduceEq]
  exact bw.bad (by decide)
 have hz':((ws.length:Int)=0)↔ws.length=0:=by omega
 have arw:((20:Int)<(ws.length:Int))↔20<ws.length:=by omega
 by_cases c2:vs.length=0
 ·have c2':ws.length=0:=by omega
  simp only[ca,bH,hu,c1,c2',av,Nat.reduceAdd,reduceEq]
  exact bw.bad (by decide)
 have c2':¬ws.length=0:=by omega
 by_cases c3:20<vs.length
 ·have c3':20<ws.length:=by omega
  simp only[ca,bH,hu,hz',arw,c1,c2',c3',av,Nat.reduceAdd,reduceEq]
  exact bw.bad (by decide)
 have c3':¬20<ws.length:=by omega
 obtain⟨b,hb,Rr⟩:=OA 0 1000000000 vs LM
 obtain⟨c,hc,hc2⟩:=OA 1 1000 ws hl2
 cases b
 ·simp only[ca,bH,hu,hz',arw,c1,c2',c3',cw,hb,av,Nat.reduceAdd,reduceEq]
  exact bw.bad (by decide)
 have Rr:=Rr rfl
 cases c
 ·simp only[ca,bH,hu,hz',arw,c1,c2',c3',cw,hb,hc,av,Nat.reduceAdd,reduceEq]
  exact bw.bad (by decide)
 have hc2:=hc2 rfl
 simp only[ca,bH,hu,hz',arw,c1,c2',c3',cw,hb,hc,av,Nat.reduceAdd,reduceEq]
 refine bw.some fun _=> ?_
 simp at hu2
 exact⟨hu2.1,hu2.2.1,hu2.2.2,by omega,by omega,Rr,hc2⟩
def oO.ok (d:oO):Prop:=d.ok0/\jz.F d.cs=some [.i 0]
theorem Zr (d:oO) (hl:d.lb):bw (jz.F d.cs) d.ok:=by
 obtain⟨z,h1,h2⟩:=akX d hl
 exact⟨z,h1,fun h=>⟨h2 h,by rw[h1,h]⟩⟩
theorem S2 (xs:uD) (hl:Lb xs.length):eS.F [bY xs,bY xs]=some [.b true]:=by
 unfold Lb at hl
 rw[z6]
 simp only[lJ,av,Nat.reduceAdd]
 refine cu (fun i=>[.i (i:Int)]) xs.length rfl (by omega) (fun i hi rec=> ?_) (fun rec=> ?_)
 ·obtain⟨x,hx⟩:=aV hi
  have bN:(i:Int)<xs.length:=by omega
  simp only[ay hx,bN,aJ (k:=i) (by omega),av]
 ·simp only[Int.lt_irrefl,av]
theorem Yo (d:oO) (hl:d.lb):fH.F (d.cs++d.cs)=some [.b true]:=by
 rw[WZ,oO.aA]
 simp only[lF,Cv,S2 d.vs hl.1,S2 d.ws hl.2,av,Nat.reduceAdd]
theorem ajz (xs:uD):eS.F [bY xs,.l []]=some [.b (decide (xs=[]))]:=by
 rw[z6]
 have hz:((xs.length:Int)=0)↔xs=[]:=by rw[<-length_eq_zero_iff];omega
 by_cases h:xs=[]
 ·subst h
  exact S2 [] (by simp[Lb])
 ·simp only[lJ,length_nil,Int.natCast_zero,hz,h,av,Nat.reduceAdd]
theorem adA (d:oO):zo (fH.F (d.cs++[.i 0,.i 0,.i 0,.i 0,.l [],.l []])) (d=oO.zero):=by
 obtain⟨op,a,b,n,vs,ws⟩:=d
 rw[WZ,oO.aA]
 by_cases h:op=0/\a=0/\b=0/\n=0/\vs=[]
 ·obtain⟨rfl,rfl,rfl,rfl,rfl⟩:=h
  simp only[lF,Cv,ajz,av,Nat.reduceAdd]
  exact zo.yes fun h=>by have h:ws=[]:=of_decide_eq_true h;subst h;rfl
 ·have:∀{A:Prop},(op=0->a=0->b=0->n=0->vs=[]->False)->True:=fun _=>trivial
  by_cases h1:op=0
  rotate_left
  ·simp only[lF,h1,av,Nat.reduceAdd]
   exact zo.no
  by_cases h2:a=0
  rotate_left
  ·simp only[lF,h1,h2,av,Nat.reduceAdd]
   exact zo.no
  by_cases h3:b=0
  rotate_left
  ·simp only[lF,h1,h2,h3,av,Nat.reduceAdd]
   exact zo.no
  by_cases h4:n=0
  rotate_left
  ·simp only[lF,h1,h2,h3,h4,av,Nat.reduceAdd]
   exact zo.no
  by_cases h5:vs=[]
  ·exact absurd ⟨h1,h2,h3,h4,h5⟩ h
  ·simp only[lF,h1,h2,h3,h4,h5,Cv,ajz,av,Nat.reduceAdd]
   exact zo.no
theorem akp:∀(e:aj) (k:Nat),e.sz<=k->e.sz<1000000->Dt k 213 (e.cs++e.cs)=some [.b true]:=by
 refine aj.ind fun op nm n ks ih k hk hb=> ?_
 obtain⟨k,rfl⟩:∃j,k=j+1:=⟨k-1,by have:=aj.dR (.mk op nm n ks);omega⟩
 have kZ:∀x∈ks,x.sz<(aj.mk op nm n ks).sz:=fun x hx=>aj.Wi (e:= .mk op nm n ks) hx
 have hln:ks.length<1000000:=by
  have:=aj.dR (.mk op nm n ks)
  have h2:=aj.AG ks
  have h3:(aj.mk op nm n ks).ks=ks:=rfl
  rw[h3]at this
  omega
 rw[aj.jN,Kc]
 simp only[pw,av,Nat.reduceAdd]
 refine cu (fun i=>[.i (i:Int)]) ks.length rfl (by omega) (fun i hi rec=> ?_) (fun rec=> ?_)
 ·obtain⟨x,hx⟩:=aV hi
  have hm:=aM hx
  have hr:=ih x hm k (by have:=kZ x hm;omega) (by have:=kZ x hm;omega)
  simp only[aj.aA x,cons_append,nil_append]at hr
  have bN:(i:Int)<ks.length:=by omega
  simp only[ay hx,aj.aA x,hr,bN,aJ (k:=i) (by omega),av,Nat.reduceAdd]
 ·simp only[Int.lt_irrefl,av]
end Go.Proofs.YtlklkgdaegncaaaGreatDoor
