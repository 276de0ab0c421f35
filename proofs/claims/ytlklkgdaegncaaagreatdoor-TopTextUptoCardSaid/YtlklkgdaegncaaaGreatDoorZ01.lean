/-
  A part of the proof of TopText: SymA, SymB, SymC.
-/
import Derived.WalkKit
import Derived.ProofKit
import Derived.Below
import Derived.StillTail
namespace Go.Proofs.YtlklkgdaegncaaaGreatDoor
set_option linter.unusedVariables false
set_option linter.unusedSimpArgs false
open List
open Nat
open Int
inductive Sc where
 |i (z:Int)|b (x:Bool)|s (x:ByteArray)|l (xs:List Sc)|r (a:Option Addr) (n cap:Nat) (xs:List Sc)
 deriving Inhabited
def Sc.int:Sc->Int| .i z=>z|_=>0
def Sc.bool:Sc->Bool| .b x=>x|_=>false
def Sc.str:Sc->ByteArray| .s x=>x|_=>ByteArray.empty
def Sc.list:Sc->List Sc| .l x=>x| .r _ _ _ x=>x|_=>[]
def Sc.hdr:Sc->Value| .r a n cap _=> .slice a n cap|_=> .slice none 0 0
@[simp] theorem Sc.acL (z:Int):(Sc.i z).int=z:=rfl
@[simp] theorem Sc.amO (x:Bool):(Sc.b x).bool=x:=rfl
@[simp] theorem Sc.ac6 (x:ByteArray):(Sc.s x).str=x:=rfl
@[simp] theorem Sc.VY (x:List Sc):(Sc.l x).list=x:=rfl
inductive U1 where
 |conv (k:IntKind)|not|len|fD|cell (i:Nat)|bytes|ofb|isb
 deriving DecidableEq
inductive U2 where
 |add (k:IntKind)|sub (k:IntKind)|mul (k:IntKind)|quo (k:IntKind)|rem (k:IntKind)
 |ahE (k:IntKind)|bor (k:IntKind)|amT (k:IntKind)|ajs (k:IntKind)|shl (k:IntKind)|shr (k:IntKind)
 |max|min|eq|ne|lt|le|beq|bne|and|or|seq|cat|Mt|bC|app|idx|cons|rep|mem (n:Nat)|Fh (n:Nat)
 deriving DecidableEq
inductive U3 where
 |ite|KI|Uo|Yh
 deriving DecidableEq
def Sc.er:Sc->Sc
 | .l xs=> .l (xs.map Sc.er)| .r _ _ _ xs=> .l (xs.map Sc.er)| .i z=> .i z| .b x=> .b x| .s x=> .s x
def mS (l:List Sc):List Sc:=l.map Sc.er
inductive Ex where
 |v (n:Nat)|i (z:Int)|b (x:Bool)|s (x:List Nat)|nil
 |u (f:U1) (x:Ex)|o (f:U2) (x y:Ex)|t (f:U3) (x y z:Ex)
 deriving Inhabited
def Ex.same:Ex->Ex->Bool
 | .v p,.v q=>p==q
 | .i p,.i q=>p==q
 | .b p,.b q=>p==q
 | .s p,.s q=>p==q
 | .nil,.nil=>true
 | .u f x,.u g y=>decide (f=g)&&x.same y
 | .o f x y,.o g x' y'=>decide (f=g)&&x.same x'&&y.same y'
 | .t f x y z,.t g x' y' z'=>decide (f=g)&&x.same x'&&y.same y'&&z.same z'
 |_,_=>false
def Ex.under (n:Nat):Ex->Bool
 | .v a=>blt a n
 | .u _ x=>x.under n
 | .o _ x y=>x.under n&&y.under n
 | .t _ x y z=>x.under n&&y.under n&&z.under n
 |_=>true
def Cr (s:ByteArray):List Sc:=s.data.toList.map fun b=>Sc.i (b.toNat:Int)
def isByte:Sc->Bool| .i z=>decide (0<=z)&&decide (z<256)|_=>false
def iG (n:Nat) (x y:Sc):Bool:=if n=0 then x.str.toList==y.str.toList else(range n).all fun i=>(x.list.getD i (.i 0)).str.toList==(y.list.getD i (.i 0)).str.toList
def U1.ev:U1->Sc->Sc
 | .conv k,x=> .i (k.wrap x.int)
 | .not,x=> .b (!x.bool)
 | .len,x=> .i x.list.length
 | .fD,x=> .i x.str.size
 | .cell n,x=>x.list.getD n (.i 0)
 | .bytes,x=> .l (Cr x.str)
 | .ofb,x=> .s ⟨(x.list.map fun y=>UInt8.ofNat y.int.toNat).toArray⟩
 | .isb,x=> .b (!x.list.isEmpty&&x.list.all isByte)
def U2.ev:U2->Sc->Sc->Sc
 | .add k,x,y=> .i (k.wrap (x.int+y.int))
 | .sub k,x,y=> .i (k.wrap (x.int-y.int))
 | .mul k,x,y=> .i (k.wrap (x.int*y.int))
 | .quo k,x,y=> .i (k.wrap (x.int.tdiv y.int))
 | .rem _,x,y=> .i (x.int.tmod y.int)
 | .ahE k,x,y=> .i (k.wrap (BitVec.ofInt k.bits x.int&&&BitVec.ofInt k.bits y.int).toNat)
 | .bor k,x,y=> .i (k.wrap (BitVec.ofInt k.bits x.int|||BitVec.ofInt k.bits y.int).toNat)
 | .amT k,x,y=> .i (k.wrap (BitVec.ofInt k.bits x.int^^^BitVec.ofInt k.bits y.int).toNat)
 | .ajs k,x,y=> .i (k.wrap (BitVec.ofInt k.bits x.int&&& ~~~BitVec.ofInt k.bits y.int).toNat)
 | .shl k,x,y=> .i (k.wrap (x.int*2^(Min.min y.int.toNat k.bits)))
 | .shr k,x,y=> .i (x.int.fdiv (2^(Min.min y.int.toNat k.bits)))
 | .max,x,y=> .i (if y.int>x.int then y.int else x.int)
 | .min,x,y=> .i (if y.int<x.int then y.int else x.int)
 | .eq,x,y=> .b (x.int==y.int)
 | .ne,x,y=> .b (x.int !=y.int)
 | .lt,x,y=> .b (decide (x.int<y.int))
 | .le,x,y=> .b (decide (x.int<=y.int))
 | .beq,x,y=> .b (x.bool==y.bool)
 | .bne,x,y=> .b (x.bool !=y.bool)
 | .and,x,y=> .b (x.bool&&y.bool)
 | .or,x,y=> .b (x.bool||y.bool)
 | .seq,x,y=> .b (x.str.toList==y.str.toList)
 | .cat,x,y=> .s (x.str++y.str)
 | .Mt,x,y=> .i ((x.str.data.toList.getD y.int.toNat 0).toNat)
 | .bC,x,y=> .l (x.list++[y])
 | .app,x,y=> .l (x.list++y.list)
 | .idx,x,y=>x.list.getD y.int.toNat (.i 0)
 | .cons,x,y=> .l (x::y.list)
 | .rep,x,y=> .l (replicate y.int.toNat x)
 | .mem n,x,y=> .b (x.list.any fun k=>iG n k y)
 | .Fh n,x,y=> .l (if x.list.any fun k=>iG n k y then x.list else x.list++[y])
def U3.ev:U3->Sc->Sc->Sc->Sc
 | .ite,x,y,z=>if x.bool then y else z
 | .KI,x,y,z=> .l ((x.list.take z.int.toNat).drop y.int.toNat)
 | .Uo,x,y,z=> .s (x.str.extract y.int.toNat z.int.toNat)
 | .Yh,x,y,z=> .l (x.list.set y.int.toNat z)
def Ex.ev (ρ:List Sc):Ex->Sc
 | .v n=>ρ.getD n (.i 0)
 | .i z=> .i z
 | .b x=> .b x
 | .s x=> .s ⟨(x.map UInt8.ofNat).toArray⟩
 | .nil=> .l []
 | .u f x=>f.ev (x.ev ρ)
 | .o f x y=>f.ev (x.ev ρ) (y.ev ρ)
 | .t f x y z=>f.ev (x.ev ρ) (y.ev ρ) (z.ev ρ)
def aiz:Ex->Nat->Option Ex
 | .o .cons a _,0=>some a
 | .o .cons _ r,n+1=>aiz r n
 |_,_=>none
def CB (f:U1) (x:Ex):Ex:=
 match f,x with
 | .conv k,.i a=> .i (k.wrap a)
 | .not,.b a=> .b (!a)
 | .len,.nil=> .i 0
 | .cell n,x=>match aiz x n with|some a=>a|none=> .u (.cell n) x
 |f,x=> .u f x
def iV (f:U2) (x y:Ex):Ex:=
 match x,y with
 | .i a,.i b=>match f with
   | .add k=> .i (k.wrap (a+b))
   | .sub k=> .i (k.wrap (a-b))
   | .mul k=> .i (k.wrap (a*b))
   | .eq=> .b (a==b)
   | .ne=> .b (a !=b)
   | .lt=> .b (decide (a<b))
   | .le=> .b (decide (a<=b))
   |f=> .o f x y
 | .b a,y=>match f with
   | .and=>match a with|true=>(match y with| .b c=> .b c|y=> .o .and x y)|false=> .b false
   | .or=>match a with|true=> .b true|false=>(match y with| .b c=> .b c|y=> .o .or x y)
   |f=> .o f x y
 |x,y=> .o f x y
def TV (f:U3) (x y z:Ex):Ex:= .t f x y z
inductive CK where
 |int (k:IntKind)|bool|str|sl (el:TypeId)
 deriving DecidableEq
def CK.val:CK->Sc->Value
 | .int k,x=> .int k x.int
 | .bool,x=> .bool x.bool
 | .str,x=> .string x.str
 | .sl _,x=>x.hdr
inductive At where
 |top|int (k:IntKind) (e:Ex)|bool (e:Ex)|str (e:Ex)
 |ptr (b off:Nat)|pel (r es:Nat) (ix:Ex) (off:Nat)|als
 |vec (r:Nat)|sl (r es:Nat) (lo len:Ex)|Mr
 |fn (f:Nat) (mR:List Nat)
 |keys (n:Nat) (e:Ex)|aoZ|aoY|mp (b:Nat)|bs (b lo n:Nat)|fb (f:Nat) (m:Bool) (b:Nat)|sp (b:Nat)
 deriving Inhabited
inductive SC where
 |a (x:At)|g (cs:List At)
 deriving Inhabited
inductive SV where
 |c (x:SC)|t (xs:List SC)|nx (e p c:Ex)
 deriving Inhabited
abbrev SV.at (x:At):SV:= .c (.a x)
abbrev SV.top:SV:= .c (.a .top)
def At.same:At->At->Bool
 | .top,.top=>true
 | .int k e,.int k' e'=>decide (k=k')&&e.same e'
 | .bool e,.bool e'=>e.same e'
 | .str e,.str e'=>e.same e'
 | .ptr b o,.ptr b' o'=>b==b'&&o==o'
 | .pel r s i o,.pel r' s' i' o'=>r==r'&&s==s'&&i.same i'&&o==o'
 | .als,.als=>true
 | .vec r,.vec r'=>r==r'
 | .sl r s x y,.sl r' s' x' y'=>r==r'&&s==s'&&x.same x'&&y.same y'
 | .Mr,.Mr=>true
 | .fn f c,.fn f' c'=>f==f'&&c==c'
 | .keys n e,.keys n' e'=>n==n'&&e.same e'
 | .aoZ,.aoZ=>true
 | .aoY,.aoY=>true
 | .mp b,.mp b'=>b==b'
 | .bs b l n,.bs b' l' n'=>b==b'&&l==l'&&n==n'
 | .fb f m b,.fb f' m' b'=>f==f'&&m==m'&&b==b'
 | .sp b,.sp b'=>b==b'
 |_,_=>false
def At.under (n:Nat):At->Bool
 | .int _ e| .bool e| .str e| .pel _ _ e _| .keys _ e=>e.under n
 | .sl _ _ x y=>x.under n&&y.under n
 |_=>true
def SC.under (n:Nat):SC->Bool| .a x=>x.under n| .g cs=>cs.all (·.under n)
def SV.under (n:Nat):SV->Bool| .c x=>x.under n| .t xs=>xs.all (·.under n)| .nx e p ch=>e.under n&&p.under n&&ch.under n
def At.le (x y:At):Bool:=(match x with| .top=>true|_=>false)||x.same y
def leL:List At->List At->Bool
 |[],[]=>true
 |x::xs,y::ys=>x.le y&&leL xs ys
 |_,_=>false
def SC.le:SC->SC->Bool
 | .a .top,_=>true
 | .a x,.a y=>x.le y
 | .g x,.g y=>leL x y
 |_,_=>false
def leC:List SC->List SC->Bool
 |[],[]=>true
 |x::xs,y::ys=>x.le y&&leC xs ys
 |_,_=>false
def SV.le:SV->SV->Bool
 | .c (.a .top),_=>true
 | .c x,.c y=>x.le y
 | .t x,.t y=>leC x y
 | .nx e p ch,.nx e1 p1 ch1=>e.same e1&&p.same p1&&ch.same ch1
 |_,_=>false
structure Bk where
 cells:List At
 ty:TypeId
 kd:Nat
structure Rw where
 el:TypeId
 ks:List CK
 agg:Bool
 cont:Ex
 own:Bool
 hole:Option (Ex×Nat×Nat)
def Z1:Option (Ex×Nat×Nat)->Option (Ex×Nat×Nat)->Bool
 |none,none=>true
 |some (x,o,q),some (y,o',q')=>x.same y&&o==o'&&q==q'
 |_,_=>false
def Rw.same (a b:Rw):Bool:=a.el==b.el&&decide (a.ks=b.ks)&&a.agg==b.agg&&a.cont.same b.cont&&a.own==b.own&&Z1 a.hole b.hole
def Rw.plain (a:Rw):Bool:=match a.hole with|none=>true|some _=>false
def Rw.Wo (n:Nat) (a:Rw):Bool:=match a.hole with|none=>true|some (x,_,_)=>x.under n
inductive T (L:Type) where
 |aa (x:L)
 |fail (why:String)
 |ite (c:Ex) (a b:T L)
 |ag (c:Ex) (k:T L)
 |call (f:Nat) (args:List Ex) (n:Nat) (k:T L)
 |loop (NL:List Ex) (body:T L)
 |next (lvl:Nat) (fY:List Ex)
def T.bind {L M:Type}:T L->(L->T M)->T M
 | .aa x,f=>f x
 | .fail w,_=> .fail w
 | .ite c a b,f=> .ite c (a.bind f) (b.bind f)
 | .ag c k,f=> .ag c (k.bind f)
 | .call g as n k,f=> .call g as n (k.bind f)
 | .loop i k,f=> .loop i (k.bind f)
 | .next l vs,_=> .next l vs
structure St where
 nv:Nat
 lv:Nat
 aZ:List SV
 aO:List (Option Bk)
 rows:List (Option Rw)
def St.slot (σ:St) (t:Nat):SV:=σ.aZ.getD t .top
def St.blk (σ:St) (b:Nat):Option Bk:=σ.aO.getD b none
def St.row (σ:St) (r:Nat):Option Rw:=σ.rows.getD r none
inductive AS where
 |ck (k:CK)
inductive PS where
 |rd (k:CK)|ck (k:CK)|own (el:TypeId)|sp
inductive CS where
 |a (x:AS)|g (xs:List AS)|p (ty:TypeId) (ss:List PS)|f (g:Nat) (ls:List (TypeId×List PS))
inductive RS where
 |c (x:CS)|t (xs:List CS)|o (el:TypeId)|ot (el:TypeId) (xs:List CS)
structure nK where
 key:Nat
 f:FuncId
 args:List CS
 res:RS
structure il where
 lN:List Ex
 call:Option (Nat×List Ex×Nat)
 val:SV
 aO:List (Nat×Option Bk)
 rows:List (Nat×Option Rw)
 nb:List Nat
 nr:List Nat
def il.pure (v:SV):il:=⟨[],none,v,[],[],[],[]⟩
def aq1:Value->Option At
 | .int k n=>some (.int k (.i n))
 | .bool b=>some (.bool (.b b))
 | .string s=>some (.str (.s (s.data.toList.map UInt8.toNat)))
 | .pointer none=>some .als
 | .slice none 0 0=>some .Mr
 | .map none=>some .aoZ
 | .nilFunc=>some .aoY
 |_=>none
def acq:List Value->Option (List At)
 |[]=>some []
 |v::vs=>match aq1 v,acq vs with
  |some x,some xs=>some (x::xs)
  |_,_=>none
def ai4:Value->Option SV
 | .agg cs=>(acq cs.toList).map fun x=> .c (.g x)
 | .tuple vs=>match vs.toList with|[]=>some (.t [])|_=>none
 |v=>(aq1 v).map .at
abbrev fF:=List Sc->Option (List Sc)
abbrev eJ:=List (Nat×Option Rw)
abbrev tB:=Nat->Option Rw
abbrev aP:=List Sc
abbrev dm:=List Value
abbrev lU:=Nat->Prop
abbrev jl:=List Nat
abbrev mA:=List Ex
abbrev qE:=List At
abbrev tE:=List CK
abbrev LAs:=List AS
abbrev LCs:=List CS
abbrev H0:=List PS
abbrev iu:=List Oper
abbrev uE:=List TypeId
abbrev uD:=List Int
abbrev ahx:=List Tmp
abbrev nw:=List nK
section
def Operand.aE6:Operand->Option Tmp| .tmp t=>some t|_=>none
def Cb (ops:iu) (o:Oper):ahx:=
 (o.op.operands.toList.filterMap Operand.aE6)++(match o.guard with|some (g,_)=>((ops[g]?).bind (·.dst)).toList|none=>[])
def At.JV:At->jl| .ptr p _=>[p]| .mp p=>[p]| .bs p _ _=>[p]| .fb _ _ p=>[p]| .sp p=>[p]| .fn _ cs=>cs|_=>[]
def At.rid:At->Option Nat| .pel r _ _ _| .vec r| .sl r _ _ _=>some r|_=>none
def SC.atoms:SC->qE| .a x=>[x]| .g cs=>cs
def SV.atoms:SV->qE| .c x=>x.atoms| .t xs=>xs.flatMap SC.atoms| .nx _ _ _=>[]
def SV.JV (x:SV):jl:=x.atoms.flatMap At.JV
def SV.aw9 (x:SV):jl:=x.atoms.filterMap At.rid
structure Rd where
 ev:Operand->SV
 blk:Nat->Option Bk
 row:tB
 nv:Nat
 nb:Nat
 nr:Nat
def evS (slot:Nat->SV):Operand->SV
 | .tmp t=>slot t
 | .const v=>(ai4 v).getD .top
 | .func f=> .at (.fn f [])
 | .global _=> .top
def oQ (l:jl) (n:Nat):Bool:=l.any (Nat.beq n)
def Gh (slot:Nat->SV) (ops:iu) (o:Oper):ahx:=
 match o.op with
 | .move _=>[]| .assign _=>[]
 | .store _ (.tmp t) _=>(match slot t with| .c (.a (.ptr _ _))=>[t]|_=>Cb ops o)
 |_=>Cb ops o
def LQ (ops:iu) (o:Oper):ahx:=match o.op with| .call _=>Cb ops o|_=>[]
def amM:Option Bk->jl|some k=>k.cells.filterMap At.rid|none=>[]
def sj (slot:Nat->SV) (blk:Nat->Option Bk) (ds ls:ahx):jl:=
 (ds.flatMap fun t=>(slot t).aw9)++(ls.flatMap fun t=>(slot t).JV).flatMap fun p=>amM (blk p)
def Yb (slot:Nat->SV) (blk:Nat->Option Bk) (row:tB) (ts ds ls:ahx) (nv nb nr:Nat):Rd:=
 {ev:=evS fun t=>cond (oQ ts t) (slot t) .top
  blk:=fun p=>cond (oQ (ds.flatMap fun t=>(slot t).JV) p) (blk p) none
  row:=fun r=>cond (oQ (sj slot blk ds ls) r) (row r) none
  nv,nb,nr}
section
variable (P:Program)
def akt:Nat->TypeId->List (Option TypeId)
 |0,_=>[]
 |d+1,ty=>match P.underlying ty with
  |some (.struct fs)=>fs.toList.flatMap fun f=>akt d f.type
  |some (.array n el)=>(replicate n (akt d el)).flatten
  |some (.slice el)=>[some el]
  |_=>[none]
def arc:Value->Option TypeId->Option CK
 | .int k _,_=>some (.int k)| .bool _,_=>some .bool| .string _,_=>some .str
 | .slice none 0 0,some el=>some (.sl el)|_,_=>none
def afw:dm->List (Option TypeId)->Option tE
 |[],_=>some []
 |v::vs,ts=>match arc v ts.head?.join,afw vs ts.tail with
  |some x,some xs=>some (x::xs)
  |_,_=>none
def wi (ty:TypeId):Option Value:=(P.info? ty).bind (·.zero)
def qg (el:TypeId):Option (Bool×tE):=
 match wi P el with
 |some (.agg cs)=>(afw cs.toList (akt P 8 el)).map fun x=>(true,x)
 |some v=>(arc v (akt P 8 el).head?.join).map fun x=>(false,[x])
 |none=>none
def EK (ty:TypeId):Option Bool:=
 match P.underlying ty with
 |some (.struct _)|some (.array _ _)=>some true
 |some _=>some false
 |none=>none
def ni (ty:TypeId):Option Nat:=(P.info? ty).map (·.size)
def ad6 (ty:TypeId) (f:Nat):Option Field:=
 match P.underlying ty with
 |some (.struct fs)=>fs[f]?
 |_=>none
def au7:CK->Ex->At| .int k,e=> .int k e| .bool,e=> .bool e| .str,e=> .str e| .sl _,_=> .top
def aq0:CK->At->Option Ex
 | .int k,.int k' e=>if k=k' then some e else none
 | .bool,.bool e=>some e
 | .str,.str e=>some e
 |_,_=>none
def yz (e:Ex):tE->Nat->List (CK×Ex)
 |[],_=>[]
 |k::ks,n=>(k,CB (.cell n) e)::yz e ks (n+1)
def T7 (agg:Bool) (ks:tE) (e:Ex):List (CK×Ex):=
 match agg,ks with
 |true,ks=>yz e ks 0
 |false,[k]=>[(k,e)]
 |false,_=>[]
def ES (nr:Nat) (e:Ex):CK->At×eJ×Nat
 | .sl el=>match qg P el with
   |some (agg,ks)=>(.vec nr,[(nr,some ⟨el,ks,agg,e,false,none⟩)],nr+1)
   |none=>(.top,[],nr)
 |k=>(au7 k e,[],nr)
def rH (nr:Nat) (e:Ex):AS->At×eJ×Nat
 | .ck k=>ES P nr e k
def lO (nr:Nat):List (AS×Ex)->qE×eJ×Nat
 |[]=>([],[],nr)
 |(s,e)::ps=>
  let(x,r,OP):=rH P nr e s
  let(xs,rs,nr2):=lO OP ps
  (x::xs,r++rs,nr2)
def Rw.elem (w:Rw) (ix:Ex):Ex:=iV .idx w.cont ix
def SV.sc:SV->Option SC| .c x=>some x|_=>none
def SV.cells:SV->Option qE
 | .c (.a x)=>some [x]
 | .c (.g cs)=>some cs
 |_=>none
def SV.int? :SV->Option (IntKind×Ex)| .c (.a (.int k e))=>some (k,e)|_=>none
def SV.at? :SV->Option At| .c (.a x)=>some x|_=>none
def At.known:At->Bool| .top=>false| .keys _ _=>false|_=>true
def yM:qE->Nat->qE->Option qE
 |cs,0,[]=>some cs
 |_::cs,0,x::xs=>(yM cs 0 xs).map (x::·)
 |c::cs,n+1,xs=>(yM cs n xs).map (c::·)
 |[],_,_=>none
def yQ {α:Type}:List α->Nat->Nat->Option (List α)
 |_,0,0=>some []
 |c::cs,0,n+1=>(yQ cs 0 n).map (c::·)
 |_::cs,o+1,n=>yQ cs o n
 |[],_,_=>none
def N2 (ty:TypeId) (cs:qE) (off:Nat):Option SV:=
 match EK P ty,ni P ty with
 |some true,some n=>(yQ cs off n).map fun x=> .c (.g x)
 |some false,_=>cs[off]?.map .at
 |_,_=>none
def aeB (nr:Nat) (ty:TypeId) (ps:List (CK×Ex)) (off:Nat):Option (SV×eJ×Nat):=
 match EK P ty,ni P ty with
 |some true,some n=>match yQ ps off n with
  |some qs=>let(xs,rs,n):=lO P nr (qs.map fun p=>(AS.ck p.1,p.2));some (.c (.g xs),rs,n)
  |none=>none
 |some false,_=>match ps[off]? with
  |some p=>let(x,rs,n):=ES P nr p.2 p.1;some (.at x,rs,n)
  |none=>none
 |_,_=>none
def ana (pl:uE):Nat->TypeId->SC->SC->Option Ex
 |0,_,_,_=>none
 |d+1,ty,x,y=>
  match P.underlying ty,x,y with
  |some (.int _),.a (.int k x),.a (.int k' y)=>if k=k' then some (iV .eq x y)else none
  |some .bool,.a (.bool x),.a (.bool y)=>some (iV .beq x y)
  |some .string,.a (.str x),.a (.str y)=>some (iV .seq x y)
  |some (.struct fs),.g xs,.g ys=>
   if ! oQ pl ty then none else
   fs.toList.foldr (fun f acc=>
    if f.name= "_" then none else
    match acc,(N2 P f.type xs f.offset).bind SV.sc,(N2 P f.type ys f.offset).bind SV.sc with
    |some r,some p,some q=>match ana pl d f.type p q with
     |some e=>some (iV .and e r)
     |none=>none
    |_,_,_=>none) (some (.b true))
  |_,_,_=>none
def ai5 (pl:uE) (op:BinOp) (ty:TypeId) (x y:SV):Option il:=
 let fin (k:IntKind) (f:U2) (a b:Ex):=some (il.pure (.at (.int k (iV f a b))))
 let bin (f:U2) (a b:Ex):=some (il.pure (.at (.bool (iV f a b))))
 match x,y with
 | .c (.a (.int k a)),.c (.a (.int k' b))=>
   match op with
   | .shl=>some {il.pure (.at (.int k (iV (.shl k) a b)))with lN:=[iV .le (.i 0) b]}
   | .shr=>some {il.pure (.at (.int k (iV (.shr k) a b)))with lN:=[iV .le (.i 0) b]}
   |op=>
    if k=k' then match op with
     | .add=>fin k (.add k) a b
     | .sub=>fin k (.sub k) a b
     | .mul=>fin k (.mul k) a b
     | .quo=>some {il.pure (.at (.int k (iV (.quo k) a b)))with lN:=[iV .ne b (.i 0)]}
     | .rem=>some {il.pure (.at (.int k (iV (.rem k) a b)))with lN:=[iV .ne b (.i 0)]}
     | .and=>fin k (.ahE k) a b
     | .or=>fin k (.bor k) a b
     | .xor=>fin k (.amT k) a b
     | .andNot=>fin k (.ajs k) a b
     | .eql=>bin .eq a b
     | .neq=>bin .ne a b
     | .lss=>bin .lt a b
     | .leq=>bin .le a b
     | .gtr=>bin .lt b a
     | .geq=>bin .le b a
     |_=>none
    else none
 | .c (.a (.str a)),.c (.a (.str b))=>
   match op with
   | .add=>some {il.pure (.at (.str (iV .cat a b)))with lN:=[iV .le (.u .fD (iV .cat a b)) (.i 9223372036854775807)]}
   | .eql=>bin .seq a b
   | .neq=>some (il.pure (.at (.bool (CB .not (iV .seq a b)))))
   |_=>none
 | .c (.a (.bool a)),.c (.a (.bool b))=>
   match op,P.underlying ty with
   | .eql,some .bool=>bin .beq a b
   | .neq,some .bool=>some (il.pure (.at (.bool (CB .not (iV .beq a b)))))
   |_,_=>none
 | .c (.g a),.c (.g b)=>
   if ! oQ pl ty then none else
   match op,ana P pl 4 ty (.g a) (.g b)with
   | .eql,some e=>some (il.pure (.at (.bool e)))
   | .neq,some e=>some (il.pure (.at (.bool (CB .not e))))
   |_,_=>none
 |_,_=>none
def dC (agg:Bool) (ks:tE):Bool:=match ks with|[]=>false|[_]=>true|_=>agg
def cy (row:tB):SV->Option (Option (Nat×Rw)×Ex×Ex)
 | .c (.a (.vec r))=>match row r with|some w=>if dC w.agg w.ks&&w.plain then some (some (r,w),.i 0,CB .len w.cont)else none|none=>none
 | .c (.a (.sl r es lo len))=>match row r with|some w=>if es=w.ks.length/\dC w.agg w.ks/\w.plain then some (some (r,w),lo,len)else none|none=>none
 | .c (.a .Mr)=>some (none,.i 0,.i 0)
 |_=>none
def vU:SV->Option (Nat×Rw)->Ex->Ex->Ex
 | .c (.a (.vec _)),some (_,w),_,_=>w.cont
 |_,some (_,w),lo,len=>TV .KI w.cont lo (iV (.add .i64) lo len)
 |_,none,_,_=> .nil
def UT (row:tB) (el:TypeId) (ks:tE) (agg:Bool) (x:At):Option (Ex×eJ):=
 match cy row (.at x)with
 |some (some (r,w),lo,len)=>
  if w.el=el/\w.ks=ks/\w.agg=agg then some (vU (.at x) (some (r,w)) lo len,if w.own then[(r,some {w with own:=false})]else[])else none
 |some (none,_,_)=>some (.nil,[])
 |none=>none
def Eu (row:tB) (k:CK) (x:At):Option (Ex×eJ):=
 match k with
 | .sl el=>match qg P el with
   |some (agg,ks)=>if dC agg ks then UT row el ks agg x else none
   |none=>none
 |k=>(aq0 k x).map fun e=>(e,[])
def Am (row:tB):List (CK×Ex)->Nat->qE->Option (Ex×eJ)
 |[],0,[]=>some (.nil,[])
 |(_,e)::ps,0,[]=>match Am row ps 0 []with|some (r,f)=>some (.o .cons e r,f)|none=>none
 |(k,_)::ps,0,x::xs=>match Eu P row k x,Am row ps 0 xs with
  |some (e,f),some (r,fs)=>some (.o .cons e r,f++fs)
  |_,_=>none
 |(_,e)::ps,n+1,xs=>match Am row ps n xs with|some (r,f)=>some (.o .cons e r,f)|none=>none
 |[],_,_=>none
def GI (row:tB) (agg:Bool) (ks:tE) (e:Ex) (off:Nat) (xs:qE):Option (Ex×eJ):=
 match agg with
 |true=>Am P row (yz e ks 0) off xs
 |false=>match ks,off,xs with|[k],0,[x]=>Eu P row k x|_,_,_=>none
def ajq (row:tB):AS->At->Option (Ex×eJ)
 | .ck k,x=>Eu P row k x
def Co (row:tB):LAs->qE->Option (mA×eJ)
 |[],[]=>some ([],[])
 |s::ss,x::xs=>match ajq P row s x,Co row ss xs with
  |some (e,r),some (es,rs)=>some (e::es,r++rs)
  |_,_=>none
 |_,_=>none
def ahA (row:tB):CS->SV->Option (mA×eJ)
 | .a s,.c (.a x)=>(ajq P row s x).map fun(e,r)=>([e],r)
 | .g ss,.c (.g xs)=>Co P row ss xs
 |_,_=>none
def F2 (row:tB):LCs->List SV->Option (mA×eJ)
 |[],[]=>some ([],[])
 |s::ss,x::xs=>match ahA P row s x,F2 row ss xs with
  |some (e,r),some (es,rs)=>some (e++es,r++rs)
  |_,_=>none
 |_,_=>none
def rK (el:TypeId) (ks:tE) (agg:Bool):Option (Nat×Rw)->Bool
 |some (_,w)=>w.el==el&&decide (w.ks=ks)&&w.agg==agg&&w.plain
 |none=>true
def CS.fS:CS->List (TypeId×H0)| .p ty ss=>[(ty,ss)]| .f _ ls=>ls|_=>[]
def fS (l:LCs):List (TypeId×H0):=l.flatMap CS.fS
def PS.agz:PS->Option TypeId| .own el=>some el|_=>none
def PS.in? :PS->Option CK| .rd k| .ck k=>some k|_=>none
def PS.awK:PS->Option CK| .ck k=>some k|_=>none
def oX (ls:List (TypeId×H0)):uE:=ls.flatMap fun x=>x.2.filterMap PS.agz
def TJ (ls:List (TypeId×H0)):tE:=ls.flatMap fun x=>x.2.filterMap PS.in?
def EU (ls:List (TypeId×H0)):tE:=ls.flatMap fun x=>x.2.filterMap PS.awK
def avC (row:tB):CS->SV->Option (mA×eJ×jl)
 | .p _ _,.c (.a (.ptr b 0))=>some ([],[],[b])
 | .f g ls,.c (.a (.fn h mR))=>if Nat.beq g h&&Nat.beq mR.length ls.length then some ([],[],mR)else none
 |s,x=>(ahA P row s x).map fun(e,r)=>(e,r,[])
def SH (row:tB):LCs->List SV->Option (mA×eJ×jl)
 |[],[]=>some ([],[],[])
 |s::ss,x::xs=>match avC P row s x,SH row ss xs with
  |some (e,r,b),some (es,rs,bs)=>some (e++es,r++rs,b++bs)
  |_,_=>none
 |_,_=>none
structure uF where
 os:mA
 es:mA
 fr:eJ
 rs:jl
def uF.app (a b:uF):uF:=⟨a.os++b.os,a.es++b.es,a.fr++b.fr,a.rs++b.rs⟩
def spB (b:Nat):At->Bool| .als=>true| .ptr q 0=>Nat.beq q b| .sp q=>Nat.beq q b|_=>false
def aca (row:tB) (b:Nat):PS->At->Option uF
 | .rd k,x| .ck k,x=>(Eu P row k x).map fun(e,f)=>⟨[],[e],f,[]⟩
 | .own el,.vec r=>match row r,qg P el with
   |some w,some (agg,ks)=>if w.own&&rK el ks agg (some (r,w))&&dC agg ks then some ⟨[w.cont],[],[],[r]⟩else none
   |_,_=>none
 | .own el,.Mr=>match qg P el with
   |some (agg,ks)=>if dC agg ks then some ⟨[.nil],[],[],[]⟩else none
   |none=>none
 | .sp,x=>if spB b x then some ⟨[],[],[],[]⟩else none
 |_,_=>none
def CA (row:tB) (b:Nat):H0->qE->Option uF
 |[],[]=>some ⟨[],[],[],[]⟩
 |s::ss,x::xs=>match aca P row b s x,CA row b ss xs with
  |some y,some ys=>some (y.app ys)
  |_,_=>none
 |_,_=>none
def nd (row:tB) (blk:Nat->Option Bk):List (TypeId×H0)->jl->Option uF
 |[],[]=>some ⟨[],[],[],[]⟩
 |(ty,ss)::ls,b::bs=>match blk b with
  |some k=>if Nat.beq k.ty ty&&Nat.beq k.kd 0 then match CA P row b ss k.cells,nd row blk ls bs with
    |some y,some ys=>some (y.app ys)
    |_,_=>none
   else none
  |none=>none
 |_,_=>none
def fu (nv nr:Nat):uE->eJ
 |[]=>[]
 |el::r=>(match qg P el with|some (agg,ks)=>[(nr,some ⟨el,ks,agg,.v nv,true,none⟩)]|none=>[])++fu (nv+1) (nr+1) r
def dN (ro:Bool) (b:Nat):Nat->H0->qE->qE->qE×Nat×qE
 |nr,[],_,ys=>([],nr,ys)
 |nr,.rd k::ss,xs,ys=>if ro then(let(r,n,y):=dN ro b nr ss xs.tail ys;(xs.headD .top::r,n,y))else(let(r,n,y):=dN ro b nr ss xs.tail ys.tail;(ys.headD .top::r,n,y))
 |nr,.ck k::ss,xs,ys=>let(r,n,y):=dN ro b nr ss xs.tail ys.tail;(ys.headD .top::r,n,y)
 |nr,.own _::ss,xs,ys=>let(r,n,y):=dN ro b (nr+1) ss xs.tail ys;(.vec nr::r,n,y)
 |nr,.sp::ss,xs,ys=>let(r,n,y):=dN ro b nr ss xs.tail ys;(.sp b::r,n,y)
def iy (ro:Bool) (blk:Nat->Option Bk):Nat->List (TypeId×H0)->jl->qE->List (Nat×Option Bk)
 |nr,(ty,ss)::ls,b::bs,ys=>
  let(cs,n,y):=dN ro b nr ss (match blk b with|some k=>k.cells|none=>[]) ys
  (b,some ⟨cs,ty,0⟩)::iy ro blk n ls bs y
 |_,_,_,_=>[]
def fw (nv:Nat):LAs->List (AS×Ex)
 |[]=>[]
 |s::ss=>(s,.v nv)::fw (nv+1) ss
def v8 (nv nr:Nat):CS->SC×eJ×Nat×Nat
 | .a s=>let(x,r,OP):=rH P nr (.v nv) s;(.a x,r,nv+1,OP)
 | .g ss=>let(xs,r,OP):=lO P nr (fw nv ss);(.g xs,r,nv+ss.length,OP)
 |_=>(.a .top,[],nv,nr)
def wY (nv nr:Nat):LCs->List SC×eJ×Nat×Nat
 |[]=>([],[],nv,nr)
 |s::ss=>
  let(x,r,nv1,OP):=v8 P nv nr s
  let(xs,rs,nv2,nr2):=wY nv1 OP ss
  (x::xs,r++rs,nv2,nr2)
def Ms (nv nr q:Nat):RS->SV×eJ×Nat×Nat
 | .c s=>let(x,r,a,b):=v8 P nv nr s;(.c x,r,a,b)
 | .t ss=>let(xs,r,a,b):=wY P nv nr ss;(.t xs,r,a,b)
 | .o _=>(.at (.vec q),[],nv,nr)
 | .ot _ ss=>let(xs,r,a,b):=wY P nv nr ss;(.t (.a (.vec q)::xs),r,a,b)
def RS.agz:RS->uE| .o el=>[el]| .ot el _=>[el]|_=>[]
def F7 (row:tB) (agg:Bool) (ks:tE):Nat->List (Nat×SV)->Option (Ex×eJ)
 |_,[]=>some (.nil,[])
 |n,(i,x)::rest=>if i=n then match x.cells with
   |some xs=>if xs.length=ks.length then match GI P row agg ks .nil 0 xs,F7 row agg ks (n+1) rest with
     |some (e,f),some (es,fs)=>some (.o .cons e es,f++fs)
     |_,_=>none
    else none
   |none=>none
  else none
def W0 (place:Nat->Option (Nat×Nat)) (cs:qE):List (Nat×SV)->Option qE
 |[]=>some cs
 |(i,x)::rest=>match place i,x.cells with
  |some (off,size),some xs=>if xs.length=size/\xs.all At.known then match yM cs off xs with
    |some R0=>W0 place R0 rest
    |none=>none
   else none
  |_,_=>none
def room (cont:Ex) (bytes:Nat):Ex:=iV .le (CB .len cont) (.i ((140737488355328/bytes:Nat):Int))
def xf (x:Ex):Ex->Ex
 | .nil=>x
 | .o .cons e r=>xf (iV .bC x e) r
 |y=>match x with| .nil=>y|x=>iV .app x y
def awz (r:Nat):Option (Nat×Rw)->Bool
 |some (q,_)=> !(Nat.beq q r)
 |none=>true
def mmL (f:U2):Ex->List SV->Option Ex
 |e,[]=>some e
 |e,.c (.a (.int _ q))::r=>mmL f (iV f e q) r
 |_,_=>none
def auR:Option Value->Bool|some (.int k z)=>decide (k= .u8)&&decide (z=0)|_=>false
def ae4:CK->Value->Option Ex
 | .int k,.int k' z=>if k=k'/\z=0 then some (.i 0)else none
 | .bool,.bool b=>if b then none else some (.b false)
 | .str,.string s=>if s.size=0 then some (.s [])else none
 | .sl el,.slice none 0 0=>if(qg P el).isSome then some .nil else none
 |_,_=>none
def Le:tE->dm->Option Ex
 |[],[]=>some .nil
 |k::ks,v::vs=>match ae4 P k v,Le ks vs with|some e,some r=>some (.o .cons e r)|_,_=>none
 |_,_=>none
def Oz (agg:Bool) (ks:tE) (zs:dm):Option Ex:=
 match agg,ks,zs with
 |true,ks,zs=>Le P ks zs
 |false,[k],[v]=>ae4 P k v
 |_,_,_=>none
def MY (rd:Rd) (s x:Operand) (t t':TypeId):Option il:=
 match P.underlying t,P.underlying t' with
 |some (.slice el),some (.int _)=>
  match qg P el,P.info? el,rd.ev s,rd.ev x with
  |some (agg,ks),some i,.c (.a .Mr),.c (.a (.int .i64 n))=>match i.zero with
   |some z=>if dC agg ks&&blt 0 i.bytes&&Nat.beq i.size ks.length then match Oz P agg ks z.cells.toList with
     |some e=>some ⟨[iV .le (.i 0) n,iV .le n (.i ((140737488355328/i.bytes:Nat):Int))],none,.at (.vec rd.nr),[],[(rd.nr,some ⟨el,ks,agg,.o .rep e n,true,none⟩)],[],[rd.nr]⟩
     |none=>none
    else none
   |none=>none
  |_,_,_,_=>none
 |_,_=>none
def Y6 (rd:Rd) (s x:Operand) (t t':TypeId):Option il:=
 match P.underlying t,P.underlying t' with
 |some (.slice el),some .string=>
  match P.info? el,rd.ev x with
  |some i,.c (.a (.str e))=>
   if Nat.beq i.bytes 1&&Nat.beq i.size 1&&auR i.zero then
    match rd.ev s with
    | .c (.a (.vec r))=>match rd.row r with
      |some w=>if w.own&&rK el [.int .u8] false (some (r,w))then
        let c:=xf w.cont (CB .bytes e)
        some ⟨[room c 1],none,.at (.vec rd.nr),[],[(r,none),(rd.nr,some {w with cont:=c})],[],[rd.nr]⟩
       else none
      |none=>none
    | .c (.a .Mr)=>
      let c:=xf .nil (CB .bytes e)
      some ⟨[room c 1],none,.at (.vec rd.nr),[],[(rd.nr,some ⟨el,[.int .u8],false,c,true,none⟩)],[],[rd.nr]⟩
    |_=>none
   else none
  |_,_=>none
 |_,_=>none
def aav (m:Bool) (b:Nat):At:=cond m (.mp b) (.ptr b 0)
def Nu (rd:Rd) (g:Nat) (xs:List SV):nw->Option (nK×mA×eJ×jl×uF)
 |[]=>none
 |c::r=>if Nat.beq c.f g then match SH P rd.row c.args xs with
   |some (es,fr,bs)=>match nd P rd.row rd.blk (fS c.args) bs with
    |some l=>some (c,es,fr,bs,l)
    |none=>Nu rd g xs r
   |none=>Nu rd g xs r
  else Nu rd g xs r
def WV:jl->Bool
 |[]=>true
 |x::xs=> ! oQ xs x&&WV xs
def J0 (cons:nw) (rd:Rd) (g:Nat) (xs:List SV):Option il:=
 match Nu P rd g xs cons with
 |some (dr,es,fr,bs,l)=>
  if WV bs&&WV l.rs&&l.rs.all (fun r=>(fr++l.fr).all fun x=> !Nat.beq x.1 r)then
   let ls:=fS dr.args
   let k:=(oX ls).length
   let m:=(oX ls++dr.res.agz).length
   let(v,rs,nv1,OP):=Ms P (rd.nv+m) (rd.nr+m) (rd.nr+k) dr.res
   let(ys,rs2,nr2):=lO P OP (fw nv1 ((EU ls).map AS.ck))
   let news:=fu P rd.nv rd.nr (oX ls++dr.res.agz)++rs++rs2
   some ⟨[],some (dr.key,l.os++l.es++es,nv1+(EU ls).length-rd.nv),v,iy true rd.blk rd.nr ls bs ys,(fr++l.fr)++l.rs.map (fun r=>(r,none))++news,[],news.map (·.1)⟩
  else none
 |none=>none
def KX (cons:nw) (rd:Rd) (c:Call):Option il:=
 match c.callee with
 | .builtin .len=>
   match c.args.toList,c.argTypes.toList with
   |[x],t::_=>match P.underlying t,rd.ev x with
    |some .string,.c (.a (.str e))=>some (il.pure (.at (.int .i64 (CB .fD e))))
    |some (.slice _),.c (.a (.bs _ _ n))=>some (il.pure (.at (.int .i64 (.i n))))
    |some (.slice _),x=>(cy rd.row x).map fun(_,_,len)=>il.pure (.at (.int .i64 len))
    |some (.array n _),_=>some (il.pure (.at (.int .i64 (.i n))))
    |_,_=>none
   |_,_=>none
 | .builtin .cap=>
   match c.args.toList,c.argTypes.toList with
   |[x],t::_=>match P.underlying t,rd.ev x with
    |some (.slice _),.c (.a .Mr)=>some (il.pure (.at (.int .i64 (.i 0))))
    |_,_=>none
   |_,_=>none
 | .builtin .clear=>
   match c.args.toList,c.argTypes.toList with
   |[x],[t]=>match P.underlying t,rd.ev x with
    |some (.slice el),.c (.a (.sl r es lo len))=>match rd.row r,qg P el,(P.info? el).bind (·.zero)with
     |some w,some (agg,ks),some z=>if w.own&&rK el ks agg (some (r,w))&&dC agg ks&&Nat.beq es ks.length then match Oz P agg ks z.cells.toList with
       |some e=>some ⟨[],none,.t [],[],[(r,some {w with cont:=xf (TV .KI w.cont (.i 0) lo) (xf (.o .rep e len) (TV .KI w.cont (iV (.add .i64) lo len) (CB .len w.cont)))})],[],[]⟩
       |none=>none
      else none
     |_,_,_=>none
    |_,_=>none
   |_,_=>none
 | .builtin .max=>
   match c.args.toList with
   |x::rest=>match rd.ev x with
    | .c (.a (.int k e))=>(mmL .max e (rest.map rd.ev)).map fun e=>il.pure (.at (.int k e))
    |_=>none
   |_=>none
 | .builtin .min=>
   match c.args.toList with
   |x::rest=>match rd.ev x with
    | .c (.a (.int k e))=>(mmL .min e (rest.map rd.ev)).map fun e=>il.pure (.at (.int k e))
    |_=>none
   |_=>none
 | .builtin .append=>
   match c.args.toList,c.argTypes.toList with
   |[s,x],[t,t']=>
    if t=t' then match P.underlying t with
     |some (.slice el)=>match qg P el,P.info? el,cy rd.row (rd.ev x)with
      |some (agg,ks),some i,some (src,lo,len)=>
       if rK el ks agg src&&dC agg ks&&blt 0 i.bytes&&Nat.beq i.size ks.length then
        let y:=vU (rd.ev x) src lo len
        match rd.ev s with
        | .c (.a (.vec r))=>match rd.row r with
          |some w=>if w.own&&rK el ks agg (some (r,w))&&awz r src then
            let c:=xf w.cont y
            some ⟨[room c i.bytes],none,.at (.vec rd.nr),[],[(r,none),(rd.nr,some {w with cont:=c})],[],[rd.nr]⟩
           else none
          |none=>none
        | .c (.a .Mr)=>
          let c:=xf .nil y
          some ⟨[room c i.bytes],none,.at (.vec rd.nr),[],[(rd.nr,some ⟨el,ks,agg,c,true,none⟩)],[],[rd.nr]⟩
        |_=>none
       else none
      |_,_,_=>none
     |_=>none
    else match MY P rd s x t t' with
     |some r=>some r
     |none=>Y6 P rd s x t t'
   |_,_=>none
 | .value f=>
   match rd.ev f with
   | .c (.a (.fn g []))=>J0 P cons rd g (c.args.toList.map rd.ev)
   | .c (.a (.fb g m b))=>J0 P cons rd g (.at (aav m b)::c.args.toList.map rd.ev)
   |_=>none
 |_=>none
def aj7 (rd:Rd):Option Operand->Option Ex
 |some l=>(rd.ev l).int?.map (·.2)
 |none=>some (.i 0)
def aej (rd:Rd) (hi:Option Operand) (d:Ex):Option Ex:=
 match hi with
 |some h=>(rd.ev h).int?.map (·.2)
 |none=>some d
def Xp (rd:Rd):Option Operand->Bool
 |none=>true
 |some x=>match rd.ev x with| .c (.a (.int _ (.i 0)))=>true|_=>false
def aun:SV->Bool| .c (.a (.vec _))=>true|_=>false
def aAj (v:SV) (lo e:Ex):Ex:=match v with| .c (.a (.vec _))=>e|_=>iV (.add .i64) lo e
def aih (pl:uE) (row:tB) (r:Nat) (w:Rw) (off:Nat):qE->Option Nat
 |[.vec q]=>if oQ pl 999999999 then match row q,w.ks[off]? with
    |some k,some (.sl el)=>if k.own&&k.plain&& !Nat.beq q r&&Nat.beq k.el el&&blt off w.ks.length then some q else none
    |_,_=>none
  else none
 |_=>none
def ans (ty:TypeId):Bool:=match EK P ty with|some false=>true|_=>false
def ajR (rd:Rd):SV->Option (Nat×Rw)
 | .c (.a (.vec r))=>match rd.row r with
   |some w=>if w.plain|| !w.own then none else some (r,w)
   |none=>none
 |_=>none
def au5:SV->Ex->Option (Nat×Nat)
 | .c (.a (.bs b lo n)),.i z=>if 0<=z/\z<(n:Int)then some (b,lo+z.toNat)else none
 |_,_=>none
def aoD (key:TypeId):Option Nat:=
 match P.underlying key with
 |some .string=>some 0
 |some (.array n el)=>match P.underlying el,ni P el with
  |some .string,some 1=>if Nat.beq n 2 then some 2 else none
  |_,_=>none
 |_=>none
def ago (ty:TypeId):Option (Nat×TypeId):=
 match P.underlying ty with
 |some (.map key elem)=>match P.underlying elem,aoD P key,wi P elem with
  |some .bool,some n,some (.bool false)=>some (n,key)
  |_,_,_=>none
 |_=>none
def agY:qE->Option Ex
 |[]=>some .nil
 | .str e::r=>(agY r).map fun x=> .o .cons e x
 |_=>none
def aoC:Nat->SV->Option Ex
 |0,.c (.a (.str e))=>some e
 |n+1,.c (.g xs)=>if xs.length=n+1 then agY xs else none
 |_,_=>none
def aj8 (rd:Rd) (ty:TypeId) (n:Nat):SV->Option (Nat×Ex)
 | .c (.a (.mp b))=>match rd.blk b with
   |some ⟨[.keys m e],t,1⟩=>if Nat.beq m n&&Nat.beq t ty then some (b,e)else none
   |_=>none
 |_=>none
def At.aEi:At->Bool| .fn _ _=>true| .fb _ _ _=>true|_=>false
def aa7:Value->Option (CK×Ex)
 | .int k n=>if n=0 then some (.int k,.i 0)else none
 | .bool b=>if b=false then some (.bool,.b false)else none
 |_=>none
def po (pl:uE) (o:Oper) (rd:Rd):Option il:=
 match o.op with
 | .move x| .assign x=>some (il.pure (rd.ev x))
 | .pick c x y=>match rd.ev c with
   | .c (.a (.bool (.b true)))=>some (il.pure (rd.ev x))
   | .c (.a (.bool (.b false)))=>some (il.pure (rd.ev y))
   | .c (.a (.bool e))=>match rd.ev x,rd.ev y with
     | .c (.a (.bool p)),.c (.a (.bool q))=>some (il.pure (.at (.bool (TV .ite e p q))))
     | .c (.a (.int k p)),.c (.a (.int k' q))=>if k=k' then some (il.pure (.at (.int k (TV .ite e p q))))else none
     |_,_=>none
   |_=>none
 | .alloc ty=>match(wi P ty).bind ai4 with
   |some v=>match v.cells with
    |some cs=>if cs.all At.known then some ⟨[],none,.at (.ptr rd.nb 0),[(rd.nb,some ⟨cs,ty,0⟩)],[],[rd.nb],[]⟩else none
    |none=>none
   |none=>none
 | .box ty x=>match(rd.ev x).cells with
   |some cs=>if cs.all At.known then some ⟨[],none,.at (.ptr rd.nb 0),[(rd.nb,some ⟨cs,ty,0⟩)],[],[rd.nb],[]⟩else none
   |none=>none
 | .load ty x=>match rd.ev x with
   | .c (.a (.ptr b off))=>match rd.blk b with
     |some k=>if k.kd=0 then(N2 P ty k.cells off).map il.pure else none
     |none=>none
   | .c (.a (.pel r es ix off))=>match rd.row r with
     |some w=>if es=w.ks.length/\dC w.agg w.ks then match w.hole with
       |none=>match aeB P rd.nr ty (T7 w.agg w.ks (w.elem ix)) off with
        |some (v,rs,_)=>some ⟨[],none,v,[],rs,[],rs.map (·.1)⟩
        |none=>none
       |some (jx,o,q)=>if w.own&&jx.same ix&&Nat.beq o off&&ans P ty then some (il.pure (.at (.vec q)))else none
      else none
     |none=>none
   |_=>none
 | .store ty x y=>match o.dst,rd.ev x,(rd.ev y).cells with
   |none,.c (.a (.ptr b off)),some xs=>match rd.blk b,ni P ty with
    |some k,some n=>if k.kd=0/\xs.length=n/\xs.all At.known then(yM k.cells off xs).map fun cs=>⟨[],none,.t [],[(b,some ⟨cs,k.ty,0⟩)],[],[],[]⟩else none
    |_,_=>none
   |none,.c (.a (.pel r es ix off)),some xs=>match rd.row r,ni P ty with
    |some w,some n=>if w.own&&w.plain&&Nat.beq xs.length n&&Nat.beq es w.ks.length&&dC w.agg w.ks&&xs.all At.known then
      match aih pl rd.row r w off xs with
      |some q=>some ⟨[],none,.t [],[],[(r,some {w with hole:=some (ix,off,q)})],[],[]⟩
      |none=>match GI P (fun q=>if Nat.beq q r then none else rd.row q) w.agg w.ks (w.elem ix) off xs with
      |some (e,fr)=>some ⟨[],none,.t [],[],fr++[(r,some {w with cont:=TV .Yh w.cont ix e})],[],[]⟩
      |none=>none
     else none
    |_,_=>none
   |_,_,_=>none
 | .nilCheck x=>match rd.ev x with
   | .c (.a (.ptr b off))=>some (il.pure (.at (.ptr b off)))
   | .c (.a (.fn f c))=>some (il.pure (.at (.fn f c)))
   | .c (.a (.fb f m b))=>some (il.pure (.at (.fb f m b)))
   |_=>none
 | .binOp op ty x y _=>ai5 P pl op ty (rd.ev x) (rd.ev y)
 | .unOp op _ x=>match op,rd.ev x with
   | .neg,.c (.a (.int k e))=>some (il.pure (.at (.int k (iV (.sub k) (.i 0) e))))
   | .xor,.c (.a (.int k e))=>some (il.pure (.at (.int k (iV (.amT k) (.i (if k.signed then-1 else k.max)) e))))
   | .not,.c (.a (.bool e))=>some (il.pure (.at (.bool (CB .not e))))
   |_,_=>none
 | .convert src dst x=>match P.underlying src,P.underlying dst,rd.ev x with
   |some _,some (.int k),.c (.a (.int _ e))=>some (il.pure (.at (.int k (CB (.conv k) e))))
   |some _,some .string,.c (.a (.str e))=>some (il.pure (.at (.str e)))
   |_,_,_=>none
 | .fieldAddr ty x f=>match ad6 P ty f,rd.ev x with
   |some fd,.c (.a (.ptr b off))=>match ni P fd.type with
    |some (_+1)=>some (il.pure (.at (.ptr b (off+fd.offset))))
    |_=>none
   |some fd,.c (.a (.pel r es ix off))=>match ni P fd.type with
    |some (_+1)=>some (il.pure (.at (.pel r es ix (off+fd.offset))))
    |_=>none
   |_,_=>none
 | .field ty x f=>match ad6 P ty f,rd.ev x with
   |some fd,.c (.g cs)=>(N2 P fd.type cs fd.offset).map il.pure
   |_,_=>none
 | .indexAddr ty x i=>match P.underlying ty,rd.ev i with
   |some (.slice el),.c (.a (.int _ e))=>match au5 (rd.ev x) e with
    |some (b,j)=>if ni P el=some 1 then some (il.pure (.at (.ptr b j)))else none
    |none=>match ajR rd (rd.ev x),ni P el with
    |some (r,w),some n=>if n=w.ks.length/\dC w.agg w.ks then some {il.pure (.at (.pel r n e 0))with lN:=[iV .le (.i 0) e,iV .lt e (CB .len w.cont)]}else none
    |_,_=>match cy rd.row (rd.ev x),ni P el with
     |some (some (r,w),lo,len),some n=>if n=w.ks.length then
       some {il.pure (.at (.pel r n (aAj (rd.ev x) lo e) 0))with lN:=[iV .le (.i 0) e,iV .lt e len]}else none
     |some (none,_,_),_=>some {il.pure .top with lN:=[.b false]}
     |_,_=>none
   |some (.array len el),.c (.a (.int _ (.i z)))=>match rd.ev x,ni P el with
    | .c (.a (.ptr b off)),some n=>if 0<=z/\z<(len:Int)then some (il.pure (.at (.ptr b (off+z.toNat*n))))else none
    |_,_=>none
   |_,_=>none
 | .index ty x i=>match P.underlying ty,rd.ev i,rd.ev x with
   |some (.array len el),.c (.a (.int _ (.i z))),.c (.g cs)=>match ni P el with
    |some n=>if 0<=z/\z<(len:Int)then(N2 P el cs (z.toNat*n)).map il.pure else none
    |none=>none
   |some .string,.c (.a (.int _ e)),.c (.a (.str s))=>some {il.pure (.at (.int .u8 (iV .Mt s e)))with lN:=[iV .le (.i 0) e,iV .lt e (CB .fD s)]}
   |_,_,_=>none
 | .extract x i=>match rd.ev x with
   | .t xs=>(xs[i]?).map fun s=>il.pure (.c s)
   | .nx e p ch=>match i with
     |0=>some (il.pure (.at (.bool e)))
     |1=>some {il.pure (.at (.int .i64 p))with lN:=[e]}
     |2=>some {il.pure (.at (.int .i32 ch))with lN:=[e]}
     |_=>none
   |_=>none
 | .makeMap ty none=>match ago P ty with
   |some (n,_)=>some ⟨[],none,.at (.mp rd.nb),[(rd.nb,some ⟨[.keys n .nil],ty,1⟩)],[],[rd.nb],[]⟩
   |none=>none
 | .lookup ty x k ok=>match ago P ty with
   |some (n,_)=>match aj8 rd ty n (rd.ev x),aoC n (rd.ev k)with
    |some (_,e),some q=>let v:=At.bool (iV (.mem n) e q);some (il.pure (cond ok (.t [.a v,.a v]) (.at v)))
    |_,_=>none
   |none=>none
 | .mapUpdate ty x k v=>match o.dst,ago P ty,rd.ev v with
   |none,some (n,_),.c (.a (.bool (.b true)))=>match aj8 rd ty n (rd.ev x),aoC n (rd.ev k)with
    |some (b,e),some q=>some ⟨[],none,.t [],[(b,some ⟨[.keys n (iV (.Fh n) e q)],ty,1⟩)],[],[],[]⟩
    |_,_=>none
   |_,_,_=>none
 | .range ty x=>match P.underlying ty,rd.ev x with
   |some .string,.c (.a (.str e))=>some ⟨[],none,.at (.ptr rd.nb 0),[(rd.nb,some ⟨[.str e,.int .i64 (.i 0)],ty,2⟩)],[],[rd.nb],[]⟩
   |_,_=>none
 | .next x true=>match rd.ev x with
   | .c (.a (.ptr b 0))=>match rd.blk b with
     |some ⟨[.str s,.int .i64 p],ty,2⟩=>
      let e:=iV .lt p (CB .fD s)
      some ⟨[iV .le (.i 0) p,iV .le (CB .fD s) (.i 9223372036854775806),iV .or (CB .not e) (iV .lt (iV .Mt s p) (.i 128))],none,.nx e p (iV .Mt s p),[(b,some ⟨[.str s,.int .i64 (TV .ite e (iV (.add .i64) p (.i 1)) p)],ty,2⟩)],[],[],[]⟩
     |_=>none
   |_=>none
 | .build ty parts=>match wi P ty,P.underlying ty with
   |some z,some (.struct fs)=>match(ai4 z).bind SV.cells,fs.toList.mapM (fun f=>(P.info? f.type).map fun i=>(f.offset,i.size))with
    |some zs,some places=>if zs.all At.known then(W0 (places.toArray[·]?) zs (parts.toList.map fun(i,x)=>(i,rd.ev x))).map fun cs=>il.pure (.c (.g cs))else none
    |_,_=>none
   |some z,some (.array _ el)=>match(ai4 z).bind SV.cells,P.info? el with
    |some zs,some ie=>if zs.all At.known then(W0 (fun i=>some (i*ie.size,ie.size)) zs (parts.toList.map fun(i,x)=>(i,rd.ev x))).map fun cs=>il.pure (.c (.g cs))else none
    |_,_=>none
   |_,_=>none
 | .buildSlice ty len parts=>match P.underlying ty with
   |some (.slice el)=>match qg P el,ni P el with
    |some (agg,ks),some n=>if n=ks.length/\parts.size=len/\len*n<=16777216/\dC agg ks then
      match F7 P rd.row agg ks 0 (parts.toList.map fun(i,x)=>(i,rd.ev x))with
      |some (c,fr)=>some ⟨[],none,.at (.vec rd.nr),[],fr++[(rd.nr,some ⟨el,ks,agg,c,true,none⟩)],[],[rd.nr]⟩
      |none=>none
     else none
    |none,some 1=>if parts.size=len/\len<=1024/\0<len/\(wi P el).isSome=true then match W0 (fun i=>some (i*1,1)) (replicate len .top) (parts.toList.map fun(i,x)=>(i,rd.ev x))with
      |some cs=>if cs.all At.aEi then some ⟨[],none,.at (.bs rd.nb 0 len),[(rd.nb,some ⟨cs,el,0⟩)],[],[rd.nb],[]⟩else none
      |none=>none
     else none
    |_,_=>none
   |_=>none
 | .slice ty x lo hi mx=>match mx with
   |some m=>match P.underlying ty,cy rd.row (rd.ev x)with
    |some (.slice el),some _=>if Xp rd lo&&Xp rd hi&&Xp rd (some m)&&hi.isSome&&(ni P el).isSome then some (il.pure (.at .Mr))else none
    |_,_=>none
   |none=>match P.underlying ty with
    |some .string=>match rd.ev x with
     | .c (.a (.str s))=>match aj7 rd lo,aej rd hi (CB .fD s)with
       |some l,some h=>some {il.pure (.at (.str (TV .Uo s l h)))with lN:=[iV .le (.i 0) l,iV .le l h,iV .le h (CB .fD s)]}
       |_,_=>none
     |_=>none
    |some (.slice el)=>match cy rd.row (rd.ev x)with
     |some (none,_,_)=>if Xp rd lo&&Xp rd hi&&(ni P el).isSome then some (il.pure (.at .Mr))else none
     |some (some (r,w),b,n)=>match aj7 rd lo,aej rd hi n,ni P el with
      |some l,some h,some k=>if k=w.ks.length then
        if lo.isNone&&hi.isSome&&Xp rd hi&&w.own&&aun (rd.ev x)then some ⟨[],none,.at (.vec rd.nr),[],[(r,none),(rd.nr,some {w with cont:= .nil})],[],[rd.nr]⟩else
         some {il.pure (.at (.sl r k (aAj (rd.ev x) b l) (iV (.sub .i64) h l)))with lN:=[iV .le (.i 0) l,iV .le l h,iV .le h n]}else none
      |_,_,_=>none
     |_=>none
    |_=>none
 | .makeFunc (.func f) first mR=>match first.toList,(mR.toList.map rd.ev).mapM (fun| .c (.a (.ptr b 0))=>some b|_=>none)with
   |[],some bs=>some (il.pure (.at (.fn f bs)))
   |[x],some []=>match rd.ev x with
    | .c (.a (.ptr b 0))=>some (il.pure (.at (.fb f false b)))
    | .c (.a (.mp b))=>some (il.pure (.at (.fb f true b)))
    |_=>none
   |_,_=>none
 | .makeSlice ty x y=>match P.underlying ty,rd.ev x,rd.ev y with
   |some (.slice el),.c (.a (.int _ e)),.c (.a (.int _ f))=>match P.info? el,(wi P el).bind aa7 with
    |some i,some (k,z)=>if i.size=1/\i.bytes<=16 then
      some ⟨[iV .le (.i 0) e,iV .le e f,iV .le f (.i 16777216)],none,.at (.vec rd.nr),[],[(rd.nr,some ⟨el,[k],false,.o .rep z e,true,none⟩)],[],[rd.nr]⟩else none
    |some i,none=>match qg P el,e with
     |some (agg,ks),.i 0=>if i.size=ks.length/\dC agg ks/\i.bytes<=4096 then
       some ⟨[iV .le (.i 0) f,iV .le f (.i 16777216)],none,.at (.vec rd.nr),[],[(rd.nr,some ⟨el,ks,agg,.nil,true,none⟩)],[],[rd.nr]⟩else none
     |_,_=>none
    |_,_=>none
   |_,_,_=>none
 |_=>none
def ag5 (pl:uE) (cons:nw) (o:Oper) (rd:Rd):Option il:=
 match o.op with
 | .call c=>KX P cons rd c
 |_=>match po P pl o rd with
  |some r=>match r.call with|none=>some r|some _=>none
  |none=>none
end
end
section
def dH {α:Type} (d:α):List α->Nat->α->List α
 |_::xs,0,v=>v::xs
 |[],0,v=>[v]
 |x::xs,n+1,v=>x::dH d xs n v
 |[],n+1,v=>d::dH d [] n v
def di (l:List (Option Bk)):List (Nat×Option Bk)->List (Option Bk)
 |[]=>l
 |(i,v)::r=>di (dH none l i v) r
def aH (l:List (Option Rw)):eJ->List (Option Rw)
 |[]=>l
 |(i,v)::r=>aH (dH none l i v) r
def St.after (σ:St) (dst:Option Tmp) (r:il):St:=
 {σ with
  nv:=match r.call with|some (_,_,n)=>σ.nv+n|none=>σ.nv
  aZ:=match dst with|some d=>σ.aZ.set d r.val|none=>σ.aZ
  aO:=di σ.aO r.aO,rows:=aH σ.rows r.rows}
def St.under (σ:St):Bool:=
 σ.aZ.all (·.under σ.nv)&&σ.aO.all (fun|some k=>k.cells.all (·.under σ.nv)|none=>true)&&σ.rows.all (fun|some w=>w.cont.under σ.nv&&w.Wo σ.nv|none=>true)
def St.rd (σ:St) (ops:iu) (o:Oper):Rd:=Yb σ.slot σ.blk σ.row (Cb ops o) (Gh σ.slot ops o) (LQ ops o) σ.nv σ.aO.length σ.rows.length
def DZ (ops:iu) (σ:St) (o:Oper):Option Bool:=
 match o.guard with
 |none=>some true
 |some (g,want)=>match(ops[g]?).bind (·.dst)with
  |some t=>match σ.slot t with
   | .c (.a (.bool (.b x)))=>some (x==want)
   | .t []=>some false
   |_=>none
  |none=>none
def QD:il:=il.pure (.t [])
def JF {L:Type}:mA->T L->T L
 |[],k=>k
 | .b true::cs,k=>JF cs k
 | .b false::_,_=> .ag (.b false) (.fail "")
 |c::cs,k=> .ag c (JF cs k)
def aqs {L:Type} (r:il) (k:T L):T L:=
 JF r.lN (match r.call with|some (f,es,n)=> .call f es n k|none=>k)
def Yy (ops:iu) (n:Nat):Bool:=ops.any fun o=>match o.guard with|some (g,_)=>Nat.beq g n|none=>false
def RN {L:Type} (g:Bool) (r:il) (k:il->T L):T L:=
 match g,r.val with
 |true,.c (.a (.bool (.b x)))=>k {r with val:= .at (.bool (.b x))}
 |true,.c (.a (.bool e))=> .ite e (k {r with val:= .at (.bool (.b true))}) (k {r with val:= .at (.bool (.b false))})
 |_,_=>k r
structure As where
 key:Nat
 vars:List (Nat×Nat)
 Wn:jl
 cells:List (Nat×Nat×Nat)
 rows:jl
 grp:List (Nat×CS)
 gcl:List (Nat×Nat×CK)
 frz:jl
 cls:jl
 un:Nat
structure Bd where
 cc:FuncId
 sf:FuncId
 bt:TypeId
 tys:List (TypeId×Nat)
def Bd.has (b:Bd) (ty n:Nat):Bool:=b.tys.any fun x=>Nat.beq x.1 ty&&Nat.beq x.2 n
structure Cx where
 P:Program
 cons:nw
 hs:List As
 pl:uE
 ins:List FuncId
 bd:Option Bd
 mg:List FuncId
 att:Option (FuncId×TypeId)
 pr:List FuncId
def BQ:Code->Nat
 | .region id _ _=>id
 | .seq x y=>match BQ x with|0=>BQ y|n=>n
 | .cond _ x y=>match BQ x with|0=>BQ y|n=>n
 | .block _ x=>BQ x
 | .loop x=>BQ x
 | .scope x=>BQ x
 |_=>0
def atv (P:Program) (rows:List (Option Rw)) (nv nr:Nat) (el:Nat):At->Option (At×mA×eJ)
 | .int k e=>some (.int k (.v nv),[e],[])
 | .bool e=>some (.bool (.v nv),[e],[])
 | .str e=>some (.str (.v nv),[e],[])
 | .vec r=>match rows.getD r none with
   |some w=>if w.own&&w.plain then some (.vec nr,[w.cont],[(r,none),(nr,some {w with cont:= .v nv})])else if dC w.agg w.ks&&w.plain then some (.sl r w.ks.length (.v nv) (.v (nv+1)),[.i 0,CB .len w.cont],[])else none
   |none=>none
 | .sl r es lo len=>some (.sl r es (.v nv) (.v (nv+1)),[lo,len],[])
 | .Mr=>match qg P el with
   |some (agg,ks)=>some (.vec nr,[.nil],[(nr,some ⟨el,ks,agg,.v nv,true,none⟩)])
   |none=>none
 | .keys n e=>some (.keys n (.v nv),[e],[])
 |_=>none
def Oq (rows rows':List (Option Rw)) (nr m:Nat) (tm:At):At->Option (mA×List (Nat×Nat))
 | .int k e=>match tm with| .int k' (.v j)=>if k=k'/\j=m then some ([e],[])else none|_=>none
 | .bool e=>match tm with| .bool (.v j)=>if j=m then some ([e],[])else none|_=>none
 | .str e=>match tm with| .str (.v j)=>if j=m then some ([e],[])else none|_=>none
 | .vec r=>match rows'.getD r none with
   |some w=>match tm with
    | .vec q=>match rows.getD q none with
      |some w0=>if w.own=true/\w0.own=true/\w.el=w0.el/\w.ks=w0.ks/\w.agg=w0.agg/\w0.cont.same (.v m)=true/\w.plain=true/\w0.plain=true/\nr<=q then some ([w.cont],[(q,r)])else none
      |none=>none
    | .sl q es (.v j) (.v j')=>if q=r/\es=w.ks.length/\(dC w.agg w.ks&&w.plain)=true/\j=m/\j'=m+1/\q<nr then some ([.i 0,CB .len w.cont],[])else none
    |_=>none
   |none=>none
 | .sl r es lo len=>match tm with| .sl q WY (.v j) (.v j')=>if q=r/\es=WY/\j=m/\j'=m+1/\q<nr then some ([lo,len],[])else none|_=>none
 | .keys n e=>match tm with| .keys n' (.v j)=>if n=n'/\j=m then some ([e],[])else none|_=>none
 |_=>none
def St.setCell (σ:St) (p off:Nat) (x:At):St:=
 match σ.blk p with
 |some k=>{σ with aO:=σ.aO.set p (some {k with cells:=k.cells.set off x})}
 |none=>σ
def St.cellAt (σ:St) (p off:Nat):Option At:=(σ.blk p).bind (·.cells[off]?)
def aa1 (P:Program):List (Nat×Nat)->St->Option (St×mA)
 |[],σ=>some (σ,[])
 |(t,el)::r,σ=>match(σ.slot t).at? with
  |some x=>match atv P σ.rows σ.nv σ.rows.length el x with
   |some (x',es,rs)=>match aa1 P r {σ with nv:=σ.nv+es.length,aZ:=σ.aZ.set t (.at x'),rows:=aH σ.rows rs}with
    |some (σ',WY)=>some (σ',es++WY)
    |none=>none
   |none=>none
  |none=>none
def Us (P:Program):List (Nat×Nat×Nat)->St->Option (St×mA)
 |[],σ=>some (σ,[])
 |(p,off,el)::r,σ=>match σ.cellAt p off with
  |some x=>match atv P σ.rows σ.nv σ.rows.length el x with
   |some (x',es,rs)=>match Us P r ({σ with nv:=σ.nv+es.length,rows:=aH σ.rows rs}.setCell p off x')with
    |some (σ',WY)=>some (σ',es++WY)
    |none=>none
   |none=>none
  |none=>none
def aa0:jl->St->Option (St×mA)
 |[],σ=>some (σ,[])
 |r::rs,σ=>match σ.row r with
  |some w=>if w.own&&w.plain then match aa0 rs {σ with nv:=σ.nv+1,rows:=σ.rows.set r (some {w with cont:= .v σ.nv})}with
    |some (σ',WY)=>some (σ',w.cont::WY)
    |none=>none
   else none
  |none=>none
def RT:jl->St->St
 |[],σ=>σ
 |t::r,σ=>RT r {σ with aZ:=σ.aZ.set t .top}
def Wl (P:Program) (h:As) (σ:St):Option (St×mA):=
 match aa1 P h.vars (RT h.Wn σ)with
 |some (σ1,e1)=>match Us P h.cells σ1 with
  |some (σ2,e2)=>match aa0 h.rows σ2 with
   |some (σ3,e3)=>some ({σ3 with lv:=σ.lv+1},e1++e2++e3)
   |none=>none
  |none=>none
 |none=>none
def Tg (P:Program) (σ:St):List (Nat×Nat×CK)->Option (mA×eJ)
 |[]=>some ([],[])
 |(p,off,k)::r=>match σ.blk p with
  |some b=>if Nat.beq b.kd 0 then match b.cells[off]? with
    |some x=>match Eu P σ.row k x,Tg P σ r with
     |some (e,f),some (es,fs)=>some (e::es,f++fs)
     |_,_=>none
    |none=>none
   else none
  |none=>none
def F8:List (Nat×Nat×CK)->St->St
 |[],σ=>σ
 |(p,off,_)::r,σ=>F8 r (σ.setCell p off .top)
def vV (h:As) (fr:eJ) (σ:St):St:=F8 h.gcl {σ with rows:=aH σ.rows fr}
def ZQ (P:Program) (h:As) (σ:St):Option (mA×eJ):=cond h.grp.isEmpty (Tg P σ h.gcl) none
def kg (P:Program):List (Nat×Nat×CK)->St->St
 |[],σ=>σ
 |(p,off,k)::r,σ=>match σ.blk p with
  |some b=>if Nat.beq b.kd 0 then match ES P σ.rows.length (.v σ.nv) k with
    |(x,rs,_)=>kg P r ({σ with nv:=σ.nv+1,rows:=aH σ.rows rs}.setCell p off x)
   else kg P r {σ with nv:=σ.nv+1}
  |none=>kg P r {σ with nv:=σ.nv+1}
def pS (P:Program) (h:As) (σ:St):St:=kg P h.gcl σ
def Yu (σ:St) (l:jl):eJ:=l.filterMap fun r=>(σ.row r).bind fun w=>if w.plain then some (r,some {w with own:=false})else none
def W5 (σ:St) (l:jl):St:={σ with rows:=aH σ.rows (Yu σ l)}
def template (P:Program) (h:As) (σ:St):Option (St×mA):=
 match ZQ P h (W5 σ h.frz)with
 |some (eg,fr)=>match Wl P h (vV h fr (W5 σ h.frz))with
  |some (tm,es)=>some (tm,es++eg)
  |none=>none
 |none=>none
def Zf (tm σ:St) (nr:Nat):Nat->List (Nat×Nat)->Option (mA×List (Nat×Nat))
 |_,[]=>some ([],[])
 |m,(t,_)::r=>match(tm.slot t).at?,(σ.slot t).at? with
  |some x,some y=>match Oq tm.rows σ.rows nr m x y with
   |some (e,q)=>match Zf tm σ nr (m+e.length) r with
    |some (es,qs)=>some (e++es,q++qs)
    |none=>none
   |none=>none
  |_,_=>none
def SJ (tm σ:St) (nr:Nat):Nat->List (Nat×Nat×Nat)->Option (mA×List (Nat×Nat))
 |_,[]=>some ([],[])
 |m,(p,off,_)::r=>match tm.cellAt p off,σ.cellAt p off with
  |some x,some y=>match Oq tm.rows σ.rows nr m x y with
   |some (e,q)=>match SJ tm σ nr (m+e.length) r with
    |some (es,qs)=>some (e++es,q++qs)
    |none=>none
   |none=>none
  |_,_=>none
def ads (tm σ:St):Nat->jl->Option mA
 |_,[]=>some []
 |m,r::rr=>match tm.row r,σ.row r with
  |some w0,some w=>if w.own=true/\w0.own=true/\w.el=w0.el/\w.ks=w0.ks/\w.agg=w0.agg/\w0.cont.same (.v m)=true/\w.plain=true/\w0.plain=true then match ads tm σ (m+1) rr with
    |some es=>some (w.cont::es)
    |none=>none
   else none
  |_,_=>none
def aox (cells:List (Nat×Nat×Nat)) (p n:Nat):Bool:=cells.any fun x=>Nat.beq x.1 p&&Nat.beq x.2.1 n
def At.Jf (nb nr:Nat) (x:At):Bool:=(match x.rid with|some r=>blt r nr|none=>true)&&x.JV.all (blt · nb)
def aeu (nv nb nr:Nat) (x y:At):Bool:=x.le y&&x.under nv&&x.Jf nb nr
def aev (nv nb nr:Nat) (x y:SV):Bool:=x.le y&&x.under nv&&x.atoms.all (·.Jf nb nr)
def AF (cells:List (Nat×Nat×Nat)) (nv nb nr p:Nat):Nat->qE->qE->Bool
 |_,[],[]=>true
 |n,x::xs,y::ys=>(aox cells p n||aeu nv nb nr x y)&&AF cells nv nb nr p (n+1) xs ys
 |_,_,_=>false
def D6 (h:As) (nv nb nr:Nat):Nat->List SV->List SV->Bool
 |_,[],[]=>true
 |t,x::xs,y::ys=>((h.vars.any fun v=>Nat.beq v.1 t)||aev nv nb nr x y)&&D6 h nv nb nr (t+1) xs ys
 |_,_,_=>false
def NQ (h:As) (nv nb nr:Nat) (σ:St):Nat->List (Option Bk)->Bool
 |_,[]=>true
 |p,none::xs=>NQ h nv nb nr σ (p+1) xs
 |p,some k::xs=>(match σ.blk p with|some k'=>Nat.beq k.ty k'.ty&&Nat.beq k.kd k'.kd&&AF h.cells nv nb nr p 0 k.cells k'.cells|none=>false)&&NQ h nv nb nr σ (p+1) xs
def NS (h:As) (nv nr:Nat) (σ:St) (news:List (Nat×Nat)):Nat->List (Option Rw)->Bool
 |_,[]=>true
 |r,none::xs=>NS h nv nr σ news (r+1) xs
 |r,some w::xs=>(if r<nr then oQ h.rows r||(match σ.row r with|some w'=>w.same w'&&w.cont.under nv&&w.Wo nv&&(match w.hole with|some (_,_,q)=>blt q nr|none=>true)|none=>false)else news.any fun x=>Nat.beq x.1 r)&&NS h nv nr σ news (r+1) xs
def YB (nr:Nat):Nat->List (Option Rw)->jl
 |_,[]=>[]
 |r,w::xs=>(match w with|some w=>if w.own=true/\r<nr then[r]else[]|none=>[])++YB nr (r+1) xs
def keeps (h:As) (nv nr:Nat) (tm σ:St) (news:List (Nat×Nat)):Bool:=
 D6 h nv tm.aO.length nr 0 tm.aZ σ.aZ&&NQ h nv tm.aO.length nr σ 0 tm.aO&&NS h nv nr σ news 0 tm.rows&&
 WV (news.map (·.1))&&WV (news.map (·.2)++YB nr 0 tm.rows)
def amN (h:As) (nv nr:Nat) (tm σ:St):Option mA:=
 match Zf tm σ nr nv h.vars with
 |some (e1,r1)=>match SJ tm σ nr (nv+e1.length) h.cells with
  |some (e2,r2)=>match ads tm σ (nv+(e1.length+e2.length)) h.rows with
   |some e3=>if keeps h nv nr tm σ (r1++r2)&&Nat.beq (nv+(e1++e2++e3).length) tm.nv&&ble nr tm.rows.length then some (e1++e2++e3)else none
   |none=>none
  |none=>none
 |none=>none
def Zl (P:Program) (σ:St) (r:Nat):Option St:=
 match σ.row r with
 |some w=>match w.hole with
  |some (ix,off,q)=>if w.own&&dC w.agg w.ks then match GI P σ.row w.agg w.ks (w.elem ix) off [.vec q]with
    |some (e,fr)=>if fr.all (fun x=> !Nat.beq x.1 r)then some {σ with rows:=aH σ.rows (fr++[(r,some {w with cont:=TV .Yh w.cont ix e,hole:=none})])}else none
    |none=>none
   else none
  |none=>some σ
 |none=>none
def Ia (P:Program):jl->St->Option St
 |[],σ=>some σ
 |r::rs,σ=>match Zl P σ r with|some σ'=>Ia P rs σ'|none=>none
def back (P:Program) (h:As) (nv nr:Nat) (tm σ0:St):Option mA:=
 match Ia P h.cls σ0 with
 |none=>none
 |some σ=>
 match cond (h.gcl.all fun x=>blt x.1 tm.aO.length) (ZQ P h σ) none with
 |some (eg,fr)=>match amN h nv nr tm (vV h fr σ)with
  |some es=>some (es++eg)
  |none=>none
 |none=>none
def ae0 {L:Type} (f:St->T (L×St)) (go:L->Bool):Nat->St->T (L×St)
 |0,_=> .fail "unroll"
 |n+1,σ=>(f σ).bind fun x=>cond (go x.1) (ae0 f go n x.2) (.aa x)
section
variable (P:Program)
def mE (nv nr nb:Nat):CS->SC×eJ×Nat×Nat×jl
 | .p _ _=>(.a (.ptr nb 0),[],nv,nr,[nb])
 | .f g ls=>(.a (.fn g (range' nb ls.length)),[],nv,nr,range' nb ls.length)
 |s=>let(x,rs,nv1,OP):=v8 P nv nr s;(x,rs,nv1,OP,[])
def uf (nv nr nb:Nat):LCs->List SC×eJ×Nat×Nat×jl
 |[]=>([],[],nv,nr,[])
 |s::ss=>
  let(x,r,nv1,OP,b):=mE P nv nr nb s
  let(xs,rs,nv2,nr2,bs):=uf nv1 OP (nb+b.length) ss
  (x::xs,r++rs,nv2,nr2,b++bs)
def At.fixed:At->Bool| .int _ _| .bool _| .str _| .vec _=>true|_=>false
def akg (row:tB) (b:Nat):PS->At->At->Option uF
 | .rd _,x,y=>if x.fixed&&x.same y then some ⟨[],[],[],[]⟩else none
 |s,_,y=>aca P row b s y
def nU (row:tB) (b:Nat):H0->qE->qE->Option uF
 |[],[],[]=>some ⟨[],[],[],[]⟩
 |s::ss,x::xs,y::ys=>match akg P row b s x y,nU row b ss xs ys with
  |some z,some zs=>some (z.app zs)
  |_,_=>none
 |_,_,_=>none
def qe (row:tB) (blk:Nat->Option Bk):List (TypeId×H0)->List (Nat×Option Bk)->Option uF
 |[],[]=>some ⟨[],[],[],[]⟩
 |(ty,ss)::ls,(b,k0)::bs=>match k0,blk b with
  |some k0,some k=>if Nat.beq k.ty ty&&Nat.beq k.kd 0 then match nU P row b ss k0.cells k.cells,qe row blk ls bs with
    |some y,some ys=>some (y.app ys)
    |_,_=>none
   else none
  |_,_=>none
 |_,_=>none
end
section
variable (X:Cx)
abbrev Inl:=Nat->List SV->St->T (SV×St)
def aov (rd:Rd) (o:Oper):Option (Nat×List SV):=
 match o.op with
 | .call c=>match c.callee with
   | .value f=>match rd.ev f with
     | .c (.a (.fn g mR))=>
       if mR.isEmpty&&X.cons.any (fun x=>Nat.beq x.f g)then none
       else if ! oQ X.ins g then none else some (g,c.args.toList.map rd.ev++mR.map fun b=> .at (.ptr b 0))
     | .c (.a (.fb g m b))=>
       if X.cons.any (fun x=>Nat.beq x.f g)then none
       else if ! oQ X.ins g then none else some (g,.at (aav m b)::c.args.toList.map rd.ev)
     |_=>none
   |_=>none
 |_=>none
def ZN (rd:Rd) (r:il):Bool:=
 (r.nb.all fun i=>Nat.beq i rd.nb&&r.aO.any fun x=>Nat.beq x.1 i)&&(r.nr.all fun i=>ble rd.nr i&&r.rows.any fun x=>Nat.beq x.1 i)
def adu (σ:St) (r:il):Bool:=
 match r.call with
 |some (_,es,_)=>σ.under&&es.all (·.under σ.nv)
 |none=>true
def LV (ops:iu) (σ:St) (o:Oper):Option il:=
 match ag5 X.P X.pl X.cons o (σ.rd ops o)with
 |some r=>if ZN (σ.rd ops o) r&&adu σ r then some r else none
 |none=>none
def E0 (inl:Inl) (ops:iu):iu->Nat->St->T St
 |[],_,σ=> .aa σ
 |o::rest,n,σ=>
  match DZ ops σ o with
  |none=> .fail "guard"
  |some false=>E0 inl ops rest (n+1) (σ.after o.dst QD)
  |some true=>
   let rd:=σ.rd ops o
   match aov X rd o with
   |some (g,as)=>if σ.under then(inl g as σ).bind fun(v,σ')=>RN (Yy ops n) (il.pure v) fun r=>E0 inl ops rest (n+1) ({σ' with aZ:=σ.aZ}.after o.dst r)else .fail "under"
   |none=>match LV X ops σ o with
    |none=> .fail "op"
    |some r=>aqs r (RN (Yy ops n) r fun r=>E0 inl ops rest (n+1) (σ.after o.dst r))
def afn (l:jl) (m k:Nat):Nat:=l.foldl (fun acc t=>lor acc (shiftLeft 1 (m*t+k))) 0
structure Item where
 dst:Option Tmp
 r:il
 rd:Nat
 wr:Nat
 pre:Nat
def Ud (items:List Item) (o:Oper):Nat:=
 o.after.toList.foldl (fun acc e=>if Region.binds .any e then lor acc (lor (shiftLeft 1 e.on) (match items[e.on]? with|some x=>x.pre|none=>0))else acc) 0
def KR (σ:St) (ts ds ls:ahx):Nat:=
 lor (afn ts 3 0) (lor (afn (ds.flatMap fun t=>(σ.slot t).JV) 3 1) (afn (sj σ.slot σ.blk ds ls) 3 2))
def K9 (dst:Option Tmp) (r:il):Nat:=
 lor (afn dst.toList 3 0) (lor (afn (r.aO.map (·.1)) 3 1) (afn (r.rows.map (·.1)) 3 2))
def W3 (items:List Item) (x:Item):Bool:=
 items.zipIdx.all fun(y,j)=>(y.r.nb.all fun p=> ! oQ x.r.nb p)&&(y.r.nr.all fun p=> ! oQ x.r.nr p)&&(testBit x.pre j||(Nat.beq (land y.wr (lor x.rd x.wr)) 0&&Nat.beq (land y.rd x.wr) 0))
def UY (n:Nat) (o:Oper):Bool:=o.after.toList.all fun e=> !Region.binds .any e||blt e.on n
def ake (σ:St) (o:Oper) (r:il):Bool:=r.lN.all (·.under σ.nv)&&r.val.under (σ.after o.dst r).nv
def Gl (ops:iu):iu->Nat->St->List Item->T (St×List Item)
 |[],_,σ,items=> .aa (σ,items)
 |o::rest,n,σ,items=>
  if ! UY n o then .fail "edges" else
  let go (r:il):T (St×List Item):=
   let it:Item:=⟨o.dst,r,KR σ (Cb ops o) (Gh σ.slot ops o) (LQ ops o),K9 o.dst r,Ud items o⟩
   if W3 items it then Gl ops rest (n+1) (σ.after o.dst r) (items++[it])else .fail "order"
  match DZ ops σ o with
  |none=> .fail "guard"
  |some false=>go QD
  |some true=>
   match LV X ops σ o with
   |none=> .fail "op"
   |some r=>if ake σ o r then aqs r (RN (Yy ops n) r go)else .fail "under"
def aAn (o:Oper):Bool:=match o.op with| .call c=>(match c.callee with| .value (.tmp _)=>true| .value (.func g)=>oQ X.ins g|_=>false)|_=>false
def acx:iu->Nat
 |[]=>0
 |o::r=>cond (aAn X o) 0 (acx r+1)
def Jd (m n:Nat):Array Bool:=(replicate m true++replicate (n-m) false).toArray
def akw (ops:iu) (m:Nat):Bool:=
 blt m ops.length&&Region.sinkB .any ops.toArray m&&Region.chainB .any ops.toArray m&&Region.seqB .any ops.toArray (ops.length-m) m (Jd m ops.length)
def aeE (e:Ex) (x y:SV):SV:=
 cond (x.le y) x (cond (y.le x) y (match x,y with
  | .c (.a (.bool p)),.c (.a (.bool q))=> .at (.bool (.t .ite e p q))
  | .c (.a (.int k p)),.c (.a (.int k' q))=>if k=k' then .at (.int k (.t .ite e p q))else .top
  |_,_=> .top))
def aeD (e:Ex):List SV->List SV->Option (List SV)
 |[],[]=>some []
 |x::xs,y::ys=>match aeD e xs ys with|some r=>some (aeE e x y::r)|none=>none
 |_,_=>none
def YF:qE->qE->Bool
 |[],[]=>true
 |x::xs,y::ys=>x.same y&&YF xs ys
 |_,_=>false
def EY:List (Option Bk)->List (Option Bk)->Bool
 |[],[]=>true
 |none::xs,none::ys=>EY xs ys
 |some a::xs,some b::ys=>Nat.beq a.ty b.ty&&Nat.beq a.kd b.kd&&YF a.cells b.cells&&EY xs ys
 |_,_=>false
def EZ:List (Option Rw)->List (Option Rw)->Bool
 |[],[]=>true
 |none::xs,none::ys=>EZ xs ys
 |some a::xs,some b::ys=>a.same b&&EZ xs ys
 |_,_=>false
def aeF (e:Ex) (a b:St):Option St:=
 if Nat.beq a.nv b.nv&&Nat.beq a.lv b.lv&&EY a.aO b.aO&&EZ a.rows b.rows then
  match aeD e a.aZ b.aZ with|some s=>some {a with aZ:=s}|none=>none
 else none
def T.mrg:T St->Option St
 | .aa σ=>some σ
 | .ite c p q=>match p.mrg,q.mrg with|some a,some b=>aeF c a b|_,_=>none
 |_=>none
def aoS (t:T St):T St:=match t.mrg with|some σ=> .aa σ|none=>t
def aoz (o:Oper):Bool:=match o.op with| .pick _ _ _=>true|_=>false
def awd (o:Oper):Bool:=match o.op with| .move _=>true|_=>false
def ahP (ops:iu):iu->Bool->Nat->Nat->jl
 |[],_,_,k=>[k]
 |o::r,p,n,k=>cond (p&&awd o&&Yy ops n) ((k+1)::ahP ops r (aoz o) (n+1) 0) (ahP ops r (aoz o) (n+1) (k+1))
def YE {L:Type} (ops:iu) (n:Nat) (σ:St) (k:St->T L):T L:=
 match(ops[n]?).bind (·.dst)with
 |some t=>match σ.slot t with
  | .c (.a (.bool (.b _)))=>k σ
  | .c (.a (.bool e))=> .ite e (k {σ with aZ:=σ.aZ.set t (.at (.bool (.b true)))}) (k {σ with aZ:=σ.aZ.set t (.at (.bool (.b false)))})
  |_=>k σ
 |none=>k σ
def apM (inl:Inl) (ops:iu):jl->iu->Nat->St->T St
 |[],rest,n,σ=>E0 X inl ops rest n σ
 |m::ms,rest,n,σ=>(aoS (E0 X inl ops (rest.take m) n σ)).bind fun σ'=>YE ops (n+m-1) σ' (apM inl ops ms (rest.drop m) (n+m))
inductive Xt where|norm|exit (id:Nat)|ret
 deriving DecidableEq
def Xt.awe:Xt->Bool| .norm=>true|_=>false
def ar2 (fk:Nat) (x:Code) (σ:St):Nat:=(σ.rows.length*1000+σ.aO.length)*1000000000+(fk*100000+BQ x)
def exec (inl:Inl) (fk:Nat):Code->St->T (Xt×St)
 | .skip,σ=> .aa (.norm,σ)
 | .region _ ops draw,σ=>
   cond draw (cond (akw ops.toList (acx X ops.toList))
    (if σ.under then(Gl X ops.toList (ops.toList.take (acx X ops.toList)) 0 σ []).bind fun x=>(E0 X inl ops.toList (ops.toList.drop (acx X ops.toList)) (acx X ops.toList) x.1).bind fun σ'=> .aa (.norm,σ')else .fail "under")
    (if σ.under then(Gl X ops.toList ops.toList 0 σ []).bind fun(σ',_)=> .aa (.norm,σ')else .fail "under")) ((cond (oQ X.mg fk) (apM X inl ops.toList (ahP ops.toList ops.toList false 0 0) ops.toList 0 σ) (E0 X inl ops.toList ops.toList 0 σ)).bind fun σ'=> .aa (.norm,σ'))
 | .seq x y,σ=>(exec inl fk x σ).bind fun(e,σ')=>match e with
   | .norm=>exec inl fk y σ'
   |e=> .aa (e,σ')
 | .cond c x y,σ=>match evS σ.slot c with
   | .c (.a (.bool (.b true)))=>exec inl fk x σ
   | .c (.a (.bool (.b false)))=>exec inl fk y σ
   | .c (.a (.bool e))=> .ite e (exec inl fk x σ) (exec inl fk y σ)
   |_=> .fail "cond"
 | .block id x,σ=>(exec inl fk x σ).bind fun(e,σ')=>match e with
   | .exit n=> .aa (cond (Nat.beq n id) .norm (.exit n),σ')
   |e=> .aa (e,σ')
 | .exit id,σ=> .aa (.exit id,σ)
 | .ret,σ=> .aa (.ret,σ)
 | .loop x,σ=>match X.hs.find? fun h=>Nat.beq h.key (ar2 fk x σ)with
   |none=>(exec inl fk x σ).bind fun(e,σ')=>match e with
    | .norm=> .fail "loop"
    |e=> .aa (e,σ')
   |some h=>cond (blt 0 h.un) (ae0 (exec inl fk x) Xt.awe h.un σ) (match template X.P h σ with
    |some (tm,NL)=>
     if σ.under&&NL.all (·.under σ.nv)&&Nat.beq (pS X.P h tm).nv (σ.nv+NL.length)then .loop NL ((exec inl fk x (pS X.P h tm)).bind fun(e,σ')=>match e with
      | .norm=>match back X.P h σ.nv σ.rows.length tm σ' with
        |some fY=> .next σ.lv fY
        |none=> .fail "back"
      |e=> .aa (e,σ'))
     else .fail "under"
    |none=> .fail "template")
 | .scope x,σ=>exec inl fk x σ
 | .label _,σ=> .aa (.norm,σ)
 |_,_=> .fail "code"
def apx (P:Program) (σ:St):ResultVar->Option SC
 | .tmp t=>(σ.slot t).sc
 | .cell t ty=>match σ.slot t with
   | .c (.a (.ptr p off))=>match σ.blk p with
     |some k=>if k.kd=0 then(N2 P ty k.cells off).bind SV.sc else none
     |none=>none
   |_=>none
def aax (P:Program) (σ:St):List ResultVar->Option (List SC)
 |[]=>some []
 |r::rs=>match apx P σ r,aax P σ rs with
  |some x,some xs=>some (x::xs)
  |_,_=>none
def akm (P:Program) (σ:St) (l:List ResultVar):Option SV:=
 match aax P σ l with
 |some [x]=>some (.c x)
 |some xs=>some (.t xs)
 |none=>none
def apW (bd:Option Bd) (f:Nat) (as:List SV) (σ:St):Option (T (SV×St)):=
 match bd with
 |none=>none
 |some b=>
  match as with
  |[.c (.a (.ptr p 0))]=>match σ.blk p with
   |some k=>if Nat.beq k.kd 0&&b.has k.ty k.cells.length then
     match k.cells with
     |x::y::zs=>
      if Nat.beq f b.cc then
       (if spB p x then some (.aa (.t [],{σ with aO:=dH none σ.aO p (some ⟨.ptr p 0::y::zs,k.ty,0⟩)}))else none)
      else if Nat.beq f b.sf then
       (match y with
       | .vec r=>match σ.row r with
         |some w=>if w.own&&rK b.bt [.int .u8] false (some (r,w))then
           some (.ag (CB .isb w.cont) (.aa (.at (.str (CB .ofb w.cont)),{σ with rows:=dH none σ.rows r none})))
          else none
         |none=>none
       |_=>none)
      else none
     |_=>none
    else none
   |none=>none
  |_=>none
def au1 (att:Option (FuncId×TypeId)) (inl:Inl) (f:Nat) (as:List SV) (σ:St):Option (T (SV×St)):=
 match att with
 |none=>none
 |some (a,ty)=>if Nat.beq f a then
   match as with
   |[.c (.a (.fn g mR))]=>if oQ X.ins g then some ((inl g (mR.map fun b=> .at (.ptr b 0)) {σ with aO:=dH none σ.aO σ.aO.length (some ⟨[.int .i64 (.i 0)],ty,0⟩)}).bind fun x=>
      match x.2.blk σ.aO.length with
      |some ⟨[_],t,0⟩=>if Nat.beq t ty then .aa (.at (.int .i64 (.i 0)),{x.2 with aO:=dH none x.2.aO σ.aO.length (some ⟨[.int .i64 (.i 0)],ty,0⟩)})else .fail "attempt"
      |_=> .fail "attempt")else none
   |_=>none
  else none
def alP:Nat->Inl
 |0,_,_,_=> .fail "depth"
 |d+1,f,as,σ=>match apW X.bd f as σ with
  |some t=>t
  |none=>match au1 X X.att (alP d) f as σ with
   |some t=>t
   |none=>match X.P.funcs[f]? with
    |some fn=>match fn.body with
     |some c=>(exec X (alP d) f c {σ with aZ:=as++replicate (fn.ntmps-as.length) (.t [])}).bind fun(e,σ')=>match e with
      | .exit _=> .fail "exit"
      |_=>match akm X.P σ' fn.results.toList with
       |some v=> .aa (v,σ')
       |none=> .fail "results"
     |none=> .fail "no body"
    |none=> .fail "no function"
def ao9 (σ:St):RS->SV->Option (mA×eJ)
 | .c s,v=>ahA X.P σ.row s v
 | .t ss,.t xs=>F2 X.P σ.row ss (xs.map .c)
 | .o _,_=>some ([],[])
 | .ot _ ss,.t (_::xs)=>F2 X.P σ.row ss (xs.map .c)
 |_,_=>none
def ase (σ:St):RS->SV->Option (mA×jl)
 | .o el,.c (.a x)=>(aca X.P σ.row 0 (.own el) x).map fun l=>(l.os,l.rs)
 | .ot el _,.t (.a x::_)=>(aca X.P σ.row 0 (.own el) x).map fun l=>(l.os,l.rs)
 | .c _,_| .t _,_=>some ([],[])
 |_,_=>none
def ad5:List (Ex×Bool)->Ex->Option Bool
 |[],_=>none
 |(x,b)::r,e=>cond (x.same e) (some b) (ad5 r e)
def T.LR {L:Type} (fs:List (Ex×Bool)) (n:Nat):T L->T L
 | .aa x=> .aa x
 | .fail w=> .fail w
 | .ite c a b=>match ad5 fs c with
   |some true=>a.LR fs n
   |some false=>b.LR fs n
   |none=>cond (c.under n) (.ite c (a.LR ((c,true)::fs) n) (b.LR ((c,false)::fs) n)) (.ite c (a.LR fs n) (b.LR fs n))
 | .ag c k=> .ag c (k.LR fs n)
 | .call f es m k=> .call f es m (k.LR fs (n+m))
 | .loop NL k=> .loop NL (k.LR fs (n+NL.length))
 | .next l vs=> .next l vs
def aky (d:Nat) (dr:nK):T mA:=
 let ls:=fS dr.args
 let m:=(oX ls).length
 match lO X.P m (fw m ((TJ ls).map AS.ck))with
 |(ys,rs1,OP)=>match uf X.P (m+(TJ ls).length) OP 0 dr.args with
  |(xs,rs2,nv,_,bs)=>
   let aO:=iy false (fun _=>none) 0 ls bs ys
   (alP X d dr.f (xs.map .c) ⟨nv,0,[],di [] aO,aH [] (fu X.P 0 0 (oX ls)++rs1++rs2)⟩).bind fun(v,σ)=>match ao9 X σ dr.res v,ase X σ dr.res v,qe X.P σ.row σ.blk ls aO with
     |some (es,fr),some (eo,ro),some l=>if WV (l.rs++ro)&&(l.rs++ro).all (fun r=>(fr++l.fr).all fun x=> !Nat.beq x.1 r)then .aa (l.os++eo++(es++l.es))else .fail "lent"
     |_,_,_=> .fail "out"
def tree (d:Nat) (dr:nK):T mA:=cond (oQ X.pr dr.f) ((aky X d dr).LR [] ((oX (fS dr.args)).length+(TJ (fS dr.args)).length+(dr.args.map fun| .a _=>1| .g ss=>ss.length|_=>0).sum)) (aky X d dr)
end
end
end Go.Proofs.YtlklkgdaegncaaaGreatDoor
