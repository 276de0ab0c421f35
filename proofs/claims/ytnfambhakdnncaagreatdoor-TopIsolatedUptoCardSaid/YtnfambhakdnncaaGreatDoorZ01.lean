/-
  A part of the proof of TopIsolated: SymA, SymB, SymC, SymD, SymI, SymM.
-/
import Derived.WalkKit
import Derived.ProofKit
import Derived.Below
import Derived.StillTail
import Derived.Laws.AppendOwn
import Derived.Laws.OwnMore
import Derived.IntWalk
import Derived.Laws.StructEq
import Derived.Lib.AppendZeros
import Derived.Laws.Slices
import Derived.Great.BuildSlice
import Derived.Laws.Tables
import Derived.Lib.AppendStr
import Derived.Laws.CopyRow
import Derived.Laws.IdiomCopy
import Derived.Laws.IdiomStrings
import Derived.MapKept
import Derived.WideKeyRuns
namespace Go.Proofs.YtnfambhakdnncaaGreatDoor
set_option linter.all false
set_option maxRecDepth 1000000
set_option maxHeartbeats 80000000
open List Nat Int Go.RowKit
def aL:type_of% @Bool.and_eq_true:= @Bool.and_eq_true
def cE:type_of% @List.getD_eq_getElem?_getD.{0}:= @List.getD_eq_getElem?_getD
def cB:type_of% @List.getElem?_eq_getElem.{0}:= @List.getElem?_eq_getElem
def fR:type_of% @List.length_append.{0}:= @List.length_append
def fh:type_of% @Nat.eq_of_beq_eq_true:= @Nat.eq_of_beq_eq_true
def fv:type_of% @of_decide_eq_true:= @of_decide_eq_true
def lR:type_of% @List.getElem?_append_right.{0}:= @List.getElem?_append_right
def aA:type_of% @if_pos.{1}:= @if_pos
def nW:type_of% @Option.map_eq_some_iff.{0,0}:= @Option.map_eq_some_iff
def aE:type_of% @if_neg.{1}:= @if_neg
def bY:type_of% @Bool.or_eq_true:= @Bool.or_eq_true
def aX:type_of% @Nat.le_refl:= @Nat.le_refl
def bI:type_of% @Nat.le_trans:= @Nat.le_trans
def cw:type_of% @List.mem_singleton.{0}:= @List.mem_singleton
def eF:type_of% @Option.some.injEq.{0}:= @Option.some.injEq
def gA:type_of% @List.getElem?_append_left.{0}:= @List.getElem?_append_left
def kK:type_of% @List.getElem?_eq_some_iff.{0}:= @List.getElem?_eq_some_iff
def d9:type_of% @List.mem_of_getElem?.{0}:= @List.mem_of_getElem?
def bX:type_of% @List.mem_cons.{0}:= @List.mem_cons
def iW:type_of% @List.length_take.{0}:= @List.length_take
def bB:type_of% @List.mem_cons_of_mem.{0}:= @List.mem_cons_of_mem
def eh:type_of% @List.append_assoc.{0}:= @List.append_assoc
def ic:type_of% @List.mem_append.{0}:= @List.mem_append
def eG:type_of% @Nat.zero_add:= @Nat.zero_add
def cW:type_of% @Array.length_toList.{0}:= @Array.length_toList
def ta:type_of% @Nat.add_sub_cancel_left:= @Nat.add_sub_cancel_left
def lO:type_of% @List.all_eq_true.{0}:= @List.all_eq_true
def fc:type_of% @List.mem_cons_self.{0}:= @List.mem_cons_self
def iK:type_of% @Prod.mk.injEq.{0,0}:= @Prod.mk.injEq
def fu:type_of% @Nat.mul_le_mul_right:= @Nat.mul_le_mul_right
def xX:type_of% @Option.some.inj.{0}:= @Option.some.inj
def iX:type_of% @Array.getElem?_eq_some_iff.{0}:= @Array.getElem?_eq_some_iff
def lP:type_of% @decide_eq_true:= @decide_eq_true
def mB:type_of% @List.getElem?_eq_none.{0}:= @List.getElem?_eq_none
def px:type_of% @List.eq_nil_of_length_eq_zero.{0}:= @List.eq_nil_of_length_eq_zero
def Ab:type_of% @List.length_map.{0,0}:= @List.length_map
def fS:type_of% @List.any_eq_true.{0}:= @List.any_eq_true
def iv:type_of% @List.mem_append_left.{0}:= @List.mem_append_left
def xA:type_of% @Nat.zero_le:= @Nat.zero_le
def om:type_of% @Int.toNat_natCast:= @Int.toNat_natCast
def cz:type_of% @List.mem_append_right.{0}:= @List.mem_append_right
def lQ:type_of% @List.take_of_length_le.{0}:= @List.take_of_length_le
def AL:type_of% @Option.bind_eq_some_iff.{0,0}:= @Option.bind_eq_some_iff
def qM:type_of% @Bool.false_eq_true:= @Bool.false_eq_true
def tc:type_of% @List.length_drop.{0}:= @List.length_drop
def qe:type_of% @Nat.lt_succ_iff_lt_or_eq:= @Nat.lt_succ_iff_lt_or_eq
def AM:type_of% @List.length_cons.{0}:= @List.length_cons
def uP:type_of% @List.append_nil.{0}:= @List.append_nil
def BM:type_of% @List.length_singleton.{0}:= @List.length_singleton
def jQ:type_of% @List.map_cons.{0,0}:= @List.map_cons
def iw:type_of% @List.take_append_of_le_length.{0}:= @List.take_append_of_le_length
def td:type_of% @Nat.add_assoc:= @Nat.add_assoc
def ei:type_of% @decide_eq_true_eq:= @decide_eq_true_eq
def oo:type_of% @Nat.le_of_ble_eq_true:= @Nat.le_of_ble_eq_true
def vR:type_of% @List.getElem?_map.{0,0}:= @List.getElem?_map
def xB:type_of% @List.mem_of_mem_drop.{0}:= @List.mem_of_mem_drop
def nU:type_of% @List.pairwise_append.{0}:= @List.pairwise_append
def uQ:type_of% @List.cons.injEq.{0}:= @List.cons.injEq
def pA:type_of% @Nat.add_zero:= @Nat.add_zero
def rU:type_of% @List.nil_append.{0}:= @List.nil_append
def vS:type_of% @List.mem_of_mem_take.{0}:= @List.mem_of_mem_take
def qf:type_of% @Array.getElem?_toList.{0}:= @Array.getElem?_toList
def mC:type_of% @Nat.lt_of_lt_of_le:= @Nat.lt_of_lt_of_le
def xC:type_of% @Array.getElem?_setIfInBounds_ne.{0}:= @Array.getElem?_setIfInBounds_ne
def BO:type_of% @List.length_set.{0}:= @List.length_set
def Qd:type_of% @List.take_append_drop.{0}:= @List.take_append_drop
def nV:type_of% @List.not_mem_nil.{0}:= @List.not_mem_nil
def AO:type_of% @beq_iff_eq.{0}:= @beq_iff_eq
def qN:type_of% @List.filterMap_append.{0,0}:= @List.filterMap_append
def pB:type_of% @List.mem_map.{0,0}:= @List.mem_map
def BP:type_of% @List.map_append.{0,0}:= @List.map_append
def f9:type_of% @List.ext_getElem?.{0}:= @List.ext_getElem?
def qg:type_of% @List.getElem?_take.{0}:= @List.getElem?_take
def vT:type_of% @Nat.min_eq_left:= @Nat.min_eq_left
def BQ:type_of% @List.getElem_mem.{0}:= @List.getElem_mem
def uh:type_of% @Option.isSome_iff_exists.{0}:= @Option.isSome_iff_exists
def NB:type_of% @List.mem_map_of_mem.{0,0}:= @List.mem_map_of_mem
def AP:type_of% @List.filterMap_cons.{0,0}:= @List.filterMap_cons
def AQ:type_of% @List.flatMap_cons.{0,0}:= @List.flatMap_cons
def xD:type_of% @List.drop_eq_getElem_cons.{0}:= @List.drop_eq_getElem_cons
def Ac:type_of% @Nat.add_mul:= @Nat.add_mul
def Jq:type_of% @List.size_toArray.{0}:= @List.size_toArray
def LB:type_of% @decide_eq_false_iff_not:= @decide_eq_false_iff_not
def vU:type_of% @Nat.lt_or_eq_of_le:= @Nat.lt_or_eq_of_le
def Qe:type_of% @List.getD_cons_succ.{0}:= @List.getD_cons_succ
def LD:type_of% @List.getD_cons_zero.{0}:= @List.getD_cons_zero
def Fd:type_of% @Array.getElem?_eq_getElem.{0}:= @Array.getElem?_eq_getElem
def Fe:type_of% @List.cons_append.{0}:= @List.cons_append
def Uy:type_of% @Nat.div_lt_iff_lt_mul:= @Nat.div_lt_iff_lt_mul
def Ad:type_of% @Nat.sub_self:= @Nat.sub_self
def LE:type_of% @Classical.not_not:= @Classical.not_not
def BR:type_of% @List.getElem?_drop.{0}:= @List.getElem?_drop
def LF:type_of% @List.mem_filterMap.{0,0}:= @List.mem_filterMap
def Ff:type_of% @Prod.mk.inj.{0,0}:= @Prod.mk.inj
def AR:type_of% @or_false:= @or_false
def qO:type_of% @if_true.{1}:= @if_true
def na:type_of% @if_false.{1}:= @if_false
def rV:type_of% @List.drop_eq_nil_of_le.{0}:= @List.drop_eq_nil_of_le
def NC:type_of% @Bool.not_eq_true':= @Bool.not_eq_true'
def ND:type_of% @List.map_congr_left.{0,0}:= @List.map_congr_left
def Ai:type_of% @Array.eq_empty_of_size_eq_zero.{0}:= @Array.eq_empty_of_size_eq_zero
def Si:type_of% @List.drop_append_of_le_length.{0}:= @List.drop_append_of_le_length
def Ny:type_of% @List.length_replicate.{0}:= @List.length_replicate
def Ek:type_of% @Array.toArray_toList.{0}:= @Array.toArray_toList
def Ke:type_of% @List.mem_or_eq_of_mem_set.{0}:= @List.mem_or_eq_of_mem_set
def Kf:type_of% @Nat.mul_comm:= @Nat.mul_comm
def xU:type_of% @Nat.lt_or_ge:= @Nat.lt_or_ge
def xV:type_of% @List.nodup_cons.{0}:= @List.nodup_cons
def tu:type_of% @Nat.div_add_mod:= @Nat.div_add_mod
def wY:type_of% @Nat.div_div_eq_div_mul:= @Nat.div_div_eq_div_mul
def Kg:type_of% @Nat.le_of_not_lt:= @Nat.le_of_not_lt
def wZ:type_of% @List.all_cons.{0}:= @List.all_cons
def Nz:type_of% @Nat.zero_mul:= @Nat.zero_mul
def GE:type_of% @List.filter_cons_of_pos.{0}:= @List.filter_cons_of_pos
def uO:type_of% @List.isEmpty_iff.{0}:= @List.isEmpty_iff
def oe:type_of% @List.length_nil.{0}:= @List.length_nil
def Aj:type_of% @Nat.mul_le_mul_left:= @Nat.mul_le_mul_left
def NA:type_of% @Nat.two_pow_pos:= @Nat.two_pow_pos
def Kh:type_of% @List.nodup_append.{0}:= @List.nodup_append
def xW:type_of% @Int.zero_add:= @Int.zero_add
def xc:type_of% @List.mem_flatMap.{0,0}:= @List.mem_flatMap
def GF:type_of% @List.cons.inj.{0}:= @List.cons.inj
def Ki:type_of% @List.drop_zero.{0}:= @List.drop_zero
def GG:type_of% @Classical.em:= @Classical.em
def BK:type_of% @Nat.beq_refl:= @Nat.beq_refl
inductive Sc where
 |i (z:Int)|b (x:Bool)|s (x:ByteArray)|l (xs:List Sc)|r (a:Option Addr) (n cap:Nat) (xs:List Sc)
 deriving Inhabited
def Sc.int:Sc->Int| .i z=>z|_=>0
def Sc.bool:Sc->Bool| .b x=>x|_=>false
def Sc.str:Sc->ByteArray| .s x=>x|_=>ByteArray.empty
def Sc.list:Sc->List Sc| .l x=>x| .r _ _ _ x=>x|_=>[]
def Sc.hdr:Sc->Value| .r a n cap _=> .slice a n cap|_=> .slice none 0 0
@[simp] def Sc.KQ(z:Int):(Sc.i z).int=z:=rfl
@[simp] def Sc.agn(x:Bool):(Sc.b x).bool=x:=rfl
@[simp] def Sc.PG(x:ByteArray):(Sc.s x).str=x:=rfl
@[simp] def Sc.Ib(x:List Sc):(Sc.l x).list=x:=rfl
inductive U1 where
 |conv (k:IntKind)|not|len|iN|cell (i:Nat)|bytes
 deriving DecidableEq
inductive U2 where
 |add (k:IntKind)|sub (k:IntKind)|mul (k:IntKind)|quo (k:IntKind)|rem (k:IntKind)
 |NR (k:IntKind)|bor (k:IntKind)|WU (k:IntKind)|WQ (k:IntKind)|shl (k:IntKind)|shr (k:IntKind)
 |max|min|eq|ne|lt|le|beq|bne|and|or|seq|cat|qG|gx|app|idx|cons|Bp|mem (n:Nat)|BS (n:Nat)
 deriving DecidableEq
inductive U3 where
 |ite|iM|anW|mu
 deriving DecidableEq
def Sc.er:Sc->Sc
 | .l xs=> .l (xs.map Sc.er)| .r _ _ _ xs=> .l (xs.map Sc.er)| .i z=> .i z| .b x=> .b x| .s x=> .s x
def dP(l:List Sc):List Sc:=l.map Sc.er
inductive Ex where
 |v (n:Nat)|i (z:Int)|b (x:Bool)|s (x:List Nat)|nil
 |u (f:U1) (x:Ex)|o (f:U2) (x y:Ex)|t (f:U3) (x y z:Ex)
 deriving Inhabited
def Ex.same:Ex->Ex->Bool
 | .v p,.v q=>p==q| .i p,.i q=>p==q| .b p,.b q=>p==q| .s p,.s q=>p==q| .nil,.nil=>true| .u f x,.u g y=>decide (f=g)&&x.same y| .o f x y,.o g x' y'=>decide (f=g)&&x.same x'&&y.same y'| .t f x y z,.t g x' y' z'=>decide (f=g)&&x.same x'&&y.same y'&&z.same z'|_,_=>false
def Ex.under(n:Nat):Ex->Bool
 | .v a=>blt a n| .u _ x=>x.under n| .o _ x y=>x.under n&&y.under n| .t _ x y z=>x.under n&&y.under n&&z.under n|_=>true
def jC(s:ByteArray):List Sc:=s.data.toList.map fun b=>Sc.i (b.toNat:Int)
def ef(n:Nat)(x y:Sc):Bool:=if n=0 then x.str.toList==y.str.toList else if n=1 then x.int==y.int else if n=3 then(range 2).all fun i=>(x.list.getD i (.i 0)).int==(y.list.getD i (.i 0)).int else(range n).all fun i=>(x.list.getD i (.i 0)).str.toList==(y.list.getD i (.i 0)).str.toList
def U1.ev:U1->Sc->Sc
 | .conv k,x=> .i (k.wrap x.int)| .not,x=> .b (!x.bool)| .len,x=> .i x.list.length| .iN,x=> .i x.str.size| .cell n,x=>x.list.getD n (.i 0)| .bytes,x=> .l (jC x.str)
def U2.ev:U2->Sc->Sc->Sc
 | .add k,x,y=> .i (k.wrap (x.int+y.int))| .sub k,x,y=> .i (k.wrap (x.int-y.int))| .mul k,x,y=> .i (k.wrap (x.int*y.int))| .quo k,x,y=> .i (k.wrap (x.int.tdiv y.int))| .rem _,x,y=> .i (x.int.tmod y.int)| .NR k,x,y=> .i (k.wrap (BitVec.ofInt k.bits x.int&&&BitVec.ofInt k.bits y.int).toNat)| .bor k,x,y=> .i (k.wrap (BitVec.ofInt k.bits x.int|||BitVec.ofInt k.bits y.int).toNat)| .WU k,x,y=> .i (k.wrap (BitVec.ofInt k.bits x.int^^^BitVec.ofInt k.bits y.int).toNat)| .WQ k,x,y=> .i (k.wrap (BitVec.ofInt k.bits x.int&&& ~~~BitVec.ofInt k.bits y.int).toNat)| .shl k,x,y=> .i (k.wrap (x.int*2^(Min.min y.int.toNat k.bits)))| .shr k,x,y=> .i (x.int.fdiv (2^(Min.min y.int.toNat k.bits)))| .max,x,y=> .i (if y.int>x.int then y.int else x.int)| .min,x,y=> .i (if y.int<x.int then y.int else x.int)| .eq,x,y=> .b (x.int==y.int)| .ne,x,y=> .b (x.int !=y.int)| .lt,x,y=> .b (decide (x.int<y.int))| .le,x,y=> .b (decide (x.int<=y.int))| .beq,x,y=> .b (x.bool==y.bool)| .bne,x,y=> .b (x.bool !=y.bool)| .and,x,y=> .b (x.bool&&y.bool)| .or,x,y=> .b (x.bool||y.bool)| .seq,x,y=> .b (x.str.toList==y.str.toList)| .cat,x,y=> .s (x.str++y.str)| .qG,x,y=> .i ((x.str.data.toList.getD y.int.toNat 0).toNat)| .gx,x,y=> .l (x.list++[y])| .app,x,y=> .l (x.list++y.list)| .idx,x,y=>x.list.getD y.int.toNat (.i 0)| .cons,x,y=> .l (x::y.list)| .Bp,x,y=> .l (replicate y.int.toNat x)| .mem n,x,y=> .b (x.list.any fun k=>ef n k y)| .BS n,x,y=> .l (if x.list.any fun k=>ef n k y then x.list else x.list++[y])
def U3.ev:U3->Sc->Sc->Sc->Sc
 | .ite,x,y,z=>if x.bool then y else z
 | .iM,x,y,z=> .l ((x.list.take z.int.toNat).drop y.int.toNat)| .anW,x,y,z=> .s (x.str.extract y.int.toNat z.int.toNat)| .mu,x,y,z=> .l (x.list.set y.int.toNat z)
def Ex.ev(ρ:List Sc):Ex->Sc
 | .v n=>ρ.getD n (.i 0)| .i z=> .i z| .b x=> .b x| .s x=> .s ⟨(x.map UInt8.ofNat).toArray⟩| .nil=> .l []| .u f x=>f.ev (x.ev ρ)| .o f x y=>f.ev (x.ev ρ) (y.ev ρ)| .t f x y z=>f.ev (x.ev ρ) (y.ev ρ) (z.ev ρ)
def vz:Ex->Nat->Option Ex
 | .o .cons a _,0=>some a| .o .cons _ r,n+1=>vz r n|_,_=>none
def jW(f:U1)(x:Ex):Ex:=
 match f,x with
 | .conv k,.i a=> .i (k.wrap a)| .not,.b a=> .b (!a)| .len,.nil=> .i 0| .cell n,x=>match vz x n with|some a=>a|none=> .u (.cell n) x
 |f,x=> .u f x
def di(f:U2)(x y:Ex):Ex:=
 match x,y with
 | .i a,.i b=>match f with
   | .add k=> .i (k.wrap (a+b))| .sub k=> .i (k.wrap (a-b))| .mul k=> .i (k.wrap (a*b))| .eq=> .b (a==b)| .ne=> .b (a !=b)| .lt=> .b (decide (a<b))| .le=> .b (decide (a<=b))|f=> .o f x y
 | .b a,y=>match f with
   | .and=>match a with|true=>(match y with| .b c=> .b c|y=> .o .and x y)|false=> .b false
   | .or=>match a with|true=> .b true|false=>(match y with| .b c=> .b c|y=> .o .or x y)
   |f=> .o f x y
 |x,y=> .o f x y
def xO(f:U3)(x y z:Ex):Ex:= .t f x y z
inductive CK where
 |int (k:IntKind)|bool|str|sl (el:TypeId)
 deriving DecidableEq
def CK.val:CK->Sc->Value
 | .int k,x=> .int k x.int| .bool,x=> .bool x.bool| .str,x=> .string x.str| .sl _,x=>x.hdr
inductive At where
 |top|int (k:IntKind) (e:Ex)|bool (e:Ex)|str (e:Ex)
 |ptr (b off:Nat)|J3 (r es:Nat) (ix:Ex) (off:Nat)|VB
 |vec (r:Nat)|sl (r es:Nat) (lo len:Ex)|wz
 |clip (r es:Nat) (lo len:Ex)
 |fn (f:Nat) (mE:List Nat)
 |keys (n:Nat) (e:Ex)|Zr|Zq|mp (b:Nat)|bs (b lo n:Nat)|fb (f:Nat) (m:Bool) (b:Nat)|sp (b:Nat)
 deriving Inhabited
inductive SC where
 |a (x:At)|g (cs:List At)
 deriving Inhabited
inductive SV where
 |c (x:SC)|t (xs:List SC)|nx (e p c:Ex)|JU (ty:TypeId) (cs:List At)
 deriving Inhabited
abbrev SV.at(x:At):SV:= .c (.a x)
abbrev SV.top:SV:= .c (.a .top)
def At.same:At->At->Bool
 | .top,.top=>true| .int k e,.int k' e'=>decide (k=k')&&e.same e'| .bool e,.bool e'=>e.same e'| .str e,.str e'=>e.same e'| .ptr b o,.ptr b' o'=>b==b'&&o==o'| .J3 r s i o,.J3 r' s' i' o'=>r==r'&&s==s'&&i.same i'&&o==o'| .VB,.VB=>true| .vec r,.vec r'=>r==r'| .sl r s x y,.sl r' s' x' y'=>r==r'&&s==s'&&x.same x'&&y.same y'| .wz,.wz=>true| .clip r s x y,.clip r' s' x' y'=>r==r'&&s==s'&&x.same x'&&y.same y'| .fn f c,.fn f' c'=>f==f'&&c==c'| .keys n e,.keys n' e'=>n==n'&&e.same e'| .Zr,.Zr=>true| .Zq,.Zq=>true| .mp b,.mp b'=>b==b'| .bs b l n,.bs b' l' n'=>b==b'&&l==l'&&n==n'| .fb f m b,.fb f' m' b'=>f==f'&&m==m'&&b==b'| .sp b,.sp b'=>b==b'|_,_=>false
def At.under(n:Nat):At->Bool
 | .int _ e| .bool e| .str e| .J3 _ _ e _| .keys _ e=>e.under n| .sl _ _ x y| .clip _ _ x y=>x.under n&&y.under n|_=>true
def SC.under(n:Nat):SC->Bool| .a x=>x.under n| .g cs=>cs.all (·.under n)
def SV.under(n:Nat):SV->Bool| .c x=>x.under n| .t xs=>xs.all (·.under n)| .nx e p ch=>e.under n&&p.under n&&ch.under n| .JU _ cs=>cs.all (·.under n)
def At.le(x y:At):Bool:=(match x with| .top=>true|_=>false)||x.same y
def leL:List At->List At->Bool
 |[],[]=>true|x::xs,y::ys=>x.le y&&leL xs ys|_,_=>false
def SC.le:SC->SC->Bool
 | .a .top,_=>true| .a x,.a y=>x.le y| .g x,.g y=>leL x y|_,_=>false
def leC:List SC->List SC->Bool
 |[],[]=>true|x::xs,y::ys=>x.le y&&leC xs ys|_,_=>false
def SV.le:SV->SV->Bool
 | .c (.a .top),_=>true| .c x,.c y=>x.le y| .t x,.t y=>leC x y| .nx e p ch,.nx e1 p1 ch1=>e.same e1&&p.same p1&&ch.same ch1| .JU k x,.JU k' y=>Nat.beq k k'&&leL x y|_,_=>false
structure Bk where
 cells:List At
 ty:TypeId
 kd:Nat
structure Rw where
 el:TypeId
 ks:List CK
 agg:Bool
 cont:Ex
 own:Bool
 hole:Option (Ex×Nat×Nat)
def HK:Option (Ex×Nat×Nat)->Option (Ex×Nat×Nat)->Bool
 |none,none=>true|some (x,o,q),some (y,o',q')=>x.same y&&o==o'&&q==q'|_,_=>false
def Rw.same(a b:Rw):Bool:=a.el==b.el&&decide (a.ks=b.ks)&&a.agg==b.agg&&a.cont.same b.cont&&a.own==b.own&&HK a.hole b.hole
def Rw.plain(a:Rw):Bool:=match a.hole with|none=>true|some _=>false
def Rw.Ed(n:Nat)(a:Rw):Bool:=match a.hole with|none=>true|some (x,_,_)=>x.under n
inductive T(L:Type) where
 |ah (x:L)
 |fail (why:String)
 |ite (c:Ex) (a b:T L)
 |aa (c:Ex) (k:T L)
 |call (f:Nat) (args:List Ex) (n:Nat) (k:T L)
 |loop (jH:List Ex) (body:T L)
 |next (lvl:Nat) (jw:List Ex)
def T.bind{L M:Type}:T L->(L->T M)->T M
 | .ah x,f=>f x| .fail w,_=> .fail w| .ite c a b,f=> .ite c (a.bind f) (b.bind f)| .aa c k,f=> .aa c (k.bind f)| .call g as n k,f=> .call g as n (k.bind f)| .loop i k,f=> .loop i (k.bind f)| .next l vs,_=> .next l vs
structure St where
 nv:Nat
 lv:Nat
 aC:List SV
 au:List (Option Bk)
 rows:List (Option Rw)
def St.slot(σ:St)(t:Nat):SV:=σ.aC.getD t .top
def St.blk(σ:St)(b:Nat):Option Bk:=σ.au.getD b none
def St.row(σ:St)(r:Nat):Option Rw:=σ.rows.getD r none
inductive AS where
 |ck (k:CK)
inductive PS where
 |rd (k:CK)|ck (k:CK)|own (el:TypeId)|sp|fq
inductive CS where
 |a (x:AS)|g (xs:List AS)|p (ty:TypeId) (ss:List PS)|f (g:Nat) (ls:List (TypeId×List PS))
 |w (el:TypeId) (b:Bool)
inductive RS where
 |c (x:CS)|t (xs:List CS)|o (el:TypeId)|ot (el:TypeId) (xs:List CS)
 |al (ss:List PS) (js:List Nat)
structure tr where
 key:Nat
 f:FuncId
 args:List CS
 res:RS
structure dl where
 eZ:List Ex
 call:Option (Nat×List Ex×Nat)
 val:SV
 au:List (Nat×Option Bk)
 rows:List (Nat×Option Rw)
 nb:List Nat
 nr:List Nat
def dl.pure(v:SV):dl:=⟨[],none,v,[],[],[],[]⟩
def abq:Value->Option At
 | .int k n=>some (.int k (.i n))| .bool b=>some (.bool (.b b))| .string s=>some (.str (.s (s.data.toList.map UInt8.toNat)))| .pointer none=>some .VB| .slice none 0 0=>some .wz| .map none=>some .Zr| .nilFunc=>some .Zq|_=>none
def Kl:List Value->Option (List At)
 |[]=>some []|v::vs=>match abq v,Kl vs with
  |some x,some xs=>some (x::xs)|_,_=>none
def RW:Value->Option SV
 | .agg cs=>(Kl cs.toList).map fun x=> .c (.g x)| .tuple vs=>match vs.toList with|[]=>some (.t [])|_=>none
 |v=>(abq v).map .at
abbrev dK:=List Sc->Option (List Sc)
abbrev cv:=List (Nat×Option Rw)
abbrev iu:=Nat->Option Rw
abbrev ab:=List Sc
abbrev aW:=List Value
abbrev dg:=Nat->Prop
abbrev bH:=List Nat
abbrev bZ:=List Ex
abbrev eO:=List At
abbrev jj:=List CK
abbrev Nv:=List AS
abbrev sX:=List CS
abbrev m7:=List PS
abbrev dB:=List Oper
abbrev ip:=List TypeId
abbrev Dk:=List Int
abbrev Qa:=List Tmp
abbrev ug:=List tr
def Operand.avi:Operand->Option Tmp| .tmp t=>some t|_=>none
def pU(ops:dB)(o:Oper):Qa:=
 (o.op.operands.toList.filterMap Operand.avi)++(match o.guard with|some (g,_)=>((ops[g]?).bind (·.dst)).toList|none=>[])
def At.vY:At->bH| .ptr p _=>[p]| .mp p=>[p]| .bs p _ _=>[p]| .fb _ _ p=>[p]| .sp p=>[p]| .fn _ cs=>cs|_=>[]
def At.rid:At->Option Nat| .J3 r _ _ _| .vec r| .sl r _ _ _| .clip r _ _ _=>some r|_=>none
def SC.atoms:SC->eO| .a x=>[x]| .g cs=>cs
def SV.atoms:SV->eO| .c x=>x.atoms| .t xs=>xs.flatMap SC.atoms| .nx _ _ _=>[]| .JU _ cs=>cs
def SV.vY(x:SV):bH:=x.atoms.flatMap At.vY
def SV.ah4(x:SV):bH:=x.atoms.filterMap At.rid
structure Rd where
 ev:Operand->SV
 blk:Nat->Option Bk
 row:iu
 nv:Nat
 nb:Nat
 nr:Nat
def evS(slot:Nat->SV):Operand->SV
 | .tmp t=>slot t| .const v=>(RW v).getD .top| .func f=> .at (.fn f [])| .global _=> .top
def iC(l:bH)(n:Nat):Bool:=l.any (Nat.beq n)
def tK(slot:Nat->SV)(ops:dB)(o:Oper):Qa:=
 match o.op with
 | .move _=>[]| .assign _=>[]| .store _ (.tmp t) _=>(match slot t with| .c (.a (.ptr _ _))=>[t]|_=>pU ops o)|_=>pU ops o
def xp(ops:dB)(o:Oper):Qa:=match o.op with| .call _=>pU ops o|_=>[]
def WO:Option Bk->bH|some k=>k.cells.filterMap At.rid|none=>[]
def ke(slot:Nat->SV)(blk:Nat->Option Bk)(ds ls:Qa):bH:=
 (ds.flatMap fun t=>(slot t).ah4)++(ls.flatMap fun t=>(slot t).vY).flatMap fun p=>WO (blk p)
def CV(slot:Nat->SV)(blk:Nat->Option Bk)(row:iu)(ts ds ls:Qa)(nv nb nr:Nat):Rd:=
 {ev:=evS fun t=>cond (iC ts t) (slot t) .top
  blk:=fun p=>cond (iC (ds.flatMap fun t=>(slot t).vY) p) (blk p) none
  row:=fun r=>cond (iC (ke slot blk ds ls) r) (row r) none
  nv,nb,nr}
section
variable(P:Program)
def Uh:Nat->TypeId->List (Option TypeId)
 |0,_=>[]|d+1,ty=>match P.underlying ty with
  |some (.struct fs)=>fs.toList.flatMap fun f=>Uh d f.type|some (.array n el)=>(replicate n (Uh d el)).flatten|some (.slice el)=>[some el]|_=>[none]
def abK:Value->Option TypeId->Option CK
 | .int k _,_=>some (.int k)| .bool _,_=>some .bool| .string _,_=>some .str| .slice none 0 0,some el=>some (.sl el)|_,_=>none
def NZ:aW->List (Option TypeId)->Option jj
 |[],_=>some []|v::vs,ts=>match abK v ts.head?.join,NZ vs ts.tail with
  |some x,some xs=>some (x::xs)|_,_=>none
def lH(ty:TypeId):Option Value:=(P.info? ty).bind (·.zero)
def eC(el:TypeId):Option (Bool×jj):=
 match lH P el with
 |some (.agg cs)=>(NZ cs.toList (Uh P 8 el)).map fun x=>(true,x)|some v=>(abK v (Uh P 8 el).head?.join).map fun x=>(false,[x])|none=>none
def i9(ty:TypeId):Option Bool:=
 match P.underlying ty with
 |some (.struct _)|some (.array _ _)=>some true|some _=>some false|none=>none
def gO(ty:TypeId):Option Nat:=(P.info? ty).map (·.size)
def Md(ty:TypeId)(f:Nat):Option Field:=
 match P.underlying ty with
 |some (.struct fs)=>fs[f]?|_=>none
def agt:CK->Ex->At| .int k,e=> .int k e| .bool,e=> .bool e| .str,e=> .str e| .sl _,_=> .top
def abp:CK->At->Option Ex
 | .int k,.int k' e=>if k=k' then some e else none
 | .bool,.bool e=>some e| .str,.str e=>some e|_,_=>none
def nu(e:Ex):jj->Nat->List (CK×Ex)
 |[],_=>[]|k::ks,n=>(k,jW (.cell n) e)::nu e ks (n+1)
def CL(agg:Bool)(ks:jj)(e:Ex):List (CK×Ex):=
 match agg,ks with
 |true,ks=>nu e ks 0|false,[k]=>[(k,e)]|false,_=>[]
def sF(nr:Nat)(e:Ex):CK->At×cv×Nat
 | .sl el=>match eC P el with
   |some (agg,ks)=>(.vec nr,[(nr,some ⟨el,ks,agg,e,false,none⟩)],nr+1)|none=>(.top,[],nr)
 |k=>(agt k e,[],nr)
def jK(nr:Nat)(e:Ex):AS->At×cv×Nat
 | .ck k=>sF P nr e k
def de(nr:Nat):List (AS×Ex)->eO×cv×Nat
 |[]=>([],[],nr)|(s,e)::ps=>
  let(x,r,tl):=jK P nr e s;let(xs,rs,xo):=de tl ps
  (x::xs,r++rs,xo)
def Rw.elem(w:Rw)(ix:Ex):Ex:=di .idx w.cont ix
def SV.sc:SV->Option SC| .c x=>some x|_=>none
def SV.cells:SV->Option eO
 | .c (.a x)=>some [x]| .c (.g cs)=>some cs|_=>none
def SV.int? :SV->Option (IntKind×Ex)| .c (.a (.int k e))=>some (k,e)|_=>none
def SV.at? :SV->Option At| .c (.a x)=>some x|_=>none
def At.known:At->Bool| .top=>false| .keys _ _=>false|_=>true
def nD:eO->Nat->eO->Option eO
 |cs,0,[]=>some cs|_::cs,0,x::xs=>(nD cs 0 xs).map (x::·)|c::cs,n+1,xs=>(nD cs n xs).map (c::·)|[],_,_=>none
def nG{α:Type}:List α->Nat->Nat->Option (List α)
 |_,0,0=>some []|c::cs,0,n+1=>(nG cs 0 n).map (c::·)|_::cs,o+1,n=>nG cs o n|[],_,_=>none
def yO(ty:TypeId)(cs:eO)(off:Nat):Option SV:=
 match i9 P ty,gO P ty with
 |some true,some n=>(nG cs off n).map fun x=> .c (.g x)|some false,_=>cs[off]?.map .at
 |_,_=>none
def MD(nr:Nat)(ty:TypeId)(ps:List (CK×Ex))(off:Nat):Option (SV×cv×Nat):=
 match i9 P ty,gO P ty with
 |some true,some n=>match nG ps off n with
  |some qs=>let(xs,rs,n):=de P nr (qs.map fun p=>(AS.ck p.1,p.2));some (.c (.g xs),rs,n)
  |none=>none
 |some false,_=>match ps[off]? with
  |some p=>let(x,rs,n):=sF P nr p.2 p.1;some (.at x,rs,n)
  |none=>none
 |_,_=>none
def Xv(pl:ip):Nat->TypeId->SC->SC->Option Ex
 |0,_,_,_=>none|d+1,ty,x,y=>
  match P.underlying ty,x,y with
  |some (.int _),.a (.int k x),.a (.int k' y)=>if k=k' then some (di .eq x y)else none
  |some .bool,.a (.bool x),.a (.bool y)=>some (di .beq x y)|some .string,.a (.str x),.a (.str y)=>some (di .seq x y)|some (.struct fs),.g xs,.g ys=>
   if ! iC pl ty then none else
   fs.toList.foldr (fun f acc=>
    if f.name= "_" then none else
    match acc,(yO P f.type xs f.offset).bind SV.sc,(yO P f.type ys f.offset).bind SV.sc with
    |some r,some p,some q=>match Xv pl d f.type p q with
     |some e=>some (di .and e r)|none=>none
    |_,_,_=>none) (some (.b true))
  |_,_,_=>none
def RX(pl:ip)(op:BinOp)(ty:TypeId)(x y:SV):Option dl:=
 let fin (k:IntKind) (f:U2) (a b:Ex):=some (dl.pure (.at (.int k (di f a b))))
 let bin (f:U2) (a b:Ex):=some (dl.pure (.at (.bool (di f a b))))
 match x,y with
 | .c (.a (.int k a)),.c (.a (.int k' b))=>
   match op with
   | .shl=>some {dl.pure (.at (.int k (di (.shl k) a b)))with eZ:=[di .le (.i 0) b]}| .shr=>some {dl.pure (.at (.int k (di (.shr k) a b)))with eZ:=[di .le (.i 0) b]}|op=>
    if k=k' then match op with
     | .add=>fin k (.add k) a b| .sub=>fin k (.sub k) a b| .mul=>fin k (.mul k) a b| .quo=>some {dl.pure (.at (.int k (di (.quo k) a b)))with eZ:=[di .ne b (.i 0)]}| .rem=>some {dl.pure (.at (.int k (di (.rem k) a b)))with eZ:=[di .ne b (.i 0)]}| .and=>fin k (.NR k) a b| .or=>fin k (.bor k) a b| .xor=>fin k (.WU k) a b| .andNot=>fin k (.WQ k) a b| .eql=>bin .eq a b| .neq=>bin .ne a b| .lss=>bin .lt a b| .leq=>bin .le a b| .gtr=>bin .lt b a| .geq=>bin .le b a|_=>none
    else none
 | .c (.a (.str a)),.c (.a (.str b))=>
   match op with
   | .add=>some {dl.pure (.at (.str (di .cat a b)))with eZ:=[di .le (.u .iN (di .cat a b)) (.i 9223372036854775807)]}| .eql=>bin .seq a b| .neq=>some (dl.pure (.at (.bool (jW .not (di .seq a b)))))|_=>none
 | .c (.a (.bool a)),.c (.a (.bool b))=>
   match op,P.underlying ty with
   | .eql,some .bool=>bin .beq a b| .neq,some .bool=>some (dl.pure (.at (.bool (jW .not (di .beq a b)))))|_,_=>none
 | .c (.g a),.c (.g b)=>
   if ! iC pl ty then none else
   match op,Xv P pl 4 ty (.g a) (.g b)with
   | .eql,some e=>some (dl.pure (.at (.bool e)))| .neq,some e=>some (dl.pure (.at (.bool (jW .not e))))|_,_=>none
 |_,_=>none
def bF(agg:Bool)(ks:jj):Bool:=match ks with|[]=>false|[_]=>true|_=>agg
def bq(row:iu):SV->Option (Option (Nat×Rw)×Ex×Ex)
 | .c (.a (.vec r))=>match row r with|some w=>if bF w.agg w.ks&&w.plain then some (some (r,w),.i 0,jW .len w.cont)else none|none=>none
 | .c (.a (.sl r es lo len))=>match row r with|some w=>if es=w.ks.length/\bF w.agg w.ks/\w.plain then some (some (r,w),lo,len)else none|none=>none
 | .c (.a .wz)=>some (none,.i 0,.i 0)|_=>none
def gU:SV->Option (Nat×Rw)->Ex->Ex->Ex
 | .c (.a (.vec _)),some (_,w),_,_=>w.cont|_,some (_,w),lo,len=>xO .iM w.cont lo (di (.add .i64) lo len)|_,none,_,_=> .nil
def Do(row:iu)(el:TypeId)(ks:jj)(agg:Bool)(x:At):Option (Ex×cv):=
 match bq row (.at x)with
 |some (some (r,w),lo,len)=>
  if w.el=el/\w.ks=ks/\w.agg=agg then some (gU (.at x) (some (r,w)) lo len,if w.own then[(r,some {w with own:=false})]else[])else none
 |some (none,_,_)=>some (.nil,[])|none=>none
def At.Xf:At->At| .clip r es lo len=> .sl r es lo len|x=>x
def rZ(row:iu)(k:CK)(x:At):Option (Ex×cv):=
 match k with
 | .sl el=>match eC P el with
   |some (agg,ks)=>if bF agg ks then Do row el ks agg x.Xf else none
   |none=>none
 |k=>(abp k x).map fun e=>(e,[])
def oh(row:iu):List (CK×Ex)->Nat->eO->Option (Ex×cv)
 |[],0,[]=>some (.nil,[])|(_,e)::ps,0,[]=>match oh row ps 0 []with|some (r,f)=>some (.o .cons e r,f)|none=>none
 |(k,_)::ps,0,x::xs=>match rZ P row k x,oh row ps 0 xs with
  |some (e,f),some (r,fs)=>some (.o .cons e r,f++fs)|_,_=>none
 |(_,e)::ps,n+1,xs=>match oh row ps n xs with|some (r,f)=>some (.o .cons e r,f)|none=>none
 |[],_,_=>none
def uo(row:iu)(agg:Bool)(ks:jj)(e:Ex)(off:Nat)(xs:eO):Option (Ex×cv):=
 match agg with
 |true=>oh P row (nu e ks 0) off xs|false=>match ks,off,xs with|[k],0,[x]=>rZ P row k x|_,_,_=>none
def Sn(row:iu):AS->At->Option (Ex×cv)
 | .ck k,x=>rZ P row k x
def qi(row:iu):Nv->eO->Option (bZ×cv)
 |[],[]=>some ([],[])|s::ss,x::xs=>match Sn P row s x,qi row ss xs with
  |some (e,r),some (es,rs)=>some (e::es,r++rs)|_,_=>none
 |_,_=>none
def Qg(row:iu):CS->SV->Option (bZ×cv)
 | .a s,.c (.a x)=>(Sn P row s x).map fun(e,r)=>([e],r)| .g ss,.c (.g xs)=>qi P row ss xs|_,_=>none
def tC(row:iu):sX->List SV->Option (bZ×cv)
 |[],[]=>some ([],[])|s::ss,x::xs=>match Qg P row s x,tC row ss xs with
  |some (e,r),some (es,rs)=>some (e++es,r++rs)|_,_=>none
 |_,_=>none
def gP(el:TypeId)(ks:jj)(agg:Bool):Option (Nat×Rw)->Bool
 |some (_,w)=>w.el==el&&decide (w.ks=ks)&&w.agg==agg&&w.plain|none=>true
def CS.bf:CS->List (TypeId×m7)| .p ty ss=>[(ty,ss)]| .f _ ls=>ls|_=>[]
def bf(l:sX):List (TypeId×m7):=l.flatMap CS.bf
def PS.yL:PS->Option TypeId| .own el=>some el|_=>none
def PS.in? :PS->Option CK| .rd k| .ck k=>some k|_=>none
def PS.FD:PS->Option CK| .ck k=>some k|_=>none
def dO(ls:List (TypeId×m7)):ip:=ls.flatMap fun x=>x.2.filterMap PS.yL
def Cv(ls:List (TypeId×m7)):jj:=ls.flatMap fun x=>x.2.filterMap PS.in?
def gK(ls:List (TypeId×m7)):jj:=ls.flatMap fun x=>x.2.filterMap PS.FD
def CS.yL:CS->ip| .w el _=>[el]|_=>[]
def CS.back? :CS->ip| .w el true=>[el]|_=>[]
def wsL(l:sX):ip:=l.flatMap CS.yL
def Gu(l:sX):ip:=l.flatMap CS.back?
def avC(row:iu):CS->SV->Option (bZ×cv×bH)
 | .w _ _,_=>some ([],[],[])| .p _ _,.c (.a (.ptr b 0))=>some ([],[],[b])| .f g ls,.c (.a (.fn h mE))=>if Nat.beq g h&&Nat.beq mE.length ls.length then some ([],[],mE)else none
 |s,x=>(Qg P row s x).map fun(e,r)=>(e,r,[])
def BW(row:iu):sX->List SV->Option (bZ×cv×bH)
 |[],[]=>some ([],[],[])|s::ss,x::xs=>match avC P row s x,BW row ss xs with
  |some (e,r,b),some (es,rs,bs)=>some (e++es,r++rs,b++bs)|_,_=>none
 |_,_=>none
structure fj where
 os:bZ
 es:bZ
 fr:cv
 rs:bH
def fj.app(a b:fj):fj:=⟨a.os++b.os,a.es++b.es,a.fr++b.fr,a.rs++b.rs⟩
def spB(b:Nat):At->Bool| .VB=>true| .ptr q 0=>Nat.beq q b| .sp q=>Nat.beq q b|_=>false
def ahw:At->Bool| .vec _=>true| .sl _ _ _ _=>true| .wz=>true|_=>false
def Bo(row:iu)(b:Nat):PS->At->Option fj
 | .rd k,x| .ck k,x=>(rZ P row k x).map fun(e,f)=>⟨[],[e],f,[]⟩| .own el,.vec r=>match row r,eC P el with
   |some w,some (agg,ks)=>if w.own&&gP el ks agg (some (r,w))&&bF agg ks then some ⟨[w.cont],[],[],[r]⟩else none
   |_,_=>none
 | .own el,.wz=>match eC P el with
   |some (agg,ks)=>if bF agg ks then some ⟨[.nil],[],[],[]⟩else none
   |none=>none
 | .sp,x=>if spB b x then some ⟨[],[],[],[]⟩else none
 | .fq,x=>if ahw x then some ⟨[],[],[],[]⟩else none
 |_,_=>none
def lF(row:iu)(b:Nat):m7->eO->Option fj
 |[],[]=>some ⟨[],[],[],[]⟩|s::ss,x::xs=>match Bo P row b s x,lF row b ss xs with
  |some y,some ys=>some (y.app ys)|_,_=>none
 |_,_=>none
def eL(row:iu)(blk:Nat->Option Bk):List (TypeId×m7)->bH->Option fj
 |[],[]=>some ⟨[],[],[],[]⟩|(ty,ss)::ls,b::bs=>match blk b with
  |some k=>if Nat.beq k.ty ty&&Nat.beq k.kd 0 then match lF P row b ss k.cells,eL row blk ls bs with
    |some y,some ys=>some (y.app ys)|_,_=>none
   else none
  |none=>none
 |_,_=>none
def wIn(row:iu):CS->SV->Option fj
 | .w el _,.c (.a x)=>Bo P row 0 (.own el) x| .w _ _,_=>none|_,_=>some ⟨[],[],[],[]⟩
def rK(row:iu):sX->List SV->Option fj
 |[],[]=>some ⟨[],[],[],[]⟩|s::ss,x::xs=>match wIn P row s x,rK row ss xs with
  |some y,some ys=>some (y.app ys)|_,_=>none
 |_,_=>none
def Ls(nv q:Nat):CS->SV->cv
 | .w el true,.c (.a (.vec r))=>match eC P el with
   |some (agg,ks)=>[(q,none),(r,some ⟨el,ks,agg,.v nv,true,none⟩)]|none=>[]
 |_,_=>[]
def Jd:Nat->Nat->sX->List SV->cv
 |nv,q,s::ss,x::xs=>Ls P nv q s x++Jd (nv+s.back?.length) (q+s.back?.length) ss xs|_,_,_,_=>[]
def bR(nv nr:Nat):ip->cv
 |[]=>[]|el::r=>(match eC P el with|some (agg,ks)=>[(nr,some ⟨el,ks,agg,.v nv,true,none⟩)]|none=>[])++bR (nv+1) (nr+1) r
def aQ(ro:Bool)(b:Nat):Nat->m7->eO->eO->eO->eO×Nat×eO×eO
 |nr,[],_,ys,zs=>([],nr,ys,zs)|nr,.rd k::ss,xs,ys,zs=>if ro then(let(r,n,y):=aQ ro b nr ss xs.tail ys zs;(xs.headD .top::r,n,y))else(let(r,n,y):=aQ ro b nr ss xs.tail ys.tail zs;(ys.headD .top::r,n,y))
 |nr,.ck k::ss,xs,ys,zs=>let(r,n,y):=aQ ro b nr ss xs.tail ys.tail zs;(ys.headD .top::r,n,y)
 |nr,.own _::ss,xs,ys,zs=>let(r,n,y):=aQ ro b (nr+1) ss xs.tail ys zs;(.vec nr::r,n,y)
 |nr,.sp::ss,xs,ys,zs=>let(r,n,y):=aQ ro b nr ss xs.tail ys zs;(.sp b::r,n,y)
 |nr,.fq::ss,xs,ys,zs=>if ro then(let(r,n,y):=aQ ro b nr ss xs.tail ys zs;(xs.headD .top::r,n,y))else(let(r,n,y):=aQ ro b nr ss xs.tail ys zs.tail;(zs.headD .top::r,n,y))
def bV(ro:Bool)(blk:Nat->Option Bk):Nat->List (TypeId×m7)->bH->eO->eO->List (Nat×Option Bk)
 |nr,(ty,ss)::ls,b::bs,ys,zs=>
  let(cs,n,y,z):=aQ ro b nr ss (match blk b with|some k=>k.cells|none=>[]) ys zs
  (b,some ⟨cs,ty,0⟩)::bV ro blk n ls bs y z
 |_,_,_,_,_=>[]
def bv(nv:Nat):Nv->List (AS×Ex)
 |[]=>[]|s::ss=>(s,.v nv)::bv (nv+1) ss
def lG(nv nr:Nat):CS->SC×cv×Nat×Nat
 | .a s=>let(x,r,tl):=jK P nr (.v nv) s;(.a x,r,nv+1,tl)
 | .g ss=>let(xs,r,tl):=de P nr (bv nv ss);(.g xs,r,nv+ss.length,tl)
 |_=>(.a .top,[],nv,nr)
def mW(nv nr:Nat):sX->List SC×cv×Nat×Nat
 |[]=>([],[],nv,nr)|s::ss=>
  let(x,r,AA,tl):=lG P nv nr s;let(xs,rs,nv2,xo):=mW AA tl ss
  (x::xs,r++rs,nv2,xo)
def wK(nv nr q:Nat):RS->SV×cv×Nat×Nat
 | .c s=>let(x,r,a,b):=lG P nv nr s;(.c x,r,a,b)
 | .t ss=>let(xs,r,a,b):=mW P nv nr ss;(.t xs,r,a,b)
 | .o _=>(.at (.vec q),[],nv,nr)| .ot _ ss=>let(xs,r,a,b):=mW P nv nr ss;(.t (.a (.vec q)::xs),r,a,b)
 | .al ss _=>let(ys,r,b):=de P nr (bv nv ((ss.filterMap PS.FD).map AS.ck));(.c (.g (aQ true 0 q ss (ss.map fun _=>At.top) ys []).1),r,nv+(ss.filterMap PS.FD).length,b)
def acI(ss:m7):Bool:=ss.all fun| .sp=>false|_=>true
def RS.yL:RS->ip| .o el=>[el]| .ot el _=>[el]| .al ss _=>ss.filterMap PS.yL|_=>[]
def GJ:m7->bH->eO->eO->eO
 | .fq::ss,j::js,cs,y::ys=>(cs[j]?).getD y::GJ ss js cs ys|_::ss,_::js,cs,y::ys=>y::GJ ss js cs ys|_,_,_,ys=>ys
def FP(res:RS)(cs:eO)(v:SV):SV:=
 match res,v with
 | .al ss js,.c (.g ys)=> .c (.g (GJ ss js cs ys))|_,v=>v
def firstCells(blk:Nat->Option Bk)(bs:bH):eO:=match bs with|b::_=>(match blk b with|some k=>k.cells|none=>[])|[]=>[]
def tH(row:iu)(agg:Bool)(ks:jj):Nat->List (Nat×SV)->Option (Ex×cv)
 |_,[]=>some (.nil,[])|n,(i,x)::rest=>if i=n then match x.cells with
   |some xs=>if xs.length=ks.length then match uo P row agg ks .nil 0 xs,tH row agg ks (n+1) rest with
     |some (e,f),some (es,fs)=>some (.o .cons e es,f++fs)|_,_=>none
    else none
   |none=>none
  else none
def EE(place:Nat->Option (Nat×Nat))(cs:eO):List (Nat×SV)->Option eO
 |[]=>some cs|(i,x)::rest=>match place i,x.cells with
  |some (off,size),some xs=>if xs.length=size/\xs.all At.known then match nD cs off xs with
    |some Ap=>EE place Ap rest|none=>none
   else none
  |_,_=>none
def room(cont:Ex)(bytes:Nat):Ex:=di .le (jW .len cont) (.i ((140737488355328/bytes:Nat):Int))
def j8(x:Ex):Ex->Ex
 | .nil=>x| .o .cons e r=>j8 (di .gx x e) r|y=>match x with| .nil=>y|x=>di .app x y
def ahO(r:Nat):Option (Nat×Rw)->Bool
 |some (q,_)=> !(Nat.beq q r)|none=>true
def mmL(f:U2):Ex->List SV->Option Ex
 |e,[]=>some e|e,.c (.a (.int _ q))::r=>mmL f (di f e q) r|_,_=>none
def af0:Option Value->Bool|some (.int k z)=>decide (k= .u8)&&decide (z=0)|_=>false
def Ni:CK->Value->Option Ex
 | .int k,.int k' z=>if k=k'/\z=0 then some (.i 0)else none
 | .bool,.bool b=>if b then none else some (.b false)
 | .str,.string s=>if s.size=0 then some (.s [])else none
 | .sl el,.slice none 0 0=>if(eC P el).isSome then some .nil else none
 |_,_=>none
def wW:jj->aW->Option Ex
 |[],[]=>some .nil|k::ks,v::vs=>match Ni P k v,wW ks vs with|some e,some r=>some (.o .cons e r)|_,_=>none
 |_,_=>none
def vO(agg:Bool)(ks:jj)(zs:aW):Option Ex:=
 match agg,ks,zs with
 |true,ks,zs=>wW P ks zs|false,[k],[v]=>Ni P k v|_,_,_=>none
def xZ(rd:Rd)(s x:Operand)(t t':TypeId):Option dl:=
 match P.underlying t,P.underlying t' with
 |some (.slice el),some (.int _)=>
  match eC P el,P.info? el,rd.ev s,rd.ev x with
  |some (agg,ks),some i,.c (.a .wz),.c (.a (.int .i64 n))=>match i.zero with
   |some z=>if bF agg ks&&blt 0 i.bytes&&Nat.beq i.size ks.length then match vO P agg ks z.cells.toList with
     |some e=>some ⟨[di .le (.i 0) n,di .le n (.i ((140737488355328/i.bytes:Nat):Int))],none,.at (.vec rd.nr),[],[(rd.nr,some ⟨el,ks,agg,.o .Bp e n,true,none⟩)],[],[rd.nr]⟩|none=>none
    else none
   |none=>none
  |_,_,_,_=>none
 |_,_=>none
def D3(rd:Rd)(i:TypeInfo)(el:TypeId)(e f:Ex):Option dl:=
 match eC P el with
 |some (agg,ks)=>if e.same f&&Nat.beq i.size ks.length&&bF agg ks&&ble i.bytes 4096 then match i.zero with
   |some z=>match vO P agg ks z.cells.toList with
    |some ze=>some ⟨[di .le (.i 0) e,di .le e (.i 16777216)],none,.at (.vec rd.nr),[],[(rd.nr,some ⟨el,ks,agg,.o .Bp ze e,true,none⟩)],[],[rd.nr]⟩|none=>none
   |none=>none
  else none
 |none=>none
def G5(rd:Rd)(d s:Operand)(t:TypeId):Option dl:=
 match P.underlying t with
 |some (.slice el)=>match eC P el,P.info? el,rd.ev d,bq rd.row (rd.ev s)with
  |some (agg,ks),some i,.c (.a (.vec r)),some (src,lo,len)=>match rd.row r with
   |some w=>if w.own&&gP el ks agg (some (r,w))&&gP el ks agg src&&bF agg ks&&Nat.beq i.size 1&&Nat.beq ks.length 1 then
     let y:=gU (rd.ev s) src lo len
     let n:=di .min (jW .len y) (jW .len w.cont)
     some ⟨[],none,.at (.int .i64 n),[],[(r,some {w with cont:=j8 (xO .iM y (.i 0) n) (xO .iM w.cont n (jW .len w.cont))})],[],[]⟩
    else none
   |none=>none
  |_,_,_,_=>none
 |_=>none
def GM(rd:Rd)(s x:Operand)(t t':TypeId):Option dl:=
 match P.underlying t,P.underlying t' with
 |some (.slice el),some .string=>
  match P.info? el,rd.ev x with
  |some i,.c (.a (.str e))=>
   if Nat.beq i.bytes 1&&Nat.beq i.size 1&&af0 i.zero then
    match rd.ev s with
    | .c (.a (.vec r))=>match rd.row r with
      |some w=>if w.own&&gP el [.int .u8] false (some (r,w))then
        let c:=j8 w.cont (jW .bytes e)
        some ⟨[room c 1],none,.at (.vec rd.nr),[],[(r,none),(rd.nr,some {w with cont:=c})],[],[rd.nr]⟩
       else none
      |none=>none
    | .c (.a .wz)=>
      let c:=j8 .nil (jW .bytes e)
      some ⟨[room c 1],none,.at (.vec rd.nr),[],[(rd.nr,some ⟨el,[.int .u8],false,c,true,none⟩)],[],[rd.nr]⟩
    |_=>none
   else none
  |_,_=>none
 |_,_=>none
def Iw(m:Bool)(b:Nat):At:=cond m (.mp b) (.ptr b 0)
def yp(rd:Rd)(g:Nat)(xs:List SV):ug->Option (tr×bZ×cv×bH×fj)
 |[]=>none|c::r=>if Nat.beq c.f g then match BW P rd.row c.args xs with
   |some (es,fr,bs)=>match eL P rd.row rd.blk (bf c.args) bs,rK P rd.row c.args xs with
    |some l,some wl=>some (c,es,fr,bs,l.app wl)|_,_=>yp rd g xs r
   |none=>yp rd g xs r
  else yp rd g xs r
def EA:bH->Bool
 |[]=>true|x::xs=> ! iC xs x&&EA xs
def CK.flat:CK->Bool| .sl _=>false|_=>true
def CS.flat:CS->Bool| .a (.ck k)=>k.flat| .g ss=>ss.all (fun| .ck k=>k.flat)|_=>false
def qt(el:TypeId):Bool:=match eC P el with|some (_,ks)=>ks.all CK.flat|none=>false
def RS.flat:RS->Bool| .c s=>s.flat| .t ss=>ss.all CS.flat| .o el=>qt P el| .ot el ss=>qt P el&&ss.all CS.flat| .al ss _=>(ss.filterMap PS.yL).all (qt P)&&(ss.filterMap PS.FD).all CK.flat
def tr.flat(bd:tr):Bool:=bd.res.flat P&&(dO (bf bd.args)++Gu bd.args).all (qt P)&&(gK (bf bd.args)).all CK.flat
def PS.still:PS->Bool| .rd _=>true| .fq=>true|_=>false
def tr.still(bd:tr):Bool:=(bf bd.args).all fun x=>x.2.all PS.still
def tF(cons:ug)(rd:Rd)(g:Nat)(xs:List SV):Option dl:=
 match yp P rd g xs cons with
 |some (bd,es,fr,bs,l)=>
  if EA bs&&EA l.rs&&l.rs.all (fun r=>(fr++l.fr).all fun x=> !Nat.beq x.1 r)then
   let ls:=bf bd.args
   let k:=(dO ls++Gu bd.args).length
   let m:=(dO ls++Gu bd.args++bd.res.yL).length
   let(v,rs,AA,tl):=wK P (rd.nv+m) (rd.nr+m) (rd.nr+k) bd.res
   let(ys,RC,xo):=de P tl (bv AA ((gK ls).map AS.ck))
   let news:=bR P rd.nv rd.nr (dO ls++Gu bd.args++bd.res.yL)++rs++RC
   some ⟨[],some (bd.key,l.os++l.es++es,AA+(gK ls).length-rd.nv),FP bd.res (firstCells rd.blk bs) v,cond bd.still [] (bV true rd.blk rd.nr ls bs ys []),(cond (bd.flat P) [] (fr++l.fr))++l.rs.map (fun r=>(r,none))++news++Jd P (rd.nv+(dO ls).length) (rd.nr+(dO ls).length) bd.args xs,[],news.map (·.1)⟩
  else none
 |none=>none
def EW(t:TypeId)(name:String):Option FuncId:=
 match i9 P t,(P.info? t).bind fun i=>i.methods.find? (·.name==name)with
 |some true,some m=>if m.path.isEmpty then match m.func with|some (f,false)=>some f|_=>none else none
 |_,_=>none
def wP(cons:ug)(rd:Rd)(c:Call):Option dl:=
 match c.callee with
 | .builtin .len=>
   match c.args.toList,c.argTypes.toList with
   |[x],t::_=>match P.underlying t,rd.ev x with
    |some .string,.c (.a (.str e))=>some (dl.pure (.at (.int .i64 (jW .iN e))))|some (.slice _),.c (.a (.bs _ _ n))=>some (dl.pure (.at (.int .i64 (.i n))))|some (.slice _),x=>(bq rd.row x).map fun(_,_,len)=>dl.pure (.at (.int .i64 len))|some (.array n _),_=>some (dl.pure (.at (.int .i64 (.i n))))|_,_=>none
   |_,_=>none
 | .builtin .cap=>
   match c.args.toList,c.argTypes.toList with
   |[x],t::_=>match P.underlying t,rd.ev x with
    |some (.slice _),.c (.a .wz)=>some (dl.pure (.at (.int .i64 (.i 0))))|_,_=>none
   |_,_=>none
 | .builtin .clear=>
   match c.args.toList,c.argTypes.toList with
   |[x],[t]=>match P.underlying t,rd.ev x with
    |some (.slice el),.c (.a (.sl r es lo len))=>match rd.row r,eC P el,(P.info? el).bind (·.zero)with
     |some w,some (agg,ks),some z=>if w.own&&gP el ks agg (some (r,w))&&bF agg ks&&Nat.beq es ks.length then match vO P agg ks z.cells.toList with
       |some e=>some ⟨[],none,.t [],[],[(r,some {w with cont:=j8 (xO .iM w.cont (.i 0) lo) (j8 (.o .Bp e len) (xO .iM w.cont (di (.add .i64) lo len) (jW .len w.cont)))})],[],[]⟩|none=>none
      else none
     |_,_,_=>none
    |_,_=>none
   |_,_=>none
 | .builtin .max=>
   match c.args.toList with
   |x::rest=>match rd.ev x with
    | .c (.a (.int k e))=>(mmL .max e (rest.map rd.ev)).map fun e=>dl.pure (.at (.int k e))|_=>none
   |_=>none
 | .builtin .min=>
   match c.args.toList with
   |x::rest=>match rd.ev x with
    | .c (.a (.int k e))=>(mmL .min e (rest.map rd.ev)).map fun e=>dl.pure (.at (.int k e))|_=>none
   |_=>none
 | .builtin .copy=>
   match c.args.toList,c.argTypes.toList with
   |[d,s],[t,_]=>G5 P rd d s t|_,_=>none
 | .builtin .append=>
   match c.args.toList,c.argTypes.toList with
   |[s,x],[t,t']=>
    if t=t' then match P.underlying t with
     |some (.slice el)=>match eC P el,P.info? el,bq rd.row (rd.ev x)with
      |some (agg,ks),some i,some (src,lo,len)=>
       if gP el ks agg src&&bF agg ks&&blt 0 i.bytes&&Nat.beq i.size ks.length then
        let y:=gU (rd.ev x) src lo len
        match rd.ev s with
        | .c (.a (.vec r))=>match rd.row r with
          |some w=>if w.own&&gP el ks agg (some (r,w))&&ahO r src then
            let c:=j8 w.cont y
            some ⟨[room c i.bytes],none,.at (.vec rd.nr),[],[(r,none),(rd.nr,some {w with cont:=c})],[],[rd.nr]⟩
           else none
          |none=>none
        | .c (.a .wz)=>
          let c:=j8 .nil y
          some ⟨[room c i.bytes],none,.at (.vec rd.nr),[],[(rd.nr,some ⟨el,ks,agg,c,true,none⟩)],[],[rd.nr]⟩
        | .c (.a (.clip q es b m))=>match bq rd.row (.at (.sl q es b m)),y with
          |some (some (q',w),YC,O0),.o .cons _ _=>
           if gP el ks agg (some (q',w))then
            let c:=j8 (gU (.at (.sl q es b m)) (some (q',w)) YC O0) y
            some ⟨[room c i.bytes],none,.at (.vec rd.nr),[],[(rd.nr,some ⟨el,ks,agg,c,true,none⟩)],[],[rd.nr]⟩
           else none
          |_,_=>none
        |_=>none
       else none
      |_,_,_=>none
     |_=>none
    else match xZ P rd s x t t' with
     |some r=>some r|none=>GM P rd s x t t'
   |_,_=>none
 | .value f=>
   match rd.ev f with
   | .c (.a (.fn g []))=>tF P cons rd g (c.args.toList.map rd.ev)| .c (.a (.fb g m b))=>tF P cons rd g (.at (Iw m b)::c.args.toList.map rd.ev)|_=>none
 | .invoke x name=>match rd.ev x with
   | .JU t cs=>match EW P t name with
     |some g=>tF P cons rd g (.c (.g cs)::c.args.toList.map rd.ev)|none=>none
   |_=>none
 |_=>none
def TP(rd:Rd):Option Operand->Option Ex
 |some l=>(rd.ev l).int?.map (·.2)|none=>some (.i 0)
def HF(rd:Rd)(hi:Option Operand)(d:Ex):Option Ex:=
 match hi with
 |some h=>(rd.ev h).int?.map (·.2)|none=>some d
def E8(rd:Rd):Option Operand->Bool
 |none=>true|some x=>match rd.ev x with| .c (.a (.int _ (.i 0)))=>true|_=>false
def aeR:SV->Bool| .c (.a (.vec _))=>true|_=>false
def amV(v:SV)(lo e:Ex):Ex:=match v with| .c (.a (.vec _))=>e|_=>di (.add .i64) lo e
def Q6(pl:ip)(row:iu)(r:Nat)(w:Rw)(off:Nat):eO->Option Nat
 |[.vec q]=>if iC pl 999999999 then match row q,w.ks[off]? with
    |some k,some (.sl el)=>if k.own&&k.plain&& !Nat.beq q r&&Nat.beq k.el el&&blt off w.ks.length then some q else none
    |_,_=>none
  else none
 |_=>none
def XG(ty:TypeId):Bool:=match i9 P ty with|some false=>true|_=>false
def Th(rd:Rd):SV->Option (Nat×Rw)
 | .c (.a (.vec r))=>match rd.row r with
   |some w=>if w.plain|| !w.own then none else some (r,w)
   |none=>none
 |_=>none
def ago:SV->Ex->Option (Nat×Nat)
 | .c (.a (.bs b lo n)),.i z=>if 0<=z/\z<(n:Int)then some (b,lo+z.toNat)else none
 |_,_=>none
def YX(key:TypeId):Option Nat:=
 match P.underlying key with
 |some .string=>some 0|some (.int .i64)=>some 1|some (.array n el)=>match P.underlying el,gO P el with
  |some .string,some 1=>if Nat.beq n 2 then some 2 else none
  |some (.int .i64),some 1=>if Nat.beq n 2 then some 3 else none
  |_,_=>none
 |_=>none
def O6(ty:TypeId):Option (Nat×TypeId):=
 match P.underlying ty with
 |some (.map key elem)=>match P.underlying elem,YX P key,lH P elem with
  |some .bool,some n,some (.bool false)=>some (n,key)|_,_,_=>none
 |_=>none
def PH:eO->Option Ex
 |[]=>some .nil| .str e::r=>(PH r).map fun x=> .o .cons e x|_=>none
def ON:eO->Option Ex
 |[]=>some .nil| .int .i64 e::r=>(ON r).map fun x=> .o .cons e x|_=>none
def acv:Nat->SV->Option Ex
 |0,.c (.a (.str e))=>some e|1,.c (.a (.int .i64 e))=>some e|2,.c (.g xs)=>if xs.length=2 then PH xs else none
 |3,.c (.g xs)=>if xs.length=2 then ON xs else none
 |_,_=>none
def TQ(rd:Rd)(ty:TypeId)(n:Nat):SV->Option (Nat×Ex)
 | .c (.a (.mp b))=>match rd.blk b with
   |some ⟨[.keys m e],t,1⟩=>if Nat.beq m n&&Nat.beq t ty then some (b,e)else none
   |_=>none
 |_=>none
def At.auf:At->Bool| .fn _ _=>true| .fb _ _ _=>true|_=>false
def Jf:Value->Option (CK×Ex)
 | .int k n=>if n=0 then some (.int k,.i 0)else none
 | .bool b=>if b=false then some (.bool,.b false)else none
 |_=>none
def je(pl:ip)(o:Oper)(rd:Rd):Option dl:=
 match o.op with
 | .move x| .assign x=>some (dl.pure (rd.ev x))| .pick c x y=>match rd.ev c with
   | .c (.a (.bool (.b true)))=>some (dl.pure (rd.ev x))| .c (.a (.bool (.b false)))=>some (dl.pure (rd.ev y))| .c (.a (.bool e))=>match rd.ev x,rd.ev y with
     | .c (.a (.bool p)),.c (.a (.bool q))=>some (dl.pure (.at (.bool (xO .ite e p q))))| .c (.a (.int k p)),.c (.a (.int k' q))=>if k=k' then some (dl.pure (.at (.int k (xO .ite e p q))))else none
     |_,_=>none
   |_=>none
 | .alloc ty=>match(lH P ty).bind RW with
   |some v=>match v.cells with
    |some cs=>if cs.all At.known then some ⟨[],none,.at (.ptr rd.nb 0),[(rd.nb,some ⟨cs,ty,0⟩)],[],[rd.nb],[]⟩else none
    |none=>none
   |none=>none
 | .box ty x=>match(rd.ev x).cells with
   |some cs=>if cs.all At.known then some ⟨[],none,.at (.ptr rd.nb 0),[(rd.nb,some ⟨cs,ty,0⟩)],[],[rd.nb],[]⟩else none
   |none=>none
 | .load ty x=>match rd.ev x with
   | .c (.a (.ptr b off))=>match rd.blk b with
     |some k=>if k.kd=0 then(yO P ty k.cells off).map dl.pure else none
     |none=>none
   | .c (.a (.J3 r es ix off))=>match rd.row r with
     |some w=>if es=w.ks.length/\bF w.agg w.ks then match w.hole with
       |none=>match MD P rd.nr ty (CL w.agg w.ks (w.elem ix)) off with
        |some (v,rs,_)=>some ⟨[],none,v,[],rs,[],rs.map (·.1)⟩|none=>none
       |some (jx,o,q)=>if w.own&&jx.same ix&&Nat.beq o off&&XG P ty then some (dl.pure (.at (.vec q)))else none
      else none
     |none=>none
   |_=>none
 | .store ty x y=>match o.dst,rd.ev x,(rd.ev y).cells with
   |none,.c (.a (.ptr b off)),some xs=>match rd.blk b,gO P ty with
    |some k,some n=>if k.kd=0/\xs.length=n/\xs.all At.known then(nD k.cells off xs).map fun cs=>⟨[],none,.t [],[(b,some ⟨cs,k.ty,0⟩)],[],[],[]⟩else none
    |_,_=>none
   |none,.c (.a (.J3 r es ix off)),some xs=>match rd.row r,gO P ty with
    |some w,some n=>if w.own&&w.plain&&Nat.beq xs.length n&&Nat.beq es w.ks.length&&bF w.agg w.ks&&xs.all At.known then
      match Q6 pl rd.row r w off xs with
      |some q=>some ⟨[],none,.t [],[],[(r,some {w with hole:=some (ix,off,q)})],[],[]⟩|none=>match uo P (fun q=>if Nat.beq q r then none else rd.row q) w.agg w.ks (w.elem ix) off xs with
      |some (e,fr)=>some ⟨[],none,.t [],[],fr++[(r,some {w with cont:=xO .mu w.cont ix e})],[],[]⟩|none=>none
     else none
    |_,_=>none
   |_,_,_=>none
 | .nilCheck x=>match rd.ev x with
   | .c (.a (.ptr b off))=>some (dl.pure (.at (.ptr b off)))| .c (.a (.fn f c))=>some (dl.pure (.at (.fn f c)))| .c (.a (.fb f m b))=>some (dl.pure (.at (.fb f m b)))|_=>none
 | .binOp op ty x y _=>RX P pl op ty (rd.ev x) (rd.ev y)| .unOp op _ x=>match op,rd.ev x with
   | .neg,.c (.a (.int k e))=>some (dl.pure (.at (.int k (di (.sub k) (.i 0) e))))| .xor,.c (.a (.int k e))=>some (dl.pure (.at (.int k (di (.WU k) (.i (if k.signed then-1 else k.max)) e))))| .not,.c (.a (.bool e))=>some (dl.pure (.at (.bool (jW .not e))))|_,_=>none
 | .convert src dst x=>match P.underlying src,P.underlying dst,rd.ev x with
   |some _,some (.int k),.c (.a (.int _ e))=>some (dl.pure (.at (.int k (jW (.conv k) e))))|some _,some .string,.c (.a (.str e))=>some (dl.pure (.at (.str e)))|some .string,some (.slice el),.c (.a (.str e))=>match P.underlying el with
    |some (.int .u8)=>some ⟨[di .le (.u .iN e) (.i (maxLen:Nat))],none,.at (.vec rd.nr),[],[(rd.nr,some ⟨el,[.int .u8],false,jW .bytes e,false,none⟩)],[],[rd.nr]⟩|_=>none
   |_,_,_=>none
 | .fieldAddr ty x f=>match Md P ty f,rd.ev x with
   |some fd,.c (.a (.ptr b off))=>match gO P fd.type with
    |some (_+1)=>some (dl.pure (.at (.ptr b (off+fd.offset))))|_=>none
   |some fd,.c (.a (.J3 r es ix off))=>match gO P fd.type with
    |some (_+1)=>some (dl.pure (.at (.J3 r es ix (off+fd.offset))))|_=>none
   |_,_=>none
 | .field ty x f=>match Md P ty f,rd.ev x with
   |some fd,.c (.g cs)=>(yO P fd.type cs fd.offset).map dl.pure|_,_=>none
 | .indexAddr ty x i=>match P.underlying ty,rd.ev i with
   |some (.slice el),.c (.a (.int _ e))=>match ago (rd.ev x) e with
    |some (b,j)=>if gO P el=some 1 then some (dl.pure (.at (.ptr b j)))else none
    |none=>match Th rd (rd.ev x),gO P el with
    |some (r,w),some n=>if n=w.ks.length/\bF w.agg w.ks then some {dl.pure (.at (.J3 r n e 0))with eZ:=[di .le (.i 0) e,di .lt e (jW .len w.cont)]}else none
    |_,_=>match bq rd.row (rd.ev x),gO P el with
     |some (some (r,w),lo,len),some n=>if n=w.ks.length then
       some {dl.pure (.at (.J3 r n (amV (rd.ev x) lo e) 0))with eZ:=[di .le (.i 0) e,di .lt e len]}else none
     |some (none,_,_),_=>some {dl.pure .top with eZ:=[.b false]}|_,_=>none
   |some (.array len el),.c (.a (.int _ (.i z)))=>match rd.ev x,gO P el with
    | .c (.a (.ptr b off)),some n=>if 0<=z/\z<(len:Int)then some (dl.pure (.at (.ptr b (off+z.toNat*n))))else none
    |_,_=>none
   |_,_=>none
 | .index ty x i=>match P.underlying ty,rd.ev i,rd.ev x with
   |some (.array len el),.c (.a (.int _ (.i z))),.c (.g cs)=>match gO P el with
    |some n=>if 0<=z/\z<(len:Int)then(yO P el cs (z.toNat*n)).map dl.pure else none
    |none=>none
   |some .string,.c (.a (.int _ e)),.c (.a (.str s))=>some {dl.pure (.at (.int .u8 (di .qG s e)))with eZ:=[di .le (.i 0) e,di .lt e (jW .iN s)]}|_,_,_=>none
 | .extract x i=>match rd.ev x with
   | .t xs=>(xs[i]?).map fun s=>dl.pure (.c s)| .nx e p ch=>match i with
     |0=>some (dl.pure (.at (.bool e)))|1=>some {dl.pure (.at (.int .i64 p))with eZ:=[e]}|2=>some {dl.pure (.at (.int .i32 ch))with eZ:=[e]}|_=>none
   |_=>none
 | .makeMap ty none=>match O6 P ty with
   |some (n,_)=>some ⟨[],none,.at (.mp rd.nb),[(rd.nb,some ⟨[.keys n .nil],ty,1⟩)],[],[rd.nb],[]⟩|none=>none
 | .lookup ty x k ok=>match O6 P ty with
   |some (n,_)=>match TQ rd ty n (rd.ev x),acv n (rd.ev k)with
    |some (_,e),some q=>let v:=At.bool (di (.mem n) e q);some (dl.pure (cond ok (.t [.a v,.a v]) (.at v)))
    |_,_=>none
   |none=>none
 | .mapUpdate ty x k v=>match o.dst,O6 P ty,rd.ev v with
   |none,some (n,_),.c (.a (.bool (.b true)))=>match TQ rd ty n (rd.ev x),acv n (rd.ev k)with
    |some (b,e),some q=>some ⟨[],none,.t [],[(b,some ⟨[.keys n (di (.BS n) e q)],ty,1⟩)],[],[],[]⟩|_,_=>none
   |_,_,_=>none
 | .range ty x=>match P.underlying ty,rd.ev x with
   |some .string,.c (.a (.str e))=>some ⟨[],none,.at (.ptr rd.nb 0),[(rd.nb,some ⟨[.str e,.int .i64 (.i 0)],ty,2⟩)],[],[rd.nb],[]⟩|_,_=>none
 | .next x true=>match rd.ev x with
   | .c (.a (.ptr b 0))=>match rd.blk b with
     |some ⟨[.str s,.int .i64 p],ty,2⟩=>
      let e:=di .lt p (jW .iN s)
      some ⟨[di .le (.i 0) p,di .le (jW .iN s) (.i 9223372036854775806),di .or (jW .not e) (di .lt (di .qG s p) (.i 128))],none,.nx e p (di .qG s p),[(b,some ⟨[.str s,.int .i64 (xO .ite e (di (.add .i64) p (.i 1)) p)],ty,2⟩)],[],[],[]⟩
     |_=>none
   |_=>none
 | .build ty parts=>match lH P ty,P.underlying ty with
   |some z,some (.struct fs)=>match(RW z).bind SV.cells,fs.toList.mapM (fun f=>(P.info? f.type).map fun i=>(f.offset,i.size))with
    |some zs,some places=>if zs.all At.known then(EE (places.toArray[·]?) zs (parts.toList.map fun(i,x)=>(i,rd.ev x))).map fun cs=>dl.pure (.c (.g cs))else none
    |_,_=>none
   |some z,some (.array _ el)=>match(RW z).bind SV.cells,P.info? el with
    |some zs,some ie=>if zs.all At.known then(EE (fun i=>some (i*ie.size,ie.size)) zs (parts.toList.map fun(i,x)=>(i,rd.ev x))).map fun cs=>dl.pure (.c (.g cs))else none
    |_,_=>none
   |_,_=>none
 | .buildSlice ty len parts=>match P.underlying ty with
   |some (.slice el)=>match eC P el,gO P el with
    |some (agg,ks),some n=>if n=ks.length/\parts.size=len/\len*n<=16777216/\bF agg ks then
      match tH P rd.row agg ks 0 (parts.toList.map fun(i,x)=>(i,rd.ev x))with
      |some (c,fr)=>some ⟨[],none,.at (.vec rd.nr),[],fr++[(rd.nr,some ⟨el,ks,agg,c,true,none⟩)],[],[rd.nr]⟩|none=>none
     else none
    |none,some 1=>if parts.size=len/\len<=1024/\0<len/\(lH P el).isSome=true then match EE (fun i=>some (i*1,1)) (replicate len .top) (parts.toList.map fun(i,x)=>(i,rd.ev x))with
      |some cs=>if cs.all At.auf then some ⟨[],none,.at (.bs rd.nb 0 len),[(rd.nb,some ⟨cs,el,0⟩)],[],[rd.nb],[]⟩else none
      |none=>none
     else none
    |_,_=>none
   |_=>none
 | .slice ty x lo hi mx=>match mx with
   |some m=>match P.underlying ty,bq rd.row (rd.ev x)with
    |some (.slice el),some (src,b,n)=>if E8 rd lo&&E8 rd hi&&E8 rd (some m)&&hi.isSome&&(gO P el).isSome then some (dl.pure (.at .wz))else
     match src,lo,HF rd hi n,(rd.ev m).int?,gO P el with
     |some (r,w),none,some h,some (_,q),some k=>if hi.isSome&&h.same q&&Nat.beq k w.ks.length then some {dl.pure (.at (.clip r k b h))with eZ:=[di .le (.i 0) h,di .le h n]}else none
     |_,_,_,_,_=>none
    |_,_=>none
   |none=>match P.underlying ty with
    |some .string=>match rd.ev x with
     | .c (.a (.str s))=>match TP rd lo,HF rd hi (jW .iN s)with
       |some l,some h=>some {dl.pure (.at (.str (xO .anW s l h)))with eZ:=[di .le (.i 0) l,di .le l h,di .le h (jW .iN s)]}|_,_=>none
     |_=>none
    |some (.slice el)=>match bq rd.row (rd.ev x)with
     |some (none,_,_)=>if E8 rd lo&&E8 rd hi&&(gO P el).isSome then some (dl.pure (.at .wz))else none
     |some (some (r,w),b,n)=>match TP rd lo,HF rd hi n,gO P el with
      |some l,some h,some k=>if k=w.ks.length then
        if lo.isNone&&hi.isSome&&E8 rd hi&&w.own&&aeR (rd.ev x)then some ⟨[],none,.at (.vec rd.nr),[],[(r,none),(rd.nr,some {w with cont:= .nil})],[],[rd.nr]⟩else
         some {dl.pure (.at (.sl r k (amV (rd.ev x) b l) (di (.sub .i64) h l)))with eZ:=[di .le (.i 0) l,di .le l h,di .le h n]}else none
      |_,_,_=>none
     |_=>none
    |_=>none
 | .makeFunc (.func f) first mE=>match first.toList,(mE.toList.map rd.ev).mapM (fun| .c (.a (.ptr b 0))=>some b|_=>none)with
   |[],some bs=>some (dl.pure (.at (.fn f bs)))|[x],some []=>match rd.ev x with
    | .c (.a (.ptr b 0))=>some (dl.pure (.at (.fb f false b)))| .c (.a (.mp b))=>some (dl.pure (.at (.fb f true b)))|_=>none
   |_,_=>none
 | .makeSlice ty x y=>match P.underlying ty,rd.ev x,rd.ev y with
   |some (.slice el),.c (.a (.int _ e)),.c (.a (.int _ f))=>match P.info? el,(lH P el).bind Jf with
    |some i,some (k,z)=>if i.size=1/\i.bytes<=16 then
      some ⟨[di .le (.i 0) e,di .le e f,di .le f (.i 16777216)],none,.at (.vec rd.nr),[],[(rd.nr,some ⟨el,[k],false,.o .Bp z e,true,none⟩)],[],[rd.nr]⟩else none
    |some i,none=>match eC P el,e with
     |some (agg,ks),.i 0=>if i.size=ks.length/\bF agg ks/\i.bytes<=4096 then
       some ⟨[di .le (.i 0) f,di .le f (.i 16777216)],none,.at (.vec rd.nr),[],[(rd.nr,some ⟨el,ks,agg,.nil,true,none⟩)],[],[rd.nr]⟩else none
     |_,_=>D3 P rd i el e f
    |_,_=>none
   |_,_,_=>none
 | .makeInterface ty x=>match i9 P ty,rd.ev x with
   |some true,.c (.g cs)=>some (dl.pure (.JU ty cs))|_,_=>none
 | .typeAssert x _ as true=>match i9 P as,(lH P as).isSome,rd.ev x with
   |some true,true,.JU t cs=>if t=as then some (dl.pure (.t [.g cs,.a (.bool (.b true))]))else some (dl.pure (.t [.a .top,.a (.bool (.b false))]))
   |_,_,_=>none
 |_=>none
structure Wd where
 g:Nat
 ty:TypeId
 el:TypeId
 e:Ex
def QG(ks:jj):Bool:=ks.all fun k=>match k with| .sl _=>false|_=>true
def XO(gl:List Wd)(g:Nat)(ty:TypeId):Option Wd:=gl.find? fun x=>Nat.beq x.g g&&Nat.beq x.ty ty
def PJ(gl:List Wd)(g:Nat)(ty:TypeId)(rd:Rd):Option dl:=
 match XO gl g ty,i9 P ty with
 |some x,some false=>match eC P x.el with
  |some (agg,ks)=>if QG ks then some ⟨[],none,.at (.vec rd.nr),[],[(rd.nr,some ⟨x.el,ks,agg,x.e,false,none⟩)],[],[rd.nr]⟩else none
  |none=>none
 |_,_=>none
def PL(gl:List Wd)(pl:ip)(cons:ug)(o:Oper)(rd:Rd):Option dl:=
 match o.op with
 | .call c=>wP P cons rd c| .load ty (.global g)=>PJ P gl g ty rd|_=>match je P pl o rd with
  |some r=>match r.call with|none=>some r|some _=>none
  |none=>none
end
def bU{α:Type}(d:α):List α->Nat->α->List α
 |_::xs,0,v=>v::xs|[],0,v=>[v]|x::xs,n+1,v=>x::bU d xs n v|[],n+1,v=>d::bU d [] n v
def bG(l:List (Option Bk)):List (Nat×Option Bk)->List (Option Bk)
 |[]=>l|(i,v)::r=>bG (bU none l i v) r
def ai(l:List (Option Rw)):cv->List (Option Rw)
 |[]=>l|(i,v)::r=>ai (bU none l i v) r
def St.after(σ:St)(dst:Option Tmp)(r:dl):St:=
 {σ with
  nv:=match r.call with|some (_,_,n)=>σ.nv+n|none=>σ.nv
  aC:=match dst with|some d=>σ.aC.set d r.val|none=>σ.aC
  au:=bG σ.au r.au,rows:=ai σ.rows r.rows}
def St.under(σ:St):Bool:=
 σ.aC.all (·.under σ.nv)&&σ.au.all (fun|some k=>k.cells.all (·.under σ.nv)|none=>true)&&σ.rows.all (fun|some w=>w.cont.under σ.nv&&w.Ed σ.nv|none=>true)
def St.rd(σ:St)(ops:dB)(o:Oper):Rd:=CV σ.slot σ.blk σ.row (pU ops o) (tK σ.slot ops o) (xp ops o) σ.nv σ.au.length σ.rows.length
def rH(ops:dB)(σ:St)(o:Oper):Option Bool:=
 match o.guard with
 |none=>some true|some (g,want)=>match(ops[g]?).bind (·.dst)with
  |some t=>match σ.slot t with
   | .c (.a (.bool (.b x)))=>some (x==want)| .t []=>some false|_=>none
  |none=>none
def AC:dl:=dl.pure (.t [])
def vM{L:Type}:bZ->T L->T L
 |[],k=>k| .b true::cs,k=>vM cs k| .b false::_,_=> .aa (.b false) (.fail "")|c::cs,k=> .aa c (vM cs k)
def aaF{L:Type}(r:dl)(k:T L):T L:=
 vM r.eZ (match r.call with|some (f,es,n)=> .call f es n k|none=>k)
def Ga(ops:dB)(n:Nat):Bool:=ops.any fun o=>match o.guard with|some (g,_)=>Nat.beq g n|none=>false
def Bw{L:Type}(g:Bool)(r:dl)(k:dl->T L):T L:=
 match g,r.val with
 |true,.c (.a (.bool (.b x)))=>k {r with val:= .at (.bool (.b x))}|true,.c (.a (.bool e))=> .ite e (k {r with val:= .at (.bool (.b true))}) (k {r with val:= .at (.bool (.b false))})|_,_=>k r
structure mw where
 key:Nat
 vars:List (Nat×Nat)
 C9:bH
 cells:List (Nat×Nat×Nat)
 rows:bH
 grp:List (Nat×CS)
 SQ:List (Nat×Nat×CK)
 JZ:bH
 cls:bH
 un:Nat
structure Cx where
 P:Program
 cons:ug
 hs:List mw
 pl:ip
 ins:List FuncId
 mg:List FuncId
 pr:List FuncId
 gl:List Wd
def pO:Code->Nat
 | .region id _ _=>id| .seq x y=>match pO x with|0=>pO y|n=>n
 | .cond _ x y=>match pO x with|0=>pO y|n=>n
 | .block _ x=>pO x| .loop x=>pO x| .scope x=>pO x|_=>0
def adl(P:Program)(rows:List (Option Rw))(nv nr:Nat)(el:Nat):At->Option (At×bZ×cv)
 | .int k e=>some (.int k (.v nv),[e],[])| .bool e=>some (.bool (.v nv),[e],[])| .str e=>some (.str (.v nv),[e],[])| .vec r=>match rows.getD r none with
   |some w=>if w.own&&w.plain then some (.vec nr,[w.cont],[(r,none),(nr,some {w with cont:= .v nv})])else if bF w.agg w.ks&&w.plain then some (.sl r w.ks.length (.v nv) (.v (nv+1)),[.i 0,jW .len w.cont],[])else none
   |none=>none
 | .sl r es lo len=>some (.sl r es (.v nv) (.v (nv+1)),[lo,len],[])| .wz=>match eC P el with
   |some (agg,ks)=>some (.vec nr,[.nil],[(nr,some ⟨el,ks,agg,.v nv,true,none⟩)])|none=>none
 | .keys n e=>some (.keys n (.v nv),[e],[])|_=>none
def zx(rows rows':List (Option Rw))(nr m:Nat)(tm:At):At->Option (bZ×List (Nat×Nat))
 | .int k e=>match tm with| .int k' (.v j)=>if k=k'/\j=m then some ([e],[])else none|_=>none
 | .bool e=>match tm with| .bool (.v j)=>if j=m then some ([e],[])else none|_=>none
 | .str e=>match tm with| .str (.v j)=>if j=m then some ([e],[])else none|_=>none
 | .vec r=>match rows'.getD r none with
   |some w=>match tm with
    | .vec q=>match rows.getD q none with
      |some w0=>if w.own=true/\w0.own=true/\w.el=w0.el/\w.ks=w0.ks/\w.agg=w0.agg/\w0.cont.same (.v m)=true/\w.plain=true/\w0.plain=true/\nr<=q then some ([w.cont],[(q,r)])else none
      |none=>none
    | .sl q es (.v j) (.v j')=>if q=r/\es=w.ks.length/\(bF w.agg w.ks&&w.plain)=true/\j=m/\j'=m+1/\q<nr then some ([.i 0,jW .len w.cont],[])else none
    |_=>none
   |none=>none
 | .sl r es lo len=>match tm with| .sl q xQ (.v j) (.v j')=>if q=r/\es=xQ/\j=m/\j'=m+1/\q<nr then some ([lo,len],[])else none|_=>none
 | .keys n e=>match tm with| .keys n' (.v j)=>if n=n'/\j=m then some ([e],[])else none|_=>none
 |_=>none
def St.setCell(σ:St)(p off:Nat)(x:At):St:=
 match σ.blk p with
 |some k=>{σ with au:=σ.au.set p (some {k with cells:=k.cells.set off x})}|none=>σ
def St.cellAt(σ:St)(p off:Nat):Option At:=(σ.blk p).bind (·.cells[off]?)
def I6(P:Program):List (Nat×Nat)->St->Option (St×bZ)
 |[],σ=>some (σ,[])|(t,el)::r,σ=>match(σ.slot t).at? with
  |some x=>match adl P σ.rows σ.nv σ.rows.length el x with
   |some (x',es,rs)=>match I6 P r {σ with nv:=σ.nv+es.length,aC:=σ.aC.set t (.at x'),rows:=ai σ.rows rs}with
    |some (σ',xQ)=>some (σ',es++xQ)|none=>none
   |none=>none
  |none=>none
def C5(P:Program):List (Nat×Nat×Nat)->St->Option (St×bZ)
 |[],σ=>some (σ,[])|(p,off,el)::r,σ=>match σ.cellAt p off with
  |some x=>match adl P σ.rows σ.nv σ.rows.length el x with
   |some (x',es,rs)=>match C5 P r ({σ with nv:=σ.nv+es.length,rows:=ai σ.rows rs}.setCell p off x')with
    |some (σ',xQ)=>some (σ',es++xQ)|none=>none
   |none=>none
  |none=>none
def I5:bH->St->Option (St×bZ)
 |[],σ=>some (σ,[])|r::rs,σ=>match σ.row r with
  |some w=>if w.own&&w.plain then match I5 rs {σ with nv:=σ.nv+1,rows:=σ.rows.set r (some {w with cont:= .v σ.nv})}with
    |some (σ',xQ)=>some (σ',w.cont::xQ)|none=>none
   else none
  |none=>none
def BD:bH->St->St
 |[],σ=>σ|t::r,σ=>BD r {σ with aC:=σ.aC.set t .top}
def Ec(P:Program)(h:mw)(σ:St):Option (St×bZ):=
 match I6 P h.vars (BD h.C9 σ)with
 |some (σ1,e1)=>match C5 P h.cells σ1 with
  |some (σ2,e2)=>match I5 h.rows σ2 with
   |some (σ3,e3)=>some ({σ3 with lv:=σ.lv+1},e1++e2++e3)|none=>none
  |none=>none
 |none=>none
def Cg(P:Program)(σ:St):List (Nat×Nat×CK)->Option (bZ×cv)
 |[]=>some ([],[])|(p,off,k)::r=>match σ.blk p with
  |some b=>if Nat.beq b.kd 0 then match b.cells[off]? with
    |some x=>match rZ P σ.row k x,Cg P σ r with
     |some (e,f),some (es,fs)=>some (e::es,f++fs)|_,_=>none
    |none=>none
   else none
  |none=>none
def tI:List (Nat×Nat×CK)->St->St
 |[],σ=>σ|(p,off,_)::r,σ=>tI r (σ.setCell p off .top)
def mF(h:mw)(fr:cv)(σ:St):St:=tI h.SQ {σ with rows:=ai σ.rows fr}
def Hy(P:Program)(h:mw)(σ:St):Option (bZ×cv):=cond h.grp.isEmpty (Cg P σ h.SQ) none
def eV(P:Program):List (Nat×Nat×CK)->St->St
 |[],σ=>σ|(p,off,k)::r,σ=>match σ.blk p with
  |some b=>if Nat.beq b.kd 0 then match sF P σ.rows.length (.v σ.nv) k with
    |(x,rs,_)=>eV P r ({σ with nv:=σ.nv+1,rows:=ai σ.rows rs}.setCell p off x)
   else eV P r {σ with nv:=σ.nv+1}
  |none=>eV P r {σ with nv:=σ.nv+1}
def jl(P:Program)(h:mw)(σ:St):St:=eV P h.SQ σ
def F3(σ:St)(l:bH):cv:=l.filterMap fun r=>(σ.row r).bind fun w=>if w.plain then some (r,some {w with own:=false})else none
def EK(σ:St)(l:bH):St:={σ with rows:=ai σ.rows (F3 σ l)}
def template(P:Program)(h:mw)(σ:St):Option (St×bZ):=
 match Hy P h (EK σ h.JZ)with
 |some (eg,fr)=>match Ec P h (mF h fr (EK σ h.JZ))with
  |some (tm,es)=>some (tm,es++eg)|none=>none
 |none=>none
def GV(tm σ:St)(nr:Nat):Nat->List (Nat×Nat)->Option (bZ×List (Nat×Nat))
 |_,[]=>some ([],[])|m,(t,_)::r=>match(tm.slot t).at?,(σ.slot t).at? with
  |some x,some y=>match zx tm.rows σ.rows nr m x y with
   |some (e,q)=>match GV tm σ nr (m+e.length) r with
    |some (es,qs)=>some (e++es,q++qs)|none=>none
   |none=>none
  |_,_=>none
def B0(tm σ:St)(nr:Nat):Nat->List (Nat×Nat×Nat)->Option (bZ×List (Nat×Nat))
 |_,[]=>some ([],[])|m,(p,off,_)::r=>match tm.cellAt p off,σ.cellAt p off with
  |some x,some y=>match zx tm.rows σ.rows nr m x y with
   |some (e,q)=>match B0 tm σ nr (m+e.length) r with
    |some (es,qs)=>some (e++es,q++qs)|none=>none
   |none=>none
  |_,_=>none
def LO(tm σ:St):Nat->bH->Option bZ
 |_,[]=>some []|m,r::rr=>match tm.row r,σ.row r with
  |some w0,some w=>if w.own=true/\w0.own=true/\w.el=w0.el/\w.ks=w0.ks/\w.agg=w0.agg/\w0.cont.same (.v m)=true/\w.plain=true/\w0.plain=true then match LO tm σ (m+1) rr with
    |some es=>some (w.cont::es)|none=>none
   else none
  |_,_=>none
def YQ(cells:List (Nat×Nat×Nat))(p n:Nat):Bool:=cells.any fun x=>Nat.beq x.1 p&&Nat.beq x.2.1 n
def At.inB(nb nr:Nat)(x:At):Bool:=(match x.rid with|some r=>blt r nr|none=>true)&&x.vY.all (blt · nb)
def Mw(nv nb nr:Nat)(x y:At):Bool:=x.le y&&x.under nv&&x.inB nb nr
def Mx(nv nb nr:Nat)(x y:SV):Bool:=x.le y&&x.under nv&&x.atoms.all (·.inB nb nr)
def oH(cells:List (Nat×Nat×Nat))(nv nb nr p:Nat):Nat->eO->eO->Bool
 |_,[],[]=>true|n,x::xs,y::ys=>(YQ cells p n||Mw nv nb nr x y)&&oH cells nv nb nr p (n+1) xs ys|_,_,_=>false
def rR(h:mw)(nv nb nr:Nat):Nat->List SV->List SV->Bool
 |_,[],[]=>true|t,x::xs,y::ys=>((h.vars.any fun v=>Nat.beq v.1 t)||Mx nv nb nr x y)&&rR h nv nb nr (t+1) xs ys|_,_,_=>false
def yC(h:mw)(nv nb nr:Nat)(σ:St):Nat->List (Option Bk)->Bool
 |_,[]=>true|p,none::xs=>yC h nv nb nr σ (p+1) xs|p,some k::xs=>(match σ.blk p with|some k'=>Nat.beq k.ty k'.ty&&Nat.beq k.kd k'.kd&&oH h.cells nv nb nr p 0 k.cells k'.cells|none=>false)&&yC h nv nb nr σ (p+1) xs
def yE(h:mw)(nv nr:Nat)(σ:St)(news:List (Nat×Nat)):Nat->List (Option Rw)->Bool
 |_,[]=>true|r,none::xs=>yE h nv nr σ news (r+1) xs|r,some w::xs=>(if r<nr then iC h.rows r||(match σ.row r with|some w'=>w.same w'&&w.cont.under nv&&w.Ed nv&&(match w.hole with|some (_,_,q)=>blt q nr|none=>true)|none=>false)else news.any fun x=>Nat.beq x.1 r)&&yE h nv nr σ news (r+1) xs
def Gh(nr:Nat):Nat->List (Option Rw)->bH
 |_,[]=>[]|r,w::xs=>(match w with|some w=>if w.own=true/\r<nr then[r]else[]|none=>[])++Gh nr (r+1) xs
def keeps(h:mw)(nv nr:Nat)(tm σ:St)(news:List (Nat×Nat)):Bool:=
 rR h nv tm.au.length nr 0 tm.aC σ.aC&&yC h nv tm.au.length nr σ 0 tm.au&&yE h nv nr σ news 0 tm.rows&&
 EA (news.map (·.1))&&EA (news.map (·.2)++Gh nr 0 tm.rows)
def WP(h:mw)(nv nr:Nat)(tm σ:St):Option bZ:=
 match GV tm σ nr nv h.vars with
 |some (e1,r1)=>match B0 tm σ nr (nv+e1.length) h.cells with
  |some (e2,r2)=>match LO tm σ (nv+(e1.length+e2.length)) h.rows with
   |some e3=>if keeps h nv nr tm σ (r1++r2)&&Nat.beq (nv+(e1++e2++e3).length) tm.nv&&ble nr tm.rows.length then some (e1++e2++e3)else none
   |none=>none
  |none=>none
 |none=>none
def G3(P:Program)(σ:St)(r:Nat):Option St:=
 match σ.row r with
 |some w=>match w.hole with
  |some (ix,off,q)=>if w.own&&bF w.agg w.ks then match uo P σ.row w.agg w.ks (w.elem ix) off [.vec q]with
    |some (e,fr)=>if fr.all (fun x=> !Nat.beq x.1 r)then some {σ with rows:=ai σ.rows (fr++[(r,some {w with cont:=xO .mu w.cont ix e,hole:=none})])}else none
    |none=>none
   else none
  |none=>some σ
 |none=>none
def uW(P:Program):bH->St->Option St
 |[],σ=>some σ|r::rs,σ=>match G3 P σ r with|some σ'=>uW P rs σ'|none=>none
def back(P:Program)(h:mw)(nv nr:Nat)(tm σ0:St):Option bZ:=
 match uW P h.cls σ0 with
 |none=>none|some σ=>
 match cond (h.SQ.all fun x=>blt x.1 tm.au.length) (Hy P h σ) none with
 |some (eg,fr)=>match WP h nv nr tm (mF h fr σ)with
  |some es=>some (es++eg)|none=>none
 |none=>none
def Nf{L:Type}(f:St->T (L×St))(go:L->Bool):Nat->St->T (L×St)
 |0,_=> .fail "unroll"|n+1,σ=>(f σ).bind fun x=>cond (go x.1) (Nf f go n x.2) (.ah x)
section
variable(P:Program)
def gf(nv nr nb:Nat):CS->SC×cv×Nat×Nat×bH
 | .p _ _=>(.a (.ptr nb 0),[],nv,nr,[nb])| .f g ls=>(.a (.fn g (range' nb ls.length)),[],nv,nr,range' nb ls.length)|s=>let(x,rs,AA,tl):=lG P nv nr s;(x,rs,AA,tl,[])
def kY(nv nr nb:Nat):sX->List SC×cv×Nat×Nat×bH
 |[]=>([],[],nv,nr,[])|s::ss=>
  let(x,r,AA,tl,b):=gf P nv nr nb s;let(xs,rs,nv2,xo,bs):=kY AA tl (nb+b.length) ss
  (x::xs,r++rs,nv2,xo,b++bs)
def At.fixed:At->Bool| .int _ _| .bool _| .str _| .vec _=>true|_=>false
def Pk(row:iu)(b:Nat):PS->At->At->Option fj
 | .rd _,x,y=>if x.fixed&&x.same y then some ⟨[],[],[],[]⟩else none
 | .fq,x,y=>if x.fixed&&x.same y then some ⟨[],[],[],[]⟩else none
 |s,_,y=>Bo P row b s y
def dp(row:iu)(b:Nat):m7->eO->eO->Option fj
 |[],[],[]=>some ⟨[],[],[],[]⟩|s::ss,x::xs,y::ys=>match Pk P row b s x y,dp row b ss xs ys with
  |some z,some zs=>some (z.app zs)|_,_=>none
 |_,_,_=>none
def jt(row:iu)(blk:Nat->Option Bk):List (TypeId×m7)->List (Nat×Option Bk)->Option fj
 |[],[]=>some ⟨[],[],[],[]⟩|(ty,ss)::ls,(b,k0)::bs=>match k0,blk b with
  |some k0,some k=>if Nat.beq k.ty ty&&Nat.beq k.kd 0 then match dp P row b ss k0.cells k.cells,jt row blk ls bs with
    |some y,some ys=>some (y.app ys)|_,_=>none
   else none
  |_,_=>none
 |_,_=>none
end
section
variable(X:Cx)
abbrev HU:=Nat->List SV->St->T (SV×St)
def YO(rd:Rd)(o:Oper):Option (Nat×List SV):=
 match o.op with
 | .call c=>match c.callee with
   | .value f=>match rd.ev f with
     | .c (.a (.fn g mE))=>
       if mE.isEmpty&&X.cons.any (fun x=>Nat.beq x.f g)then none
       else if ! iC X.ins g then none else some (g,c.args.toList.map rd.ev++mE.map fun b=> .at (.ptr b 0))
     | .c (.a (.fb g m b))=>
       if X.cons.any (fun x=>Nat.beq x.f g)then none
       else if ! iC X.ins g then none else some (g,.at (Iw m b)::c.args.toList.map rd.ev)
     |_=>none
   | .invoke r name=>match rd.ev r with
     | .JU t cs=>match EW X.P t name with
       |some g=>if ! iC X.ins g then none else some (g,.c (.g cs)::c.args.toList.map rd.ev)
       |none=>none
     |_=>none
   |_=>none
 |_=>none
def Hx(rd:Rd)(r:dl):Bool:=
 (r.nb.all fun i=>Nat.beq i rd.nb&&r.au.any fun x=>Nat.beq x.1 i)&&(r.nr.all fun i=>ble rd.nr i&&r.rows.any fun x=>Nat.beq x.1 i)
def LR(σ:St)(r:dl):Bool:=
 match r.call with
 |some (_,es,_)=>σ.under&&es.all (·.under σ.nv)|none=>true
def xy(ops:dB)(σ:St)(o:Oper):Option dl:=
 match PL X.P X.gl X.pl X.cons o (σ.rd ops o)with
 |some r=>if Hx (σ.rd ops o) r&&LR σ r then some r else none
 |none=>none
def sM(inl:HU)(ops:dB):dB->Nat->St->T St
 |[],_,σ=> .ah σ|o::rest,n,σ=>
  match rH ops σ o with
  |none=> .fail "guard"|some false=>sM inl ops rest (n+1) (σ.after o.dst AC)|some true=>
   let rd:=σ.rd ops o
   match YO X rd o with
   |some (g,as)=>if σ.under then(inl g as σ).bind fun(v,σ')=>Bw (Ga ops n) (dl.pure v) fun r=>sM inl ops rest (n+1) ({σ' with aC:=σ.aC}.after o.dst r)else .fail "under"
   |none=>match xy X ops σ o with
    |none=> .fail "op"|some r=>aaF r (Bw (Ga ops n) r fun r=>sM inl ops rest (n+1) (σ.after o.dst r))
def NS(l:bH)(m k:Nat):Nat:=l.foldl (fun acc t=>lor acc (shiftLeft 1 (m*t+k))) 0
structure Item where
 dst:Option Tmp
 r:dl
 rd:Nat
 wr:Nat
 pre:Nat
def CN(items:List Item)(o:Oper):Nat:=
 o.after.toList.foldl (fun acc e=>if Region.binds .any e then lor acc (lor (shiftLeft 1 e.on) (match items[e.on]? with|some x=>x.pre|none=>0))else acc) 0
def wG(σ:St)(ts ds ls:Qa):Nat:=
 lor (NS ts 3 0) (lor (NS (ds.flatMap fun t=>(σ.slot t).vY) 3 1) (NS (ke σ.slot σ.blk ds ls) 3 2))
def wU(dst:Option Tmp)(r:dl):Nat:=
 lor (NS dst.toList 3 0) (lor (NS (r.au.map (·.1)) 3 1) (NS (r.rows.map (·.1)) 3 2))
def EI(items:List Item)(x:Item):Bool:=
 items.zipIdx.all fun(y,j)=>(y.r.nb.all fun p=> ! iC x.r.nb p)&&(y.r.nr.all fun p=> ! iC x.r.nr p)&&(testBit x.pre j||(Nat.beq (land y.wr (lor x.rd x.wr)) 0&&Nat.beq (land y.rd x.wr) 0))
def Dt(n:Nat)(o:Oper):Bool:=o.after.toList.all fun e=> !Region.binds .any e||blt e.on n
def TY(σ:St)(o:Oper)(r:dl):Bool:=r.eZ.all (·.under σ.nv)&&r.val.under (σ.after o.dst r).nv
def tO(ops:dB):dB->Nat->St->List Item->T (St×List Item)
 |[],_,σ,items=> .ah (σ,items)|o::rest,n,σ,items=>
  if ! Dt n o then .fail "edges" else
  let go (r:dl):T (St×List Item):=
   let it:Item:=⟨o.dst,r,wG σ (pU ops o) (tK σ.slot ops o) (xp ops o),wU o.dst r,CN items o⟩
   if EI items it then tO ops rest (n+1) (σ.after o.dst r) (items++[it])else .fail "order"
  match rH ops σ o with
  |none=> .fail "guard"|some false=>go AC|some true=>
   match xy X ops σ o with
   |none=> .fail "op"|some r=>if TY σ o r then aaF r (Bw (Ga ops n) r go)else .fail "under"
def amY(o:Oper):Bool:=match o.op with| .call c=>(match c.callee with| .value (.tmp _)=>true| .value (.func g)=>iC X.ins g| .invoke _ _=>true|_=>false)|_=>false
def Kz:dB->Nat
 |[]=>0|o::r=>cond (amY X o) 0 (Kz r+1)
def vj(m n:Nat):Array Bool:=(replicate m true++replicate (n-m) false).toArray
def Uo(ops:dB)(m:Nat):Bool:=
 blt m ops.length&&Region.sinkB .any ops.toArray m&&Region.chainB .any ops.toArray m&&Region.seqB .any ops.toArray (ops.length-m) m (vj m ops.length)
def MH(e:Ex)(x y:SV):SV:=
 cond (x.le y) x (cond (y.le x) y (match x,y with
  | .c (.a (.bool p)),.c (.a (.bool q))=> .at (.bool (.t .ite e p q))| .c (.a (.int k p)),.c (.a (.int k' q))=>if k=k' then .at (.int k (.t .ite e p q))else .top
  |_,_=> .top))
def MG(e:Ex):List SV->List SV->Option (List SV)
 |[],[]=>some []|x::xs,y::ys=>match MG e xs ys with|some r=>some (MH e x y::r)|none=>none
 |_,_=>none
def Gq:eO->eO->Bool
 |[],[]=>true|x::xs,y::ys=>x.same y&&Gq xs ys|_,_=>false
def sK:List (Option Bk)->List (Option Bk)->Bool
 |[],[]=>true|none::xs,none::ys=>sK xs ys|some a::xs,some b::ys=>Nat.beq a.ty b.ty&&Nat.beq a.kd b.kd&&Gq a.cells b.cells&&sK xs ys|_,_=>false
def sL:List (Option Rw)->List (Option Rw)->Bool
 |[],[]=>true|none::xs,none::ys=>sL xs ys|some a::xs,some b::ys=>a.same b&&sL xs ys|_,_=>false
def MI(e:Ex)(a b:St):Option St:=
 if Nat.beq a.nv b.nv&&Nat.beq a.lv b.lv&&sK a.au b.au&&sL a.rows b.rows then
  match MG e a.aC b.aC with|some s=>some {a with aC:=s}|none=>none
 else none
def T.mrg:T St->Option St
 | .ah σ=>some σ| .ite c p q=>match p.mrg,q.mrg with|some a,some b=>MI c a b|_,_=>none
 |_=>none
def Zl(t:T St):T St:=match t.mrg with|some σ=> .ah σ|none=>t
def YS(o:Oper):Bool:=match o.op with| .pick _ _ _=>true|_=>false
def ahu(o:Oper):Bool:=match o.op with| .move _=>true|_=>false
def Qv(ops:dB):dB->Bool->Nat->Nat->bH
 |[],_,_,k=>[k]|o::r,p,n,k=>cond (p&&ahu o&&Ga ops n) ((k+1)::Qv ops r (YS o) (n+1) 0) (Qv ops r (YS o) (n+1) (k+1))
def Gm{L:Type}(ops:dB)(n:Nat)(σ:St)(k:St->T L):T L:=
 match(ops[n]?).bind (·.dst)with
 |some t=>match σ.slot t with
  | .c (.a (.bool (.b _)))=>k σ| .c (.a (.bool e))=> .ite e (k {σ with aC:=σ.aC.set t (.at (.bool (.b true)))}) (k {σ with aC:=σ.aC.set t (.at (.bool (.b false)))})|_=>k σ
 |none=>k σ
def Z7(inl:HU)(ops:dB):bH->dB->Nat->St->T St
 |[],rest,n,σ=>sM X inl ops rest n σ|m::ms,rest,n,σ=>(Zl (sM X inl ops (rest.take m) n σ)).bind fun σ'=>Gm ops (n+m-1) σ' (Z7 inl ops ms (rest.drop m) (n+m))
inductive Xt where|norm|exit (id:Nat)|ret
 deriving DecidableEq
def Xt.ahv:Xt->Bool| .norm=>true|_=>false
def acy(fk:Nat)(x:Code)(σ:St):Nat:=(σ.rows.length*1000+σ.au.length)*1000000000+(fk*100000+pO x)
def writes:Code->bH
 | .region _ ops _=>ops.toList.filterMap (·.dst)| .seq x y=>writes x++writes y| .cond _ x y=>writes x++writes y| .block _ x=>writes x| .loop x=>writes x| .scope x=>writes x|_=>[]
def mw.fill(x:Code)(h:mw):mw:={h with C9:=(writes x).filter fun t=> !(h.vars.any (fun v=>Nat.beq v.1 t)||h.grp.any fun v=>Nat.beq v.1 t)}
def exec(inl:HU)(fk:Nat):Code->St->T (Xt×St)
 | .skip,σ=> .ah (.norm,σ)| .region _ ops draw,σ=>
   cond draw (cond (Uo ops.toList (Kz X ops.toList))
    (if σ.under then(tO X ops.toList (ops.toList.take (Kz X ops.toList)) 0 σ []).bind fun x=>(sM X inl ops.toList (ops.toList.drop (Kz X ops.toList)) (Kz X ops.toList) x.1).bind fun σ'=> .ah (.norm,σ')else .fail "under")
    (if σ.under then(tO X ops.toList ops.toList 0 σ []).bind fun(σ',_)=> .ah (.norm,σ')else .fail "under")) ((cond (iC X.mg fk) (Z7 X inl ops.toList (Qv ops.toList ops.toList false 0 0) ops.toList 0 σ) (sM X inl ops.toList ops.toList 0 σ)).bind fun σ'=> .ah (.norm,σ'))
 | .seq x y,σ=>(exec inl fk x σ).bind fun(e,σ')=>match e with
   | .norm=>exec inl fk y σ'|e=> .ah (e,σ')
 | .cond c x y,σ=>match evS σ.slot c with
   | .c (.a (.bool (.b true)))=>exec inl fk x σ| .c (.a (.bool (.b false)))=>exec inl fk y σ| .c (.a (.bool e))=> .ite e (exec inl fk x σ) (exec inl fk y σ)|_=> .fail "cond"
 | .block id x,σ=>(exec inl fk x σ).bind fun(e,σ')=>match e with
   | .exit n=> .ah (cond (Nat.beq n id) .norm (.exit n),σ')|e=> .ah (e,σ')
 | .exit id,σ=> .ah (.exit id,σ)| .ret,σ=> .ah (.ret,σ)| .loop x,σ=>match(X.hs.find? fun h=>Nat.beq h.key (acy fk x σ)).map (mw.fill x)with
   |none=>(exec inl fk x σ).bind fun(e,σ')=>match e with
    | .norm=> .fail "loop"|e=> .ah (e,σ')
   |some h=>cond (blt 0 h.un) (Nf (exec inl fk x) Xt.ahv h.un σ) (match template X.P h σ with
    |some (tm,jH)=>
     if σ.under&&jH.all (·.under σ.nv)&&Nat.beq (jl X.P h tm).nv (σ.nv+jH.length)then .loop jH ((exec inl fk x (jl X.P h tm)).bind fun(e,σ')=>match e with
      | .norm=>match back X.P h σ.nv σ.rows.length tm σ' with
        |some jw=> .next σ.lv jw|none=> .fail "back"
      |e=> .ah (e,σ'))
     else .fail "under"
    |none=> .fail "template")
 | .scope x,σ=>exec inl fk x σ| .label _,σ=> .ah (.norm,σ)|_,_=> .fail "code"
def ZN(P:Program)(σ:St):ResultVar->Option SC
 | .tmp t=>(σ.slot t).sc| .cell t ty=>match σ.slot t with
   | .c (.a (.ptr p off))=>match σ.blk p with
     |some k=>if k.kd=0 then(yO P ty k.cells off).bind SV.sc else none
     |none=>none
   |_=>none
def Iz(P:Program)(σ:St):List ResultVar->Option (List SC)
 |[]=>some []|r::rs=>match ZN P σ r,Iz P σ rs with
  |some x,some xs=>some (x::xs)|_,_=>none
def ZO(P:Program)(σ:St)(l:List ResultVar):Option SV:=
 match Iz P σ l with
 |some [x]=>some (.c x)|some xs=>some (.t xs)|none=>none
def YK(σ:St):List ResultVar->Option SV
 |[.tmp t]=>match σ.slot t with| .JU ty cs=>some (.JU ty cs)|_=>none
 |_=>none
def T6(P:Program)(σ:St)(l:List ResultVar):Option SV:=
 match YK σ l with
 |some v=>some v|none=>ZO P σ l
def Z1:Nat->HU
 |0,_,_,_=> .fail "depth"|d+1,f,as,σ=>match X.P.funcs[f]? with
   |some fn=>match fn.body with
    |some c=>(exec X (Z1 d) f c {σ with aC:=as++replicate (fn.ntmps-as.length) (.t [])}).bind fun(e,σ')=>match e with
     | .exit _=> .fail "exit"|_=>match T6 X.P σ' fn.results.toList with
      |some v=> .ah (v,σ')|none=> .fail "results"
    |none=> .fail "no body"
   |none=> .fail "no function"
def nc(c0:eO)(js:bH):eO:=js.map fun j=>(c0[j]?).getD .top
def Zy(σ:St)(c0:eO):RS->SV->Option (bZ×cv)
 | .c s,v=>Qg X.P σ.row s v| .t ss,.t xs=>tC X.P σ.row ss (xs.map .c)| .o _,_=>some ([],[])| .ot _ ss,.t (_::xs)=>tC X.P σ.row ss (xs.map .c)| .al ss js,.c (.g ys)=>if acI ss&& !c0.isEmpty then(dp X.P σ.row 0 ss (nc c0 js) ys).map fun l=>(l.es,l.fr)else none
 |_,_=>none
def acO(σ:St)(c0:eO):RS->SV->Option (bZ×bH)
 | .o el,.c (.a x)=>(Bo X.P σ.row 0 (.own el) x).map fun l=>(l.os,l.rs)| .ot el _,.t (.a x::_)=>(Bo X.P σ.row 0 (.own el) x).map fun l=>(l.os,l.rs)| .al ss js,.c (.g ys)=>(dp X.P σ.row 0 ss (nc c0 js) ys).map fun l=>(l.os,l.rs)| .c _,_| .t _,_=>some ([],[])|_,_=>none
def Mc:List (Ex×Bool)->Ex->Option Bool
 |[],_=>none|(x,b)::r,e=>cond (x.same e) (some b) (Mc r e)
def T.xu{L:Type}(fs:List (Ex×Bool))(n:Nat):T L->T L
 | .ah x=> .ah x| .fail w=> .fail w| .ite c a b=>match Mc fs c with
   |some true=>a.xu fs n|some false=>b.xu fs n|none=>cond (c.under n) (.ite c (a.xu ((c,true)::fs) n) (b.xu ((c,false)::fs) n)) (.ite c (a.xu fs n) (b.xu fs n))
 | .aa c k=> .aa c (k.xu fs n)| .call f es m k=> .call f es m (k.xu fs (n+m))| .loop jH k=> .loop jH (k.xu fs (n+jH.length))| .next l vs=> .next l vs
def PS.kept:PS->Bool| .fq=>true|_=>false
def yG(ls:List (TypeId×m7)):Nat:=(ls.map fun x=>(x.2.filter PS.kept).length).sum
def KT(q n:Nat):eO:=(range' q n).map At.vec
def Cw(q n:Nat):cv:=(range' q n).map fun r=>(r,none)
def Sa:Nat->sX->List SC->List SC
 |q,.w _ _::ss,_::xs=> .a (.vec q)::Sa (q+1) ss xs|q,_::ss,x::xs=>x::Sa q ss xs|_,_,xs=>xs
def AK(P:Program)(row:iu):Nat->sX->Option fj
 |_,[]=>some ⟨[],[],[],[]⟩|q,.w el true::ss=>match Bo P row 0 (.own el) (.vec q),AK P row (q+1) ss with
  |some y,some ys=>some (y.app ys)|_,_=>none
 |q,.w _ false::ss=>AK P row (q+1) ss|q,_::ss=>AK P row q ss
def zN:List (Nat×Option Bk)->eO|(_,some k)::_=>k.cells|_=>[]
def Up(d:Nat)(bd:tr):T bZ:=
 let ls:=bf bd.args
 let m:=(dO ls++wsL bd.args).length
 match de X.P m (bv m ((Cv ls).map AS.ck))with
 |(ys,rs1,tl)=>match kY X.P (m+(Cv ls).length) tl 0 bd.args with
  |(xs,RC,nv,xo,bs)=>
   let au:=bV false (fun _=>none) 0 ls bs ys (KT xo (yG ls))
   (Z1 X d bd.f ((Sa (dO ls).length bd.args xs).map .c) ⟨nv,0,[],bG [] au,ai [] (bR X.P 0 0 (dO ls++wsL bd.args)++rs1++RC++Cw xo (yG ls))⟩).bind fun(v,σ)=>match Zy X σ (zN au) bd.res v,acO X σ (zN au) bd.res v,jt X.P σ.row σ.blk ls au,AK X.P σ.row (dO ls).length bd.args with
     |some (es,fr),some (eo,ro),some l,some lw=>if EA (l.rs++lw.rs++ro)&&(l.rs++lw.rs++ro).all (fun r=>(fr++l.fr).all fun x=> !Nat.beq x.1 r)then .ah (l.os++lw.os++eo++(es++l.es))else .fail "lent"
     |_,_,_,_=> .fail "out"
def tree(d:Nat)(bd:tr):T bZ:=cond (iC X.pr bd.f) ((Up X d bd).xu [] ((dO (bf bd.args)++wsL bd.args).length+(Cv (bf bd.args)).length+(bd.args.map fun| .a _=>1| .g ss=>ss.length|_=>0).sum)) (Up X d bd)
end
def Ex.aG:∀{x y:Ex},x.same y=true->x=y:=by
 intro x;induction x with
 |v p=>intro y h;cases y<;>simp_all [Ex.same]
 |i p=>intro y h;cases y<;>simp_all [Ex.same]
 |b p=>intro y h;cases y<;>simp_all [Ex.same]
 |s p=>intro y h;cases y<;>simp_all [Ex.same]
 |nil=>intro y h;cases y<;>simp_all [Ex.same]
 |u f x ih=>intro y h;cases y<;>simp_all [Ex.same];exact ih h.2
 |o f x y ihx ihy=>intro z h;cases z<;>simp_all [Ex.same];exact⟨ihx h.1.2,ihy h.2⟩
 |t f x y z ihx ihy ihz=>intro z h;cases z<;>simp_all [Ex.same];exact⟨ihx h.1.1.2,ihy h.1.2,ihz h.2⟩
def aZ{α:Type}(l r:List α)(n:Nat)(d:α)(h:n<l.length):(l++r).getD n d=l.getD n d:=by simp[cE,gA h]
def Ex.aH{n:Nat}{ρ ρ':ab}(h:∀i,i<n->ρ'.getD i (.i 0)=ρ.getD i (.i 0)):∀{x:Ex},x.under n=true->x.ev ρ'=x.ev ρ
 | .v p,hx=>h p (oo (by simpa[Ex.under,blt]using hx))| .i _,_| .b _,_| .s _,_| .nil,_=>rfl| .u f x,hx=>by simp only[Ex.ev];rw[Ex.aH h (x:=x) hx]
 | .o f x y,hx=>by simp only[Ex.under,aL]at hx;simp only[Ex.ev];rw[Ex.aH h hx.1,Ex.aH h hx.2]
 | .t f x y z,hx=>by simp only[Ex.under,aL]at hx;simp only[Ex.ev];rw[Ex.aH h hx.1.1,Ex.aH h hx.1.2,Ex.aH h hx.2]
def u5{n:Nat}{ρ ρ':ab}(h:∀i,i<n->ρ'.getD i (.i 0)=ρ.getD i (.i 0)):∀{l:bZ},l.all (·.under n)=true->l.map (Ex.ev ρ')=l.map (Ex.ev ρ)
 |[],_=>rfl|x::l,hx=>by simp only[wZ,aL]at hx;simp only[jQ];rw[Ex.aH h hx.1,u5 h hx.2]
def acJ(ρ:ab):∀(x:Ex)(n:Nat)(a:Ex),vz x n=some a->a.ev ρ=(x.ev ρ).list.getD n (.i 0):=by
 intro x;induction x with
 |o f p q _ ihq=>
  intro n a h;cases f<;>(try(simp[vz]at h;done))
  cases n with|zero=>simp[vz]at h;subst h;simp[Ex.ev,U2.ev]|succ n=>simp only[vz]at h;simp[Ex.ev,U2.ev,ihq n a h]
 |_=>intro n a h;simp[vz]at h
def eJ(ρ:ab)(f:U1)(x:Ex):(jW f x).ev ρ=f.ev (x.ev ρ):=by
 unfold jW;split<;>(try rfl);split
 ·rename_i a h;rw[acJ ρ _ _ _ h];rfl
 ·rfl
def aR(ρ:ab)(f:U2)(x y:Ex):(di f x y).ev ρ=f.ev (x.ev ρ) (y.ev ρ):=by
 unfold di;split
 ·split<;>rfl
 ·split
  ·split
   ·split<;>simp[Ex.ev,U2.ev,Sc.bool]
   ·simp[Ex.ev,U2.ev,Sc.bool]
  ·split
   ·simp[Ex.ev,U2.ev,Sc.bool]
   ·split<;>simp[Ex.ev,U2.ev,Sc.bool]
  ·rfl
 ·rfl
def qE(ρ:ab)(f:U3)(x y z:Ex):(xO f x y z).ev ρ=f.ev (x.ev ρ) (y.ev ρ) (z.ev ρ):=rfl
def oY(l:ab):dP l=l.map Sc.er:=rfl
@[simp] def apG:dP []=[]:=rfl
@[simp] def Ce(x:Sc)(l:ab):dP (x::l)=x.er::dP l:=rfl
@[simp] def axY(z:Int):(Sc.i z).er= .i z:=by simp[Sc.er]
def Dv(x:Sc):x.er.int=x.int:=by cases x<;>simp[Sc.er,Sc.int]
def zL(x:Sc):x.er.bool=x.bool:=by cases x<;>simp[Sc.er,Sc.bool]
def L9(x:Sc):x.er.str=x.str:=by cases x<;>simp[Sc.er,Sc.str]
def wg(x:Sc):x.er.list=dP x.list:=by cases x<;>simp[Sc.er,Sc.list,dP]
def Hn(l:ab):(dP l).length=l.length:=by rw[oY,Ab]
def sf(l m:ab):dP (l++m)=dP l++dP m:=by simp[oY]
def Oh(l:ab)(i:Nat):(dP l).getD i (.i 0)=(l.getD i (.i 0)).er:=by rw[oY,cE,cE,vR];cases l[i]? <;>simp
def pM(l:ab)(i:Nat):dP (l.take i)=(dP l).take i:=by simp[oY,map_take]
def pK(l:ab)(i:Nat):dP (l.drop i)=(dP l).drop i:=by simp[oY,map_drop]
def FZ(l:ab)(i:Nat)(x:Sc):dP (l.set i x)=(dP l).set i x.er:=by simp[oY,map_set]
def eU{l m:ab}(h:dP l=dP m):l.length=m.length:=by rw[<-Hn l,h,Hn]
def dh{x:Sc}{D:ab}(h:x.er= .l (dP D)):dP D=dP x.list:=by have:=congrArg Sc.list h;rw[wg]at this;exact this.symm
def gh(D:ab):(Sc.l D).er= .l (dP D):=by simp[Sc.er,dP]
def ale(ad:Option Addr)(n cap:Nat)(D:ab):(Sc.r ad n cap D).er= .l (dP D):=by simp[Sc.er,dP]
def FY{l m:ab}(h:dP l=dP m)(i:Nat):(l.getD i (.i 0)).er=(m.getD i (.i 0)).er:=by rw[<-Oh,h,Oh]
structure Ct where
 ρ:ab
 β:Nat->Option Nat
 R:Nat->Option Value
 K:dg
structure Ct.le(c c':Ct):Prop where
 ρ:c'.ρ=c.ρ
 K:c'.K=c.K
 β:∀i n,c.β i=some n->c'.β i=some n
 R:∀i v,c.R i=some v->c'.R i=some v
def Ct.le.refl(c:Ct):c.le c:=⟨rfl,rfl,fun _ _ h=>h,fun _ _ h=>h⟩
def Ct.le.trans{a b c:Ct}(h:a.le b)(k:b.le c):a.le c:=⟨k.ρ.trans h.ρ,k.K.trans h.K,fun i n x=>k.β i n (h.β i n x),fun i n x=>k.R i n (h.R i n x)⟩
def jD(x:Sc):jj->Nat->aW
 |[],_=>[]|k::ks,n=>k.val (x.list.getD n (.i 0))::jD x ks (n+1)
def bP(agg:Bool)(ks:jj)(x:Sc):aW:=
 match agg,ks with
 |true,ks=>jD x ks 0|false,[k]=>[k.val x]|false,_=>[]
def ag(agg:Bool)(ks:jj)(l:ab):aW:=l.flatMap (bP agg ks)
def gp(n:Nat)(x:Sc):Value:=if n=0 then .string x.str else if n=1 then .int .i64 x.int else if n=3 then .agg ((range 2).map fun i=>Value.int .i64 (x.list.getD i (.i 0)).int).toArray else .agg ((range n).map fun i=>Value.string (x.list.getD i (.i 0)).str).toArray
def K9(m:Bool)(n:Nat):Value:=cond m (.map (some n)) (.pointer (some ⟨n,0,none⟩))
def At.rel(c:Ct):At->Value->Prop
 | .top,_=>True| .int k e,v=>v= .int k (e.ev c.ρ).int| .bool e,v=>v= .bool (e.ev c.ρ).bool| .str e,v=>v= .string (e.ev c.ρ).str| .ptr p off,v=>∃n,c.β p=some n/\v= .pointer (some ⟨n,off,none⟩)| .J3 r es ix off,v=>∃n o len cap,c.R r=some (.slice (some ⟨n,o,none⟩) len cap)/\0<=(ix.ev c.ρ).int/\(ix.ev c.ρ).int<len/\v= .pointer (some ⟨n,o+(ix.ev c.ρ).int.toNat*es+off,none⟩)| .VB,v=>v= .pointer none| .vec r,v=>c.R r=some v/\∃ad n cap,v= .slice ad n cap| .sl r es lo len,v=>∃a n cap a' iZ,c.R r=some (.slice a n cap)/\v= .slice a' (len.ev c.ρ).int.toNat iZ/\0<=(lo.ev c.ρ).int/\0<=(len.ev c.ρ).int/\(lo.ev c.ρ).int+(len.ev c.ρ).int<=n/\(len.ev c.ρ).int<=iZ/\iZ<=maxLen/\(0<(len.ev c.ρ).int->∃b o,a=some ⟨b,o,none⟩/\a'=some ⟨b,o+(lo.ev c.ρ).int.toNat*es,none⟩)
 | .clip r es lo len,v=>∃a n cap a',c.R r=some (.slice a n cap)/\v= .slice a' (len.ev c.ρ).int.toNat (len.ev c.ρ).int.toNat/\0<=(lo.ev c.ρ).int/\0<=(len.ev c.ρ).int/\(lo.ev c.ρ).int+(len.ev c.ρ).int<=n/\(len.ev c.ρ).int<=maxLen/\(0<(len.ev c.ρ).int->∃b o,a=some ⟨b,o,none⟩/\a'=some ⟨b,o+(lo.ev c.ρ).int.toNat*es,none⟩)
 | .wz,v=>∃ad,v= .slice ad 0 0| .fn f mE,v=>∃ns:bH,mE.map c.β=ns.map some/\v= .func (.func f) #[] (ns.map fun n=>Value.pointer (some ⟨n,0,none⟩)).toArray| .keys n e,v=>v= .tuple ((e.ev c.ρ).list.map (gp n)).toArray| .Zr,v=>v= .map none| .Zq,v=>v= .nilFunc| .mp b,v=>∃n,c.β b=some n/\v= .map (some n)| .bs b lo m,v=>∃n cap,c.β b=some n/\v= .slice (some ⟨n,lo,none⟩) m cap| .fb f m b,v=>∃n,c.β b=some n/\v= .func (.func f) #[K9 m n] #[]| .sp b,v=>v= .pointer none\/∃n,c.β b=some n/\v= .pointer (some ⟨n,0,none⟩)
def cm(c:Ct):eO->aW->Prop
 |[],[]=>True|x::xs,v::vs=>x.rel c v/\cm c xs vs|_,_=>False
def SC.rel(c:Ct):SC->Value->Prop
 | .a x,v=>x.rel c v| .g cs,v=>∃vs,v= .agg vs.toArray/\cm c cs vs
def wH(c:Ct):List SC->aW->Prop
 |[],[]=>True|x::xs,v::vs=>x.rel c v/\wH c xs vs|_,_=>False
def SV.rel(c:Ct):SV->Value->Prop
 | .c x,v=>x.rel c v| .t xs,v=>∃vs,v= .tuple vs.toArray/\wH c xs vs| .nx e p ch,v=>v=if(e.ev c.ρ).bool=true then .tuple #[.bool true,.int .i64 (p.ev c.ρ).int,.int .i32 (ch.ev c.ρ).int]else .tuple #[.bool false]
 | .JU ty cs,v=>∃vs,v= .iface ty (.agg vs.toArray)/\cm c cs vs
def At.kv{c c':Ct}(h:c.le c'):∀{x:At}{v:Value},x.rel c v->x.rel c' v:=by
 intro x v hx;cases x<;>simp only[At.rel,h.ρ]at hx⊢
 case ptr p off=>obtain⟨n,e,rfl⟩:=hx;exact⟨n,h.β _ _ e,rfl⟩
 case J3 r es ix off=>obtain⟨n,o,len,cap,e,r⟩:=hx;exact⟨n,o,len,cap,h.R _ _ e,r⟩
 case vec r=>exact⟨h.R _ _ hx.1,hx.2⟩
 case sl r es lo len=>obtain⟨a,n,cap,a',iZ,e,r⟩:=hx;exact⟨a,n,cap,a',iZ,h.R _ _ e,r⟩
 case clip r es lo len=>obtain⟨a,n,cap,a',e,r⟩:=hx;exact⟨a,n,cap,a',h.R _ _ e,r⟩
 case fn f mE=>
  obtain⟨ns,e,rfl⟩:=hx;refine⟨ns,?_,rfl⟩;induction mE generalizing ns with
  |nil=>simpa using e|cons p ps ih=>
   cases ns with|nil=>simp at e|cons n ns=>simp only[jQ,uQ]at e⊢;exact⟨h.β _ _ e.1,ih ns e.2⟩
 case mp b=>obtain⟨n,e,rfl⟩:=hx;exact⟨n,h.β _ _ e,rfl⟩
 case bs b lo m=>obtain⟨n,cap,e,rfl⟩:=hx;exact⟨n,cap,h.β _ _ e,rfl⟩
 case fb f m b=>obtain⟨n,e,rfl⟩:=hx;exact⟨n,h.β _ _ e,rfl⟩
 case sp b=>exact hx.imp id fun⟨n,e,q⟩=>⟨n,h.β _ _ e,q⟩
 all_goals exact hx
def jb{c c':Ct}(h:c.le c'):∀{xs:eO}{vs:aW},cm c xs vs->cm c' xs vs
 |[],[],_=>trivial|_::_,_::_,hx=>⟨At.kv h hx.1,jb h hx.2⟩|[],_::_,hx=>hx.elim|_::_,[],hx=>hx.elim
def SC.kv{c c':Ct}(h:c.le c'):∀{x:SC}{v:Value},x.rel c v->x.rel c' v
 | .a _,_,hx=>At.kv h hx| .g _,_,⟨vs,e,r⟩=>⟨vs,e,jb h r⟩
def MY{c c':Ct}(h:c.le c'):∀{xs:List SC}{vs:aW},wH c xs vs->wH c' xs vs
 |[],[],_=>trivial|_::_,_::_,hx=>⟨SC.kv h hx.1,MY h hx.2⟩|[],_::_,hx=>hx.elim|_::_,[],hx=>hx.elim
def SV.kv{c c':Ct}(h:c.le c'):∀{x:SV}{v:Value},x.rel c v->x.rel c' v
 | .c _,_,hx=>SC.kv h hx| .t _,_,⟨vs,e,r⟩=>⟨vs,e,MY h r⟩| .nx _ _ _,_,hx=>by simp only[SV.rel,h.ρ]at hx⊢;exact hx
 | .JU _ _,_,⟨vs,e,r⟩=>⟨vs,e,jb h r⟩
def Sz{c:Ct}{r es:Nat}{lo len:Ex}{v:Value}(h:(At.clip r es lo len).rel c v):(At.sl r es lo len).rel c v:=by obtain⟨a,n,cap,a',e1,e2,e3,e4,e5,e6,e7⟩:=h;exact⟨a,n,cap,a',_,e1,e2,e3,e4,e5,by omega,by omega,e7⟩
def At.UO{c:Ct}{x:At}{v:Value}(h:x.rel c v):x.Xf.rel c v:=by cases x<;>first|exact Sz h|exact h
def At.wI{c:Ct}{n:Nat}{ρ':ab}(h:∀i,i<n->ρ'.getD i (.i 0)=c.ρ.getD i (.i 0)):∀{x:At}{v:Value},x.under n=true->(x.rel {c with ρ:=ρ'} v↔x.rel c v):=by
 intro x v hu;cases x<;>simp only[At.rel,At.under,aL]at hu⊢
 case int k e=>rw[Ex.aH h hu]
 case bool e=>rw[Ex.aH h hu]
 case str e=>rw[Ex.aH h hu]
 case J3 r es ix off=>rw[Ex.aH h hu]
 case sl r es lo len=>rw[Ex.aH h hu.1,Ex.aH h hu.2]
 case clip r es lo len=>rw[Ex.aH h hu.1,Ex.aH h hu.2]
 case keys n e=>rw[Ex.aH h hu]
def CZ{c:Ct}{n:Nat}{ρ':ab}(h:∀i,i<n->ρ'.getD i (.i 0)=c.ρ.getD i (.i 0)):∀{xs:eO}{vs:aW},xs.all (·.under n)=true->(cm {c with ρ:=ρ'} xs vs↔cm c xs vs)
 |[],[],_=>Iff.rfl|x::xs,v::vs,hu=>by simp only[wZ,aL]at hu;exact and_congr (At.wI h hu.1) (CZ h hu.2)
 |[],_::_,_=>Iff.rfl|_::_,[],_=>Iff.rfl
def SC.wI{c:Ct}{n:Nat}{ρ':ab}(h:∀i,i<n->ρ'.getD i (.i 0)=c.ρ.getD i (.i 0)):∀{x:SC}{v:Value},x.under n=true->(x.rel {c with ρ:=ρ'} v↔x.rel c v)
 | .a _,_,hu=>At.wI h hu| .g _,_,hu=>exists_congr fun _=>and_congr Iff.rfl (CZ h hu)
def Pp{c:Ct}{n:Nat}{ρ':ab}(h:∀i,i<n->ρ'.getD i (.i 0)=c.ρ.getD i (.i 0)):∀{xs:List SC}{vs:aW},xs.all (·.under n)=true->(wH {c with ρ:=ρ'} xs vs↔wH c xs vs)
 |[],[],_=>Iff.rfl|x::xs,v::vs,hu=>by simp only[wZ,aL]at hu;exact and_congr (SC.wI h hu.1) (Pp h hu.2)
 |[],_::_,_=>Iff.rfl|_::_,[],_=>Iff.rfl
def SV.wI{c:Ct}{n:Nat}{ρ':ab}(h:∀i,i<n->ρ'.getD i (.i 0)=c.ρ.getD i (.i 0)):∀{x:SV}{v:Value},x.under n=true->(x.rel {c with ρ:=ρ'} v↔x.rel c v)
 | .c _,_,hu=>SC.wI h hu| .t _,_,hu=>exists_congr fun _=>and_congr Iff.rfl (Pp h hu)| .JU _ _,_,hu=>exists_congr fun _=>and_congr Iff.rfl (CZ h hu)| .nx _ _ _,_,hu=>by simp only[SV.under,aL]at hu;simp only[SV.rel];rw[Ex.aH h hu.1.1,Ex.aH h hu.1.2,Ex.aH h hu.2]
def At.aG{x y:At}(h:x.same y=true):x=y:=by
 cases x<;>cases y<;>simp_all [At.same]
 case int.int=>exact Ex.aG h.2
 case bool.bool=>exact Ex.aG h
 case str.str=>exact Ex.aG h
 case J3.J3=>exact Ex.aG h.1.2
 case sl.sl=>exact⟨Ex.aG h.1.2,Ex.aG h.2⟩
 case clip.clip=>exact⟨Ex.aG h.1.2,Ex.aG h.2⟩
 case keys.keys=>exact Ex.aG h.2
def At.uz{c:Ct}{x y:At}(h:x.le y=true){v:Value}(hy:y.rel c v):x.rel c v:=by
 unfold At.le at h;cases x<;>simp only[bY]at h
 case top=>trivial
 all_goals(rcases h with h|h;· cases h);rw[At.aG h];exact hy
def MA{c:Ct}:∀{xs ys:eO}{vs:aW},leL xs ys=true->cm c ys vs->cm c xs vs
 |[],[],_,_,h=>h|x::xs,y::ys,v::vs,h,hy=>by simp only[leL,aL]at h;exact⟨At.uz h.1 hy.1,MA h.2 hy.2⟩
 |_::_,_::_,[],_,hy=>hy.elim|[],_::_,_,h,_=>by cases h
 |_::_,[],_,h,_=>by cases h
def SC.uz{c:Ct}:∀{x y:SC}{v:Value},x.le y=true->y.rel c v->x.rel c v:=by
 intro x y v h hy;unfold SC.le at h;split at h
 ·trivial
 ·exact At.uz h hy
 ·obtain⟨vs,e,r⟩:=hy;exact⟨vs,e,MA h r⟩
 ·cases h
def TG{c:Ct}:∀{xs ys:List SC}{vs:aW},leC xs ys=true->wH c ys vs->wH c xs vs
 |[],[],_,_,h=>h|x::xs,y::ys,v::vs,h,hy=>by simp only[leC,aL]at h;exact⟨SC.uz h.1 hy.1,TG h.2 hy.2⟩
 |_::_,_::_,[],_,hy=>hy.elim|[],_::_,_,h,_=>by cases h
 |_::_,[],_,h,_=>by cases h
def SV.uz{c:Ct}:∀{x y:SV}{v:Value},x.le y=true->y.rel c v->x.rel c v:=by
 intro x y v h hy;unfold SV.le at h;split at h
 ·trivial
 ·exact SC.uz h hy
 ·obtain⟨vs,e,r⟩:=hy;exact⟨vs,e,TG h r⟩
 ·simp only[aL]at h;obtain⟨⟨h1,h2⟩,h3⟩:=h;rw[Ex.aG h1,Ex.aG h2,Ex.aG h3];exact hy
 ·simp only[aL]at h;obtain⟨vs,e,r⟩:=hy;exact⟨vs,by rw[fh h.1];exact e,MA h.2 r⟩
 ·cases h
def nw{c:Ct}:∀{xs:eO}{vs:aW},cm c xs vs->vs.length=xs.length
 |[],[],_=>rfl|_::_,_::_,h=>by simp[nw h.2]
 |[],_::_,h=>h.elim|_::_,[],h=>h.elim
def vB{c:Ct}:∀{xs:eO}{vs:aW}{n:Nat}{x:At},cm c xs vs->xs[n]? =some x->∃v,vs[n]? =some v/\x.rel c v
 |_::_,v::_,0,_,h,e=>⟨v,rfl,by simp at e;exact e▸h.1⟩|_::_,_::_,n+1,_,h,e=>by simpa using vB (n:=n) h.2 (by simpa using e)
 |[],[],_,_,_,e=>by simp at e
 |[],_::_,_,_,h,_=>h.elim|_::_,[],_,_,h,_=>h.elim
def CY{c:Ct}:∀{xs:List SC}{vs:aW}{n:Nat}{x:SC},wH c xs vs->xs[n]? =some x->∃v,vs[n]? =some v/\x.rel c v
 |_::_,v::_,0,_,h,e=>⟨v,rfl,by simp at e;exact e▸h.1⟩|_::_,_::_,n+1,_,h,e=>by simpa using CY (n:=n) h.2 (by simpa using e)
 |[],[],_,_,_,e=>by simp at e
 |[],_::_,_,_,h,_=>h.elim|_::_,[],_,_,h,_=>h.elim
def aO:Value->Option Nat
 | .slice (some a) _ (_+1)=>some a.block|_=>none
def ju{v:Value}{p:Nat}(h:aO v=some p):v.ownBlock=some p:=by
 unfold aO at h;split at h
 ·simpa[Value.ownBlock]using h
 ·cases h
def iA:Nat->aW->List MapEntry
 |_,[]=>[]|i,k::ks=>⟨k,.bool true,i⟩::iA (i+1) ks
def eY(ks:aW):Array MapEntry:=(iA 0 ks).toArray
def np(k:Bk)(cs:aW):Obj:=
 match k.kd,cs with
 |1,[.tuple ks]=> .map (eY ks.toList) ks.size|2,[.string s,.int _ p]=> .stringIter s p.toNat|_,cs=> .cells cs.toArray k.ty (0,0)
def dJ{k:Bk}(h:k.kd=0)(cs:aW):np k cs= .cells cs.toArray k.ty (0,0):=by
 unfold np;split
 ·rename_i h1;rw[h]at h1;cases h1
 ·rename_i h1;rw[h]at h1;cases h1
 ·rfl
def St.owns(σ:St)(c:Ct)(x:Bool×Nat)(g:Nat):Prop:=
 match x with
 |(false,p)=>(∃k,σ.blk p=some k)/\c.β p=some g|(true,r)=>(∃k,σ.row r=some k/\k.own=true)/\∃v,c.R r=some v/\aO v=some g
structure fZ where
 n:Nat
 X:dg
 lim:dg
 hn:∀p,lim p->p<n
 hX:∀p,X p->¬lim p
structure f8(B:Nat)(X:dg)(w w':World):Prop where
 os:w'.os=w.os
 tape:w'.tape=w.tape
 output:w'.output=w.output
 size:w.heap.size<=w'.heap.size
 block:∀k,k<B->¬X k->w'.heap[k]? =w.heap[k]?
def f8.refl(B:Nat)(X:dg)(w:World):f8 B X w w:=⟨rfl,rfl,rfl,aX _,fun _ _ _=>rfl⟩
def f8.trans{B:Nat}{X:dg}{a b c:World}(h:f8 B X a b)(k:f8 B X b c):f8 B X a c:=
 ⟨k.os.trans h.os,k.tape.trans h.tape,k.output.trans h.output,bI h.size k.size,fun i hi hx=>(k.block i hi hx).trans (h.block i hi hx)⟩
def f8.of{B:Nat}(X:dg){w w':World}(h:Below B w w'):f8 B X w w':=⟨h.os,h.tape,h.output,h.size,fun k hk _=>h.block k hk⟩
def f8.mono{B B':Nat}{X Y:dg}{w w':World}(h:f8 B X w w')(hB:B'<=B)(hX:∀p,p<B'->X p->Y p):f8 B' Y w w':=
 ⟨h.os,h.tape,h.output,h.size,fun k hk hy=>h.block k (mC hk hB) (fun hx=>hy (hX k hk hx))⟩
def f8.drew{B:Nat}{X:dg}{a w:World}(h:f8 B X a w):f8 B X a w.drew:=⟨h.os,h.tape,h.output,h.size,h.block⟩
def f8.alloc{B:Nat}{X:dg}{a w:World}(h:f8 B X a w)(hB:B<=w.heap.size)(o:Obj):f8 B X a (w.alloc o):=
 h.trans (.of X ((Below.refl B w).alloc hB o))
def f8.grown{B:Nat}{X:dg}{a w w':World}{row:Option Nat}(h:f8 B X a w)(hg:w.grownBy w' row)(hB:B<=w.heap.size)(hr:∀k,row=some k->B<=k\/X k):f8 B X a w':=
 h.trans ⟨hg.os,hg.tape,hg.output,hg.size,fun k hk hx=>hg.block k (by omega) (fun e=>by rcases hr k e.symm with h|h;· omega
                                                                                        ·exact hx h)⟩
def Ey(agg:Bool)(x:Sc)(i:Nat):Sc:=if agg then x.list.getD i (.i 0)else x
inductive Fits(P:Program)(w:World)(ok:dg):CK->Sc->Prop where
 |int (k:IntKind) (x:Sc):Fits P w ok (.int k) x
 |bool (x:Sc):Fits P w ok .bool x
 |str (x:Sc):Fits P w ok .str x
 |sl {el:TypeId}{agg:Bool}{ks:jj}{ad:Option Addr}{n cap:Nat}{xs:ab} (hT:eC P el=some (agg,ks)) (hl:xs.length=n) (hc:n<=cap) (hm:cap<=maxLen)
   (hcell:∀j u,(ag agg ks xs)[j]? =some u->∃p o,ad=some ⟨p,o,none⟩/\w.cell? ⟨p,o+j,none⟩=some u/\ok p)
   (mZ:∀x∈xs,∀i k,ks[i]? =some k->Fits P w ok k (Ey agg x i)):Fits P w ok (.sl el) (.r ad n cap xs)
def Fits.mono{P:Program}{w w':World}{ok ok':dg}(h:∀p o u,ok p->w.cell? ⟨p,o,none⟩=some u->ok' p/\w'.cell? ⟨p,o,none⟩=some u){k:CK}{x:Sc}(hf:Fits P w ok k x):Fits P w' ok' k x:=by
 induction hf with
 |int k x=>exact .int k x|bool x=>exact .bool x|str x=>exact .str x|sl hT hl hc hm hcell mZ ih=>
  refine .sl hT hl hc hm (fun j u hj=> ?_) ih;obtain⟨p,o,e1,e2,e3⟩:=hcell j u hj;obtain⟨q1,q2⟩:=h p _ u e3 e2;exact⟨p,o,e1,q2,q1⟩
def dR(P:Program)(w:World)(ok:dg)(agg:Bool)(ks:jj)(x:Sc):Prop:=∀i k,ks[i]? =some k->Fits P w ok k (Ey agg x i)
def kP(c:Ct)(k:Rw)(n:Nat)(l H:aW):Prop:=
 match k.hole with
 |none=>H=l|some (ix,off,q)=>∃u,c.R q=some u/\(∃a m cap,u= .slice a m cap)/\0<=(ix.ev c.ρ).int/\(ix.ev c.ρ).int<n/\off<k.ks.length/\H=l.set ((ix.ev c.ρ).int.toNat*k.ks.length+off) u
def Av{c:Ct}{k:Rw}{n:Nat}{l H:aW}(hp:k.hole=none):kP c k n l H↔H=l:=by unfold kP;rw[hp]
def dF{k:Rw}(h:k.plain=true):k.hole=none:=by
 unfold Rw.plain at h;cases hh:k.hole with
 |none=>rfl|some _=>rw[hh]at h;cases h
def kP.le{c c':Ct}{k:Rw}{n:Nat}{l H:aW}(h:kP c k n l H)(hc:c.le c'):kP c' k n l H:=by
 unfold kP at h⊢;split
 ·rename_i hh;rw[hh]at h;exact h
 ·rename_i ix off q hh;rw[hh]at h;obtain⟨u,e,r⟩:=h;exact⟨u,hc.R _ _ e,by rw[hc.ρ];exact r⟩
def yS(c:Ct)(w:World)(k:Rw)(v:Value)(n:Nat)(l:aW):Prop:=∃H,w.ownsRow 0 k.el k.ks.length v n H/\kP c k n l H
def yS.plain{c:Ct}{w:World}{k:Rw}{v:Value}{n:Nat}{l:aW}(h:yS c w k v n l)(hp:k.hole=none):w.ownsRow 0 k.el k.ks.length v n l:=by obtain⟨H,h1,h2⟩:=h;rw[Av hp]at h2;subst h2;exact h1
def yS.of{c:Ct}{w:World}{k:Rw}{v:Value}{n:Nat}{l:aW}(hp:k.hole=none)(h:w.ownsRow 0 k.el k.ks.length v n l):yS c w k v n l:=⟨l,h,(Av hp).2 rfl⟩
def yS.lt{c:Ct}{w:World}{k:Rw}{v:Value}{n:Nat}{l:aW}(h:yS c w k v n l){p:Nat}(hp:aO v=some p):p<w.heap.size:=by obtain⟨H,h1,_⟩:=h;exact(h1.lt p (ju hp)).2
def cD(B:fZ)(σ:St)(c:Ct)(p:Nat):Prop:=(∀x,¬σ.owns c x p)/\(B.n<=p\/(c.K p\/B.lim p)\/B.X p)
def Pu(P:Program)(B:fZ)(σ:St)(c:Ct)(w:World)(k:Rw)(v:Value):Prop:=
 ∃D a n cap,v= .slice a n cap/\(k.cont.ev c.ρ).er= .l (dP D)/\D.length=n/\n<=cap/\cap<=maxLen/\(k.own=true->cap=0\/(yS c w k v n (ag k.agg k.ks D)/\∀p,aO v=some p->B.n<=p\/B.X p))/\(k.own=false->∀j u,(ag k.agg k.ks D)[j]? =some u->∃p o,a=some ⟨p,o,none⟩/\w.cell? ⟨p,o+j,none⟩=some u/\cD B σ c p)/\∀x∈D,dR P w (cD B σ c) k.agg k.ks x
structure av(P:Program)(B:fZ)(w0:World)(σ:St)(c:Ct)(a:Act)(w:World):Prop where
 below:f8 B.n B.X w0 w
 hB:B.n<=w.heap.size
 defers:a.defers=[]
 size:σ.aC.length<=a.tmps.size
 aC:∀t,(σ.slot t).rel c (a.tmps.getD t undef)
 au:∀p k,σ.blk p=some k->∃n cs,c.β p=some n/\(B.n<=n\/B.X n)/\w.heap[n]? =some (np k cs)/\cm c k.cells cs
 rows:∀r k,σ.row r=some k->∃v,c.R r=some v/\Pu P B σ c w k v
 apart:∀x y g,σ.owns c x g->σ.owns c y g->x=y
def Rq{w:World}{e:TypeId}{s:Nat}{v:Value}{n:Nat}{xs:aW}(h:w.ownsRow 0 e s v n xs){p:Nat}(hp:aO v=some p):p<w.heap.size:=(h.lt p (ju hp)).2
def MO{w w':World}{e:TypeId}{s:Nat}{v:Value}{n:Nat}{xs:aW}(h:w.ownsRow 0 e s v n xs)(hk:∀p,aO v=some p->w'.heap[p]? =w.heap[p]?)(hc:∀ad n,v≠.slice ad n 0\/v= .slice none 0 0):w'.ownsRow 0 e s v n xs:=by
 obtain⟨q1,q2⟩:=h;refine⟨q1,q2.imp id ?_⟩;rintro⟨g',iZ,cur,e1,e2,e3,e4⟩;refine⟨g',iZ,cur,e1,e2,?_,e4⟩;cases iZ with
 |zero=>rcases hc (some ⟨g',0,none⟩) n with h|h
        ·exact absurd e1 h
        ·rw[e1]at h;cases h
 |succ m=>rw[hk g' (by rw[e1];rfl)];exact e3
def Pu.mono{P:Program}{B:fZ}{σ σ':St}{c c':Ct}{w w':World}{k:Rw}{v:Value}(h:Pu P B σ c w k v)(hf:∀p o u,cD B σ c p->w.cell? ⟨p,o,none⟩=some u->cD B σ' c' p/\w'.cell? ⟨p,o,none⟩=some u)(ho:k.own=true->∀p,aO v=some p->p<w.heap.size->w'.heap[p]? =w.heap[p]?)(hρ:(k.cont.ev c'.ρ).er=(k.cont.ev c.ρ).er)(hH:∀n l H,kP c k n l H->kP c' k n l H):Pu P B σ' c' w' k v:=by
 obtain⟨D,a,n,cap,rfl,h0,h1,h2,h3,h4,h5,h6⟩:=h
 refine⟨D,a,n,cap,rfl,by rw[hρ];exact h0,h1,h2,h3,fun hh=> ?_,fun hh j u hj=> ?_,fun x hx i k hk=>(h6 x hx i k hk).mono hf⟩
 ·rcases h4 hh with hz|⟨q1,q2⟩
  ·exact .inl hz
  ·by_cases hz:cap=0
   ·exact .inl hz
   ·obtain⟨H,q0,q3⟩:=q1;refine .inr ⟨⟨H,MO q0 (fun p hp=>ho hh p hp (Rq q0 hp)) (fun ad m=> .inl fun e=> ?_),hH _ _ _ q3⟩,q2⟩;cases e;exact hz rfl
 ·obtain⟨p,o,e1,e2,e3⟩:=h5 hh j u hj;obtain⟨f1,f2⟩:=hf p _ u e3 e2;exact⟨p,o,e1,f2,f1⟩
structure io(σ:St)(c:Ct):Prop where
 β:∀p,σ.au.length<=p->c.β p=none
 R:∀r,σ.rows.length<=r->c.R r=none
def IW(l:List SV)(d:Nat)(v:SV)(t:Nat):(l.set d v).getD t .top=if d=t/\t<l.length then v else l.getD t .top:=by
 simp only[cE,getElem?_set];by_cases h:d=t
 ·subst h;by_cases h2:d<l.length
  ·simp[h2]
  ·simp[h2]
 ·simp[h]
def dw{α:Type}(d:α):∀(l:List α)(n:Nat)(v:α)(i:Nat),(bU d l n v).getD i d=if i=n then v else l.getD i d
 |_::xs,0,v,0=>by simp[bU]
 |_::xs,0,v,i+1=>by simp[bU]
 |[],0,v,0=>by simp[bU]
 |[],0,v,i+1=>by simp[bU]
 |x::xs,n+1,v,0=>by simp[bU]
 |x::xs,n+1,v,i+1=>by have:=dw d xs n v i;simp only[bU,Qe];rw[this];simp
 |[],n+1,v,0=>by simp[bU]
 |[],n+1,v,i+1=>by have:=dw d [] n v i;simp only[bU,Qe];rw[this];simp
def tW{α:Type}(d:α):∀(l:List α)(n:Nat)(v:α),(bU d l n v).length=max l.length (n+1)
 |_::xs,0,v=>by simp[bU]
 |[],0,v=>by simp[bU]
 |x::xs,n+1,v=>by simp only[bU,AM,tW d xs n v];omega
 |[],n+1,v=>by simp only[bU,AM,tW d [] n v,oe];omega
section
variable{P:Program}{B:fZ}{w0:World}{σ:St}{c:Ct}{a:Act}{w:World}
def av.iF(g:av P B w0 σ c a w){x:Bool×Nat}{n:Nat}(h:σ.owns c x n):(B.n<=n\/B.X n)/\n<w.heap.size:=by
 obtain⟨tag,p⟩:=x;cases tag
 ·obtain⟨⟨k,hk⟩,hb⟩:=h;obtain⟨n',cs,e,h1,h2,_⟩:=g.au p k hk;rw[hb]at e;cases e;exact⟨h1,(iX.1 h2).1⟩
 ·obtain⟨⟨k,hk,ho⟩,v,hv,hg⟩:=h;obtain⟨v',e,D,a',n',cap,rfl,h0,h1,h2,h3,h4,_⟩:=g.rows p k hk;rw[hv]at e;cases e;rcases h4 ho with rfl|⟨q1,q2⟩
  ·cases a'<;>simp[aO]at hg
  ·exact⟨q2 n hg,q1.lt hg⟩
def av.put(g:av P B w0 σ c a w){sv:SV}{v:Value}(h:sv.rel c v)(d:Option Tmp):
 av P B w0 {σ with aC:=match d with|some d=>σ.aC.set d sv|none=>σ.aC} c (a.put d v) w:=by
 cases d with
 |none=>exact g|some d=>
  refine⟨g.below,g.hB,g.defers,by simpa[Act.put]using g.size,fun t=> ?_,g.au,fun r k hk=> ?_,fun x y n hx hy=> ?_⟩
  ·show((σ.aC.set d sv).getD t .top).rel c ((a.tmps.setIfInBounds d v).getD t undef);rw[IW];by_cases ht:d=t/\t<σ.aC.length
   ·rw[aA ht];obtain⟨rfl,hl⟩:=ht;have:d<a.tmps.size:=mC hl g.size;simpa[Array.getElem?_setIfInBounds,this]using h
   ·rw[aE ht];by_cases hd:d=t
    ·subst hd;have:σ.aC.getD d .top= .top:=by have:¬d<σ.aC.length:=fun h=>ht ⟨rfl,h⟩;simp[cE,mB (Kg this)]
     rw[this];trivial
    ·have:=g.aC t;simpa[xC hd,St.slot]using this
  ·exact g.rows r k hk
  ·exact g.apart x y n (by obtain⟨t,p⟩:=x;cases t<;>exact hx) (by obtain⟨t,p⟩:=y;cases t<;>exact hy)
def av.fq(g:av P B w0 σ c a w){w':World}(hb:f8 B.n B.X w0 w')(hs:w.heap.size<=w'.heap.size)(hk:∀n,n<w.heap.size->w'.heap[n]? =w.heap[n]?):av P B w0 σ c a w':=by
 refine⟨hb,bI g.hB hs,g.defers,g.size,g.aC,fun p k hp=> ?_,fun r k hr=> ?_,g.apart⟩
 ·obtain⟨n,cs,e,h1,h2,h3⟩:=g.au p k hp;exact⟨n,cs,e,h1,by rw[hk n (iX.1 h2).1];exact h2,h3⟩
 ·obtain⟨v,e,q⟩:=g.rows r k hr;exact⟨v,e,q.mono (fun p o u hp hu=>⟨hp,by rw[World.cell?_of_block (hk p (World.block_lt_of_cell? w ⟨p,o,none⟩ hu))];exact hu⟩) (fun _ p _ bi=>hk p bi) rfl (fun _ _ _ h=>h)⟩
def av.drew(g:av P B w0 σ c a w):av P B w0 σ c a {w with drawn:=w.drawn+1}:=
 g.fq g.below.drew (aX _) (fun _ _=>rfl)
def av.env(g:av P B w0 σ c a w)(hu:σ.under=true){ρ':ab}(h:∀i,i<σ.nv->ρ'.getD i (.i 0)=c.ρ.getD i (.i 0)):av P B w0 σ {c with ρ:=ρ'} a w:=by
 simp only[St.under,aL,lO]at hu;obtain⟨⟨hs,Np⟩,hr⟩:=hu;have mZ:∀{α:Type}(l:List (Option α))(p:Nat)(k:α),l.getD p none=some k->some k∈l:=fun l p k e=>by
  rw[cE]at e;cases e2:l[p]? with
  |none=>simp[e2]at e|some z=>simp[e2]at e;subst e;exact d9 e2
 refine⟨g.below,g.hB,g.defers,g.size,fun t=> ?_,fun p k hp=> ?_,fun r k hk=> ?_,g.apart⟩
 ·by_cases ht:t<σ.aC.length
  ·have:σ.slot t∈σ.aC:=by unfold St.slot;simp[cE,cB ht]
   exact(SV.wI h (hs _ this)).2 (g.aC t)
  ·have:σ.slot t= .top:=by unfold St.slot;simp[cE,mB (Kg ht)]
   rw[this];trivial
 ·obtain⟨n,cs,e,h1,h2,h3⟩:=g.au p k hp;refine⟨n,cs,e,h1,h2,(CZ h ?_).2 h3⟩;have:=Np _ (mZ _ _ _ hp);simpa using this
 ·have hku:k.cont.under σ.nv=true/\k.Ed σ.nv=true:=by have:=hr _ (mZ _ _ _ hk);simpa using this
  obtain⟨hku,hkh⟩:=hku;obtain⟨v,e,q⟩:=g.rows r k hk;exact⟨v,e,q.mono (fun p o u hp hu=>⟨hp,hu⟩) (fun _ _ _ _=>rfl) (by rw[Ex.aH h hku]) (fun n l H hh=>by
   unfold kP at hh⊢;unfold Rw.Ed at hkh;split
   ·rename_i h1;rw[h1]at hh;exact hh
   ·rename_i ix off q h1;rw[h1]at hh hkh;have e:ix.ev ρ'=ix.ev c.ρ:=Ex.aH h hkh;simp only[e];exact hh)⟩
def av.alloc(g:av P B w0 σ c a w){p:Nat}(hp:c.β p=none){k:Bk}{cs:aW}(hk:cm c k.cells cs):
 av P B w0 {σ with au:=bU none σ.au p (some k)} {c with β:=fun i=>if i=p then some w.heap.size else c.β i} a (w.alloc (np k cs)):=by
 have hle:c.le {c with β:=fun i=>if i=p then some w.heap.size else c.β i}:=⟨rfl,rfl,fun i n e=>by
  by_cases h:i=p
  ·subst h;rw[hp]at e;cases e
  ·simp[h,e],fun _ _ e=>e⟩
 have bj:∀x n,St.owns {σ with au:=bU none σ.au p (some k)} {c with β:=fun i=>if i=p then some w.heap.size else c.β i} x n->(x=(false,p)/\n=w.heap.size)\/(σ.owns c x n):=by
  rintro⟨t,q⟩ n h;cases t
  ·obtain⟨⟨k',fK⟩,e⟩:=h;by_cases hq:q=p
   ·subst hq;simp at e;exact .inl ⟨rfl,e.symm⟩
   ·refine .inr ⟨⟨k',?_⟩,by simpa[hq]using e⟩;have:(bU none σ.au p (some k)).getD q none=some k':=fK;rw[dw,aE hq]at this;exact this
  ·exact .inr h
 refine⟨g.below.alloc g.hB _,by simp;have:=g.hB;omega,g.defers,g.size,fun t=>SV.kv hle (g.aC t),fun q k' hq=> ?_,fun r k' hr=> ?_,fun x y n hx hy=> ?_⟩
 ·have:(bU none σ.au p (some k)).getD q none=some k':=hq;rw[dw]at this;by_cases h:q=p
  ·rw[aA h]at this;cases this
   exact⟨w.heap.size,cs,by simp[h],.inl g.hB,heap_alloc_new w _,jb hle hk⟩
  ·rw[aE h]at this;obtain⟨n,Ap,e,h1,h2,h3⟩:=g.au q k' this;exact⟨n,Ap,by simp[h,e],h1,by rw[Below.heap_alloc w _ n (iX.1 h2).1];exact h2,jb hle h3⟩
 ·obtain⟨v,e,q⟩:=g.rows r k' hr;refine⟨v,e,q.mono (fun q o u hq hu=> ?_) (fun _ q _ bi=>Below.heap_alloc w _ q bi) rfl (fun _ _ _ h=>h)⟩;have bi:=World.block_lt_of_cell? w ⟨q,o,none⟩ hu;refine⟨⟨fun x hx=> ?_,hq.2⟩,by rw[World.cell?_of_block (Below.heap_alloc w _ q bi)];exact hu⟩;rcases bj x q hx with⟨_,h⟩|h
  ·simp at bi;omega
  ·exact hq.1 x h
 ·rcases bj x n hx with⟨ex,e1⟩|hx<;>rcases bj y n hy with⟨ey,e2⟩|hy
  ·rw[ex,ey]
  ·have:=(g.iF hy).2;omega
  ·have:=(g.iF hx).2;omega
  ·exact g.apart x y n hx hy
def av.store(g:av P B w0 σ c a w){p n:Nat}{k:Bk}(hp:σ.blk p=some k)(hn:c.β p=some n){cells:eO}{cs:aW}(hk:cm c cells cs){ty kd:Nat}{w':World}(hb:f8 B.n B.X w0 w')(hs:w'.heap.size=w.heap.size)(Yp:w'.heap[n]? =some (np ⟨cells,ty,kd⟩ cs))(hold:∀m,m≠n->w'.heap[m]? =w.heap[m]?):
 av P B w0 {σ with au:=bU none σ.au p (some ⟨cells,ty,kd⟩)} c a w':=by
 have bj:∀x m,St.owns {σ with au:=bU none σ.au p (some ⟨cells,ty,kd⟩)} c x m->σ.owns c x m:=by
  rintro⟨t,q⟩ m h;cases t
  ·obtain⟨⟨k',fK⟩,e⟩:=h;by_cases hq:q=p
   ·subst hq;exact⟨⟨k,hp⟩,e⟩
   ·refine⟨⟨k',?_⟩,e⟩;have:(bU none σ.au p (some ⟨cells,ty,kd⟩)).getD q none=some k':=fK;rw[dw,aE hq]at this;exact this
  ·exact h
 have vm:σ.owns c (false,p) n:=⟨⟨k,hp⟩,hn⟩
 refine⟨hb,by rw[hs];exact g.hB,g.defers,g.size,g.aC,fun q k' hq=> ?_,fun r k' hr=> ?_,fun x y m hx hy=>g.apart x y m (bj x m hx) (bj y m hy)⟩
 ·have:(bU none σ.au p (some ⟨cells,ty,kd⟩)).getD q none=some k':=hq;rw[dw]at this;by_cases h:q=p
  ·rw[aA h]at this;cases this
   exact⟨n,cs,h▸hn,(g.iF vm).1,Yp,hk⟩
  ·rw[aE h]at this;obtain⟨m,Ap,e,h1,h2,h3⟩:=g.au q k' this;refine⟨m,Ap,e,h1,?_,h3⟩;have:m≠n:=fun e'=>by have:=g.apart (false,q) (false,p) n ⟨⟨k',this⟩,e'▸e⟩ vm;simp at this;exact h this
   rw[hold m this];exact h2
 ·obtain⟨v,e,q⟩:=g.rows r k' hr;refine⟨v,e,q.mono (fun q o u hq hu=> ?_) (fun ho q hq _=> ?_) rfl (fun _ _ _ h=>h)⟩
  ·have:q≠n:=fun e'=>hq.1 (false,p) (e'▸vm);exact⟨⟨fun x hx=>hq.1 x (bj x q hx),hq.2⟩,by rw[World.cell?_of_block (hold q this)];exact hu⟩
  ·refine hold q fun e'=> ?_;have:=g.apart (true,r) (false,p) n ⟨⟨k',hr,ho⟩,v,e,e'▸hq⟩ vm;cases this
def ik(l:List (Option Rw))(r:Nat)(k:Option Rw)(q:Nat):(bU none l r k).getD q none=if q=r then k else l.getD q none:=dw none l r k q
def av.newRow(g:av P B w0 σ c a w){w':World}(hb:f8 B.n B.X w0 w')(hs:w.heap.size<=w'.heap.size)(hk:∀n,n<w.heap.size->w'.heap[n]? =w.heap[n]?){r:Nat}(hr:c.R r=none){k:Rw}(iQ:k.hole=none){D:ab}{ad:Option Addr}{n cap:Nat}(hD:(k.cont.ev c.ρ).er= .l (dP D))(hl:D.length=n)(hc:n<=cap)(hm:cap<=maxLen)(bj:k.own=true->cap=0\/(w'.ownsRow 0 k.el k.ks.length (.slice ad n cap) n (ag k.agg k.ks D)/\∀p,aO (.slice ad n cap)=some p->w.heap.size<=p))(gV:k.own=false->∀j u,(ag k.agg k.ks D)[j]? =some u->∃p o,ad=some ⟨p,o,none⟩/\w'.cell? ⟨p,o+j,none⟩=some u/\cD B σ c p)(Yb:∀x∈D,dR P w (cD B σ c) k.agg k.ks x):
 av P B w0 {σ with rows:=bU none σ.rows r (some k)} {c with R:=fun i=>if i=r then some (.slice ad n cap)else c.R i} a w':=by
 have hle:c.le {c with R:=fun i=>if i=r then some (.slice ad n cap)else c.R i}:=⟨rfl,rfl,fun _ _ e=>e,fun i v e=>by
  by_cases h:i=r
  ·subst h;rw[hr]at e;cases e
  ·simp[h,e]⟩
 have dz:∀q k',St.row {σ with rows:=bU none σ.rows r (some k)} q=some k'->(q=r/\k'=k)\/(q≠r/\σ.row q=some k'):=fun q k' h=>by
  have:(bU none σ.rows r (some k)).getD q none=some k':=h;rw[ik]at this;by_cases h2:q=r
  ·rw[aA h2]at this;cases this;exact .inl ⟨h2,rfl⟩
  ·rw[aE h2]at this;exact .inr ⟨h2,this⟩
 have dN:∀x p,St.owns {σ with rows:=bU none σ.rows r (some k)} {c with R:=fun i=>if i=r then some (.slice ad n cap)else c.R i} x p->
  (x=(true,r)/\w.heap.size<=p/\k.own=true)\/σ.owns c x p:=by
  rintro⟨t,q⟩ p h
  cases t
  ·exact .inr h
  ·obtain⟨⟨k',fK,ho⟩,v,hv,hp⟩:=h;rcases dz q k' fK with⟨rfl,rfl⟩|⟨hq,fK⟩
   ·simp at hv;subst hv;rcases bj ho with rfl|⟨_,h⟩
    ·cases ad<;>simp[aO]at hp
    ·exact .inl ⟨rfl,h p hp,ho⟩
   ·simp[hq]at hv;exact .inr ⟨⟨k',fK,ho⟩,v,hv,hp⟩
 have bT:∀p o u,cD B σ c p->w.cell? ⟨p,o,none⟩=some u->cD B {σ with rows:=bU none σ.rows r (some k)} {c with R:=fun i=>if i=r then some (.slice ad n cap)else c.R i} p/\w'.cell? ⟨p,o,none⟩=some u:=fun p o u hp hu=>by
  have bi:=World.block_lt_of_cell? w ⟨p,o,none⟩ hu;refine⟨⟨fun x hx=> ?_,hp.2⟩,by rw[World.cell?_of_block (hk p bi)];exact hu⟩;rcases dN x p hx with⟨_,h,_⟩|hx
  ·simp at bi;omega
  ·exact hp.1 x hx
 refine⟨hb,bI g.hB hs,g.defers,g.size,fun t=>SV.kv hle (g.aC t),fun p k' hp=> ?_,fun q k' hq=> ?_,fun x y p hx hy=> ?_⟩
 ·obtain⟨n',cs,e,h1,h2,h3⟩:=g.au p k' hp;exact⟨n',cs,e,h1,by rw[hk n' (iX.1 h2).1];exact h2,jb hle h3⟩
 ·rcases dz q k' hq with⟨rfl,rfl⟩|⟨hq,fK⟩
  ·refine⟨_,by simp,D,ad,n,cap,rfl,hD,hl,hc,hm,fun ho=>(bj ho).imp id fun h=>⟨.of iQ h.1,fun p hp=> .inl (bI g.hB (h.2 p hp))⟩,fun ho j u hj=> ?_,fun x hx i k hk=>(Yb x hx i k hk).mono bT⟩;obtain⟨p,o,e1,e2,e3⟩:=gV ho j u hj;refine⟨p,o,e1,e2,fun x hx=> ?_,e3.2⟩;rcases dN x p hx with⟨_,_,h⟩|hx
   ·rw[ho]at h;cases h
   ·exact e3.1 x hx
  ·obtain⟨v,e,q'⟩:=g.rows q k' fK;exact⟨v,by simp[hq,e],q'.mono bT (fun _ p _ bi=>hk p bi) rfl (fun _ _ _ h=>h.le hle)⟩
 ·rcases dN x p hx with⟨ex,e1,_⟩|hx<;>rcases dN y p hy with⟨ey,e2,_⟩|hy
  ·rw[ex,ey]
  ·have:=(g.iF hy).2;omega
  ·have:=(g.iF hx).2;omega
  ·exact g.apart x y p hx hy
def av.freeze(g:av P B w0 σ c a w){r:Nat}{k:Rw}(hr:σ.row r=some k)(iQ:k.hole=none):av P B w0 {σ with rows:=bU none σ.rows r (some {k with own:=false})} c a w:=by
 have dz:∀q k',St.row {σ with rows:=bU none σ.rows r (some {k with own:=false})} q=some k'->(q=r/\k'={k with own:=false})\/(q≠r/\σ.row q=some k'):=fun q k' h=>by
  have:(bU none σ.rows r (some {k with own:=false})).getD q none=some k':=h;rw[ik]at this;by_cases h2:q=r
  ·rw[aA h2]at this;cases this;exact .inl ⟨h2,rfl⟩
  ·rw[aE h2]at this;exact .inr ⟨h2,this⟩
 have dN:∀x p,St.owns {σ with rows:=bU none σ.rows r (some {k with own:=false})} c x p->x≠(true,r)/\σ.owns c x p:=by
  rintro⟨t,q⟩ p h;cases t
  ·exact⟨by simp,h⟩
  ·obtain⟨⟨k',fK,ho⟩,v,hv,hp⟩:=h;rcases dz q k' fK with⟨rfl,rfl⟩|⟨hq,fK⟩
   ·cases ho
   ·exact⟨by simp[hq],⟨k',fK,ho⟩,v,hv,hp⟩
 have bT:∀p o u,cD B σ c p->w.cell? ⟨p,o,none⟩=some u->cD B {σ with rows:=bU none σ.rows r (some {k with own:=false})} c p/\w.cell? ⟨p,o,none⟩=some u:=fun p o u hp hu=>⟨⟨fun x hx=>hp.1 x (dN x p hx).2,hp.2⟩,hu⟩;refine⟨g.below,g.hB,g.defers,g.size,g.aC,g.au,fun q k' hq=> ?_,fun x y p hx hy=>g.apart x y p (dN x p hx).2 (dN y p hy).2⟩;rcases dz q k' hq with⟨rfl,rfl⟩|⟨hq,fK⟩
 ·obtain⟨v,e,D,a',n,cap,rfl,h0,h1,h2,h3,h4,h5,h6⟩:=g.rows q k hr;refine⟨_,e,D,a',n,cap,rfl,h0,h1,h2,h3,(nofun),fun _ j u hj=> ?_,fun x hx i k hk=>(h6 x hx i k hk).mono bT⟩;cases ho:k.own
  ·obtain⟨p,o,e1,e2,e3⟩:=h5 ho j u hj;exact⟨p,o,e1,e2,fun x hx=>e3.1 x (dN x p hx).2,e3.2⟩
  ·have DN:n=0->False:=fun hn=>by subst hn;simp only at hj;rw[px h1]at hj;simp[ag]at hj
   rcases h4 ho with hz|⟨hw,hbp⟩
   ·exact(DN (by omega)).elim
   ·have hw:=hw.plain iQ;rcases hw.2 with⟨hv,hn⟩|⟨p,iZ,cur,hv,_,_⟩
    ·exact(DN hn).elim
    ·cases hv
     have:=hw.cells (g:=p) rfl j u hj;have HJ:aO (.slice (some ⟨p,0,none⟩) n cap)=some p:=by
      cases cap with|zero=>exact(DN (by omega)).elim|succ m=>rfl
     refine⟨p,0,rfl,by simpa[Addr.add]using(by
      have h0:(⟨p,0,none⟩:Addr).add j=⟨p,0+j,none⟩:=by unfold Addr.add;split<;>simp_all
      rw[h0]at this;simpa using this),fun x hx=> ?_,(hbp p HJ).elim .inl fun h=> .inr (.inr h)⟩
     have:=dN x p hx;exact this.1 (g.apart x (true,q) p this.2 ⟨⟨k,hr,ho⟩,_,e,HJ⟩)
 ·obtain⟨v,e,q'⟩:=g.rows q k' fK;exact⟨v,e,q'.mono bT (fun _ _ _ _=>rfl) rfl (fun _ _ _ h=>h)⟩
def av.PN(g:av P B w0 σ c a w){r:Nat}{k:Rw}(hr:σ.row r=some k)(ho:k.own=true){v:Value}(hv:c.R r=some v){w':World}(hg:w.grownBy w' (aO v)){r':Nat}{k':Rw}(Jn:k'.own=true){D:ab}{ad:Option Addr}{n cap:Nat}(hD:(k'.cont.ev c.ρ).er= .l (dP D))(hl:D.length=n)(hc:n<=cap)(hm:cap<=maxLen)(Cr:cap=0\/yS {c with R:=fun i=>if i=r' then some (.slice ad n cap)else c.R i} w' k' (.slice ad n cap) n (ag k'.agg k'.ks D))(hblk:aO (.slice ad n cap)=aO v\/∀p,aO (.slice ad n cap)=some p->w.heap.size<=p)(Jo:c.R r'=none\/(r'=r/\v= .slice ad n cap))(Yb:∀x∈D,dR P w (cD B σ c) k'.agg k'.ks x):
 av P B w0 {σ with rows:=bU none (bU none σ.rows r none) r' (some k')} {c with R:=fun i=>if i=r' then some (.slice ad n cap)else c.R i} a w':=by
 have hle:c.le {c with R:=fun i=>if i=r' then some (.slice ad n cap)else c.R i}:=⟨rfl,rfl,fun _ _ e=>e,fun i u e=>by
  by_cases h:i=r'
  ·subst h;rcases Jo with h|⟨h1,h2⟩
   ·rw[h]at e;cases e
   ·subst h1;rw[hv]at e;cases e;simp[h2]
  ·simp[h,e]⟩
 have vm:∀p,aO v=some p->σ.owns c (true,r) p:=fun p hp=>⟨⟨k,hr,ho⟩,v,hv,hp⟩
 have dz:∀q k2,St.row {σ with rows:=bU none (bU none σ.rows r none) r' (some k')} q=some k2->(q=r'/\k2=k')\/(q≠r'/\q≠r/\σ.row q=some k2):=fun q k2 h=>by
  have:(bU none (bU none σ.rows r none) r' (some k')).getD q none=some k2:=h;rw[ik,ik]at this;by_cases h2:q=r'
  ·rw[aA h2]at this;cases this;exact .inl ⟨h2,rfl⟩
  ·rw[aE h2]at this;by_cases h3:q=r
   ·rw[aA h3]at this;cases this
   ·rw[aE h3]at this;exact .inr ⟨h2,h3,this⟩
 have dN:∀x p,St.owns {σ with rows:=bU none (bU none σ.rows r none) r' (some k')} {c with R:=fun i=>if i=r' then some (.slice ad n cap)else c.R i} x p->
  (x=(true,r')/\(aO v=some p\/w.heap.size<=p))\/(x≠(true,r)/\σ.owns c x p):=by
  rintro⟨t,q⟩ p h
  cases t
  ·exact .inr ⟨by simp,h⟩
  ·obtain⟨⟨k2,m5,Vb⟩,u,hu,hp⟩:=h;rcases dz q k2 m5 with⟨rfl,rfl⟩|⟨hq,Tj,m5⟩
   ·simp at hu;subst hu;refine .inl ⟨rfl,?_⟩;rcases hblk with h|h
    ·exact .inl (h▸hp)
    ·exact .inr (h p hp)
   ·simp[hq]at hu;exact .inr ⟨by simp[Tj],⟨k2,m5,Vb⟩,u,hu,hp⟩
 have QS:f8 B.n B.X w0 w':=g.below.grown hg g.hB (fun p hp=>(g.iF (vm p hp)).1)
 have bT:∀p o u,cD B σ c p->w.cell? ⟨p,o,none⟩=some u->cD B {σ with rows:=bU none (bU none σ.rows r none) r' (some k')} {c with R:=fun i=>if i=r' then some (.slice ad n cap)else c.R i} p/\w'.cell? ⟨p,o,none⟩=some u:=fun p o u hp hu=>by
  have bi:=World.block_lt_of_cell? w ⟨p,o,none⟩ hu;refine⟨⟨fun x hx=> ?_,hp.2⟩,by rw[World.cell?_of_block (hg.block p bi (fun e'=>hp.1 _ (vm p e'.symm)))];exact hu⟩;rcases dN x p hx with⟨_,h|h⟩|⟨_,hx⟩
  ·exact hp.1 _ (vm p h)
  ·simp at bi;omega
  ·exact hp.1 x hx
 refine⟨QS,bI g.hB hg.size,g.defers,g.size,fun t=>SV.kv hle (g.aC t),fun p k2 hp=> ?_,fun q k2 hq=> ?_,fun x y p hx hy=> ?_⟩
 ·obtain⟨m,cs,e,h1,h2,h3⟩:=g.au p k2 hp;refine⟨m,cs,e,h1,?_,jb hle h3⟩;rw[hg.block m (iX.1 h2).1 (fun e'=>by have:=g.apart (false,p) (true,r) m ⟨⟨k2,hp⟩,e⟩ (vm m e'.symm);cases this)]
  exact h2
 ·rcases dz q k2 hq with⟨rfl,rfl⟩|⟨hq,Tj,m5⟩
  ·refine⟨_,by simp,D,ad,n,cap,rfl,hD,hl,hc,hm,fun _=>Cr.imp id fun h=>⟨h,fun p hp=> ?_⟩,(fun h=>by rw[Jn]at h;cases h),fun x hx i k hk=>(Yb x hx i k hk).mono bT⟩;rcases hblk with h2|h2
   ·exact(g.iF (vm p (h2▸hp))).1
   ·exact .inl (bI g.hB (h2 p hp))
  ·obtain⟨u,e,q'⟩:=g.rows q k2 m5;refine⟨u,by simp[hq,e],q'.mono bT (fun Vb p hp bi=>hg.block p bi fun e'=> ?_) rfl (fun _ _ _ h=>h.le hle)⟩;have:=g.apart (true,q) (true,r) p ⟨⟨k2,m5,Vb⟩,_,e,hp⟩ (vm p e'.symm);simp at this;exact Tj this
 ·rcases dN x p hx with⟨ex,e1⟩|⟨nx,hx⟩<;>rcases dN y p hy with⟨ey,e2⟩|⟨ny,hy⟩
  ·rw[ex,ey]
  ·rcases e1 with h|h
   ·exact absurd (g.apart _ _ p hy (vm p h)) ny
   ·have:=(g.iF hy).2;omega
  ·rcases e2 with h|h
   ·exact absurd (g.apart _ _ p hx (vm p h)) nx
   ·have:=(g.iF hx).2;omega
  ·exact g.apart x y p hx hy
def av.uf(g:av P B w0 σ c a w){r:Nat}{k:Rw}(hr:σ.row r=some k)(ho:k.own=true){v:Value}(hv:c.R r=some v){w':World}(hg:w.grownBy w' (aO v)){r':Nat}{k':Rw}(Jn:k'.own=true)(iQ:k'.hole=none){D:ab}{ad:Option Addr}{n cap:Nat}(hD:(k'.cont.ev c.ρ).er= .l (dP D))(hl:D.length=n)(hc:n<=cap)(hm:cap<=maxLen)(Cr:cap=0\/w'.ownsRow 0 k'.el k'.ks.length (.slice ad n cap) n (ag k'.agg k'.ks D))(hblk:aO (.slice ad n cap)=aO v\/∀p,aO (.slice ad n cap)=some p->w.heap.size<=p)(Jo:c.R r'=none\/(r'=r/\v= .slice ad n cap))(Yb:∀x∈D,dR P w (cD B σ c) k'.agg k'.ks x):
 av P B w0 {σ with rows:=bU none (bU none σ.rows r none) r' (some k')} {c with R:=fun i=>if i=r' then some (.slice ad n cap)else c.R i} a w':=
 g.PN hr ho hv hg Jn hD hl hc hm (Cr.imp id fun h=> .of iQ h) hblk Jo Yb
end
def Qn(l:List UInt8):(l.map UInt8.toNat).map UInt8.ofNat=l:=by
 induction l with|nil=>rfl|cons x xs ih=>simp only[jQ,ih];simp
def NP{c:Ct}:∀{v:Value}{x:At},abq v=some x->x.rel c v:=by
 intro v x h;unfold abq at h;split at h<;>cases h
 ·rfl
 ·rfl
 ·simp only[At.rel,Ex.ev,Sc.str,Qn]
 ·rfl
 ·exact⟨none,rfl⟩
 ·rfl
 ·rfl
def Km{c:Ct}:∀{vs:aW}{xs:eO},Kl vs=some xs->cm c xs vs
 |[],xs,h=>by simp[Kl]at h;subst h;trivial
 |v::vs,xs,h=>by
  unfold Kl at h;split at h
  ·rename_i x Se h1 h2;cases h
   exact⟨NP h1,Km h2⟩
  ·cases h
def C4{c:Ct}{v:Value}{s:SV}(h:RW v=some s):s.rel c v:=by
 unfold RW at h;split at h
 ·rename_i cs;cases h1:Kl cs.toList with
  |none=>simp[h1]at h|some xs=>simp[h1]at h;subst h;exact⟨cs.toList,by simp,Km h1⟩
 ·rename_i vs;split at h
  ·rename_i h1;cases h
   exact⟨[],by rw[<-h1],trivial⟩
  ·cases h
 ·simp only[nW]at h;obtain⟨x,h1,rfl⟩:=h;exact NP h1
structure xz(σ:St)(c:Ct)(a:Act)(rd:Rd):Prop where
 ev:∀x,(rd.ev x).rel c (a.eval x)
 blk:∀p k,rd.blk p=some k->σ.blk p=some k
 row:∀p k,rd.row p=some k->σ.row p=some k
def SJ{c:Ct}{a:Act}{slot:Nat->SV}(h:∀t,(slot t).rel c (a.tmps.getD t undef))(x:Operand):(evS slot x).rel c (a.eval x):=by
 cases x with
 |tmp t=>exact h t|const v=>
  simp only[evS];cases hv:RW v with
  |none=>trivial|some s=>exact C4 hv
 |global _=>trivial|func f=>exact⟨[],rfl,rfl⟩
def zV{P:Program}{B:fZ}{w0:World}{σ:St}{c:Ct}{a:Act}{w:World}(g:av P B w0 σ c a w)(ts ds ls:Qa)(nv nb nr:Nat):xz σ c a (CV σ.slot σ.blk σ.row ts ds ls nv nb nr):=by
 refine⟨fun x=>SJ (fun t=> ?_) x,fun p k h=> ?_,fun p k h=> ?_⟩
 ·cases iC ts t
  ·trivial
  ·exact g.aC t
 ·simp only[CV]at h;cases hh:iC (ds.flatMap fun t=>(σ.slot t).vY) p<;>rw[hh]at h<;>simp at h
  exact h
 ·simp only[CV]at h;cases hh:iC (ke σ.slot σ.blk ds ls) p<;>rw[hh]at h<;>simp at h
  exact h
def cd(P:Program)(B:fZ)(w0:World)(σ:St)(c:Ct)(a:Act)(w:World)(o:Oper)(r:dl):Prop:=
 ∃nx w' v c',(execOp a.eval o).run P w= .ok nx w'/\(nx= .value v\/(nx= .skip/\v=undef))/\c.le c'/\(∀i,i∉r.nb->c'.β i=c.β i)/\(∀i,i∉r.nr->c'.R i=c.R i)/\r.val.rel c' v/\av P B w0 {σ with au:=bG σ.au r.au,rows:=ai σ.rows r.rows} c' a w'
section
variable{P:Program}{B:fZ}{w0:World}{σ:St}{c:Ct}{a:Act}{w:World}{o:Oper}{rd:Rd}
def cd.quiet(g:av P B w0 σ c a w){sv:SV}{v:Value}{eZ:bZ}(hr:(execOp a.eval o).run P w= .ok (.value v) w)(hv:sv.rel c v):cd P B w0 σ c a w o ⟨eZ,none,sv,[],[],[],[]⟩:=⟨_,w,v,c,hr,.inl rfl,.refl c,fun _ _=>rfl,fun _ _=>rfl,hv,g⟩
def jd{ty:TypeId}{b:Bool}(h:i9 P ty=some b)(w:World):(isAgg ty).run P w= .ok b w:=by
 unfold i9 at h;unfold isAgg;split at h
 ·rename_i h1;cases h;simp[run_underlying h1]
 ·rename_i h1;cases h;simp[run_underlying h1]
 ·rename_i d h1 h2 h3;cases h
  rw[Sem.run_bind,run_underlying h3 w];simp only[Result.andThen_ok];rfl
 ·cases h
def cj{ty:TypeId}{n:Nat}(h:gO P ty=some n)(w:World):(sizeOf ty).run P w= .ok n w:=by
 unfold gO at h;cases hi:P.info? ty with
 |none=>simp[hi]at h|some i=>simp[hi]at h;simp[sizeOf,typeInfo,hi,h]
def zZ:∀{xs:eO}{vs:aW}{off n:Nat}{ys:eO},nG xs off n=some ys->cm c xs vs->cm c ys ((vs.drop off).take n)/\((vs.drop off).take n).length=n
 |xs,vs,0,0,ys,h,_=>by simp[nG]at h;subst h;simp[cm]
 |[],vs,0,n+1,ys,h,_=>by simp[nG]at h
 |[],vs,o+1,n,ys,h,_=>by simp[nG]at h
 |x::xs,[],_,_,_,_,hr=>hr.elim|x::xs,v::vs,0,n+1,ys,h,hr=>by
  simp only[nG]at h;cases h1:nG xs 0 n with
  |none=>simp[h1]at h|some zs=>
   simp[h1]at h;subst h;have:=zZ h1 hr.2;simp only[Ki]at this;exact⟨⟨hr.1,this.1⟩,by simp[this.2]⟩
 |x::xs,v::vs,o+1,n,ys,h,hr=>by simp only[nG]at h;simpa using zZ h hr.2
def CM{ty:TypeId}{cs:eO}{off:Nat}{sv:SV}(h:yO P ty cs off=some sv){vs:aW}(hr:cm c cs vs)(w:World):
 ∃v,(part ty vs.toArray off).run P w= .ok v w/\sv.rel c v:=by
 unfold yO at h
 split at h
 ·rename_i n h1 h2;cases h3:nG cs off n with
  |none=>simp[h3]at h|some ys=>
   simp[h3]at h;subst h;obtain⟨q1,q2⟩:=zZ h3 hr;refine⟨.agg ((vs.drop off).take n).toArray,?_,_,rfl,q1⟩;simp[part,jd h1,cj h2]
 ·rename_i h1;cases h3:cs[off]? with
  |none=>simp[h3]at h|some x=>
   simp[h3]at h;subst h;obtain⟨v,q1,q2⟩:=vB hr h3;exact⟨v,by simp[part,jd h1,q1],q2⟩
 ·cases h
def EU{ty:TypeId}{cs:eO}{off:Nat}{sv:SV}(h:yO P ty cs off=some sv){vs:aW}(hr:cm c cs vs){n base:Nat}(hc:∀j v,vs[j]? =some v->w.cell? ⟨n,base+j,none⟩=some v):
 ∃v,(loadVar ty ⟨n,base+off,none⟩).run P w= .ok v w/\sv.rel c v:=by
 unfold yO at h
 split at h
 ·rename_i m h1 h2;cases h3:nG cs off m with
  |none=>simp[h3]at h|some ys=>
   simp[h3]at h;subst h;obtain⟨q1,q2⟩:=zZ h3 hr;refine⟨.agg ((vs.drop off).take m).toArray,?_,_,rfl,q1⟩;have hl:(loadCells ⟨n,base+off,none⟩ m).run P w= .ok ((vs.drop off).take m).toArray w:=by
    have:=run_loadCells_list (P:=P) w ⟨n,base+off,none⟩ ((vs.drop off).take m) (fun j v hv=>by
     rw[qg]at hv;split at hv
     ·rw[BR]at hv;have h4:=hc _ _ hv;have h5:(⟨n,base+off,none⟩:Addr).add j=⟨n,base+(off+j),none⟩:=by unfold Addr.add;split<;>simp_all<;>omega
      rw[h5];exact h4
     ·cases hv)
    rw[q2]at this;exact this
   simp[loadVar,jd h1,cj h2,hl]
 ·rename_i h1;cases h3:cs[off]? with
  |none=>simp[h3]at h|some x=>
   simp[h3]at h;subst h;obtain⟨v,q1,q2⟩:=vB hr h3;refine⟨v,?_,q2⟩;have:=hc off v q1;simp[loadVar,jd h1,load,Sem.run,this]
 ·cases h
def G2{k:CK}{d:Sc}{e:Ex}(h:d.er=(e.ev c.ρ).er):(agt k e).rel c (k.val d):=by
 cases k with
 |int k=>show _=_;simp only[CK.val];rw[<-Dv,h,Dv]
 |bool=>show _=_;simp only[CK.val];rw[<-zL,h,zL]
 |str=>show _=_;simp only[CK.val];rw[<-L9,h,L9]
 |sl el=>trivial
def ais{k:CK}{x y:Sc}(hk:∀el,k≠.sl el)(h:x.er=y.er):k.val x=k.val y:=by
 cases k with|int k=>simp only[CK.val];rw[<-Dv,h,Dv]|bool=>simp only[CK.val];rw[<-zL,h,zL]|str=>simp only[CK.val];rw[<-L9,h,L9]|sl el=>exact absurd rfl (hk el)
def um(x:Sc):∀(ks:jj)(n:Nat),(jD x ks n).length=ks.length
 |[],_=>rfl|k::ks,n=>by simp[jD,um x ks]
def oL(agg:Bool)(ks:jj):Prop:=agg=true\/ks.length=1
def cg{agg:Bool}{ks:jj}(h:oL agg ks)(x:Sc):(bP agg ks x).length=ks.length:=by
 unfold bP;cases agg
 ·match ks,h with
  |[k],_=>rfl|[],h=>rcases h with h|h<;>simp at h
  |_::_::_,h=>rcases h with h|h<;>simp at h
 ·exact um x ks 0
def flat_get{agg:Bool}{ks:jj}(h:oL agg ks):∀(l:ab)(i j:Nat)(u:Value),i<l.length->(bP agg ks (l.getD i (.i 0)))[j]? =some u->(ag agg ks l)[i*ks.length+j]? =some u
 |[],i,_,_,hi,_=>by simp at hi
 |x::l,0,j,u,_,hu=>by simp only[LD]at hu;have hj:j<(bP agg ks x).length:=(kK.1 hu).1;simp only[ag,AQ,Nz,eG];rw[gA hj];exact hu
 |x::l,i+1,j,u,hi,hu=>by have ih:=flat_get h l i j u (by simpa using hi) (by simpa using hu);simp only[ag,AQ];rw[lR (by rw[cg h];rw[Ac];omega),cg h];rw[show(i+1)*ks.length+j-ks.length=i*ks.length+j by rw[Ac];omega];exact ih
def aD{agg:Bool}{ks:jj}(h:oL agg ks)(l:ab):(ag agg ks l).length=l.length*ks.length:=by
 induction l with|nil=>simp[ag]|cons x l ih=>simp only[ag,AQ,fR,cg h,AM]at ih⊢;rw[ih,Ac];omega
def cF(agg:Bool)(ks:jj)(l m:ab):ag agg ks (l++m)=ag agg ks l++ag agg ks m:=by simp[ag]
def val_one(k:CK)(x:Sc):(k.val x).oneCell'=true:=by
 cases k with
 |sl el=>simp only[CK.val];cases x<;>rfl
 |_=>rfl
def Hi(x:Sc):∀(ks:jj)(n:Nat),∀u∈jD x ks n,u.oneCell'=true
 |[],_,u,h=>by simp[jD]at h
 |k::ks,n,u,h=>by
  simp only[jD,bX]at h;rcases h with rfl|h
  ·exact val_one k _
  ·exact Hi x ks (n+1) u h
def ni(agg:Bool)(ks:jj)(l:ab):∀u∈ag agg ks l,u.oneCell'=true:=by
 intro u h;simp only[ag,xc]at h;obtain⟨x,_,h⟩:=h;unfold bP at h;split at h
 ·exact Hi x _ 0 u h
 ·rename_i k;simp at h;subst h;exact val_one k _
 ·simp at h
end
def dq{agg:Bool}{ks:jj}(h:bF agg ks=true):oL agg ks/\0<ks.length:=by
 unfold bF at h;split at h
 ·cases h
 ·exact⟨.inr rfl,by simp⟩
 ·rename_i h1 h2;refine⟨.inl h,?_⟩;cases ks with
  |nil=>exact absurd rfl h1|cons=>simp
section
variable{P:Program}{B:fZ}{w0:World}{σ:St}{c:Ct}{a:Act}{w:World}{o:Oper}{rd:Rd}
def rJ{z:Int}(h1: -9223372036854775808<=z)(h2:z<9223372036854775808):IntKind.i64.wrap z=z:=by exact IntWalk.i64_in z (by omega)
def av.read(g:av P B w0 σ c a w){r:Nat}{k:Rw}(hr:σ.row r=some k)(iQ:k.hole=none):
 ∃D ad n cap,c.R r=some (.slice ad n cap)/\(k.cont.ev c.ρ).er= .l (dP D)/\D.length=n/\n<=cap/\cap<=maxLen/\(∀x∈D,dR P w (cD B σ c) k.agg k.ks x)/\
  ∀j u,(ag k.agg k.ks D)[j]? =some u->∃p o,ad=some ⟨p,o,none⟩/\w.cell? ⟨p,o+j,none⟩=some u/\(k.own=false->cD B σ c p):=by
 obtain⟨v,e,D,ad,n,cap,rfl,h0,h1,h2,h3,h4,h5,h6⟩:=g.rows r k hr
 refine⟨D,ad,n,cap,e,h0,h1,h2,h3,h6,fun j u hj=> ?_⟩
 cases ho:k.own
 ·obtain⟨p,o,e1,e2,e3⟩:=h5 ho j u hj;exact⟨p,o,e1,e2,fun _=>e3⟩
 ·have DN:n=0->False:=fun hn=>by subst hn;rw[px h1]at hj;simp[ag]at hj
  rcases h4 ho with hz|⟨hw,_⟩
  ·exact(DN (by omega)).elim
  ·have hw:=hw.plain iQ;rcases hw.2 with⟨hv,hn⟩|⟨p,iZ,cur,hv,_,_⟩
   ·exact(DN hn).elim
   ·cases hv
    have:=hw.cells (g:=p) rfl j u hj;have h0:(⟨p,0,none⟩:Addr).add j=⟨p,0+j,none⟩:=by unfold Addr.add;split<;>simp_all
    rw[h0]at this;exact⟨p,0,rfl,this,nofun⟩
def XH{agg:Bool}{ks:jj}(h:oL agg ks)(l:ab)(lo n:Nat)(j:Nat)(u:Value)(hu:(ag agg ks ((l.take (lo+n)).drop lo))[j]? =some u):(ag agg ks l)[lo*ks.length+j]? =some u:=by
 have e:l=l.take lo++((l.take (lo+n)).drop lo++l.drop (lo+n)):=by
  conv=>lhs;rw[<-Qd (lo+n) l]
  have:l.take (lo+n)=l.take lo++(l.take (lo+n)).drop lo:=by
   conv=>lhs;rw[<-Qd lo (l.take (lo+n))]
   rw[take_take,vT (by omega)]
  conv=>lhs;rw[this]
  simp
 by_cases hl:lo<=l.length
 ·rw[e,cF,cF,lR (by rw[aD h];simp[vT hl]),aD h];rw[show lo*ks.length+j-(l.take lo).length*ks.length=j by simp[vT hl]];have hj:=(kK.1 hu).1;rw[gA hj];exact hu
 ·rw[rV (by simp;omega)]at hu;simp[ag]at hu
def eM(g:av P B w0 σ c a w){row:iu}(dz:∀p k,row p=some k->σ.row p=some k){sv:SV}{src:Option (Nat×Rw)}{lo len:Ex}(h:bq row sv=some (src,lo,len)){v:Value}(hv:sv.rel c v):
 ∃ad n cap,v= .slice ad n cap/\(len.ev c.ρ).int=n/\0<=(lo.ev c.ρ).int/\n<=cap/\cap<=maxLen/\((gU sv src lo len).ev c.ρ).list.length=n/\
  match src with
  |none=>n=0/\cap=0/\sv= .at .wz|some (r,k)=>row r=some k/\σ.row r=some k/\k.hole=none/\oL k.agg k.ks/\0<k.ks.length/\(sv= .at (.vec r)\/∃es lo len,sv= .at (.sl r es lo len))/\(lo.ev c.ρ).int+n<=(k.cont.ev c.ρ).list.length/\((gU sv src lo len).ev c.ρ).list=(((k.cont.ev c.ρ).list.take ((lo.ev c.ρ).int.toNat+n)).drop (lo.ev c.ρ).int.toNat)/\(sv= .at (.vec r)->lo= .i 0/\c.R r=some v)/\(0<n->∃p o m iZ,c.R r=some (.slice (some ⟨p,o,none⟩) m iZ)/\m=(k.cont.ev c.ρ).list.length/\ad=some ⟨p,o+(lo.ev c.ρ).int.toNat*k.ks.length,none⟩)/\
    ∃D,((gU sv src lo len).ev c.ρ).er= .l (dP D)/\(∀x∈D,dR P w (cD B σ c) k.agg k.ks x)/\
     ∀j u,(ag k.agg k.ks D)[j]? =some u->∃p o,ad=some ⟨p,o,none⟩/\w.cell? ⟨p,o+j,none⟩=some u/\(k.own=false->cD B σ c p):=by
 rcases sv with(x|cs)|xs|_|_
 case c.g=>simp[bq]at h
 case t=>simp[bq]at h
 case nx=>simp[bq]at h
 case JU=>simp[bq]at h
 cases x<;>try(simp[bq]at h;done)
 case vec r=>
  cases hk:row r with
  |none=>simp[bq,hk]at h|some k=>
   by_cases hf:bF k.agg k.ks=true/\k.plain=true
   ·simp[bq,hk,hf]at h;obtain⟨rfl,rfl,rfl⟩:=h;obtain⟨hf,iQ⟩:=hf;have iQ:=dF iQ;obtain⟨bT,i8⟩:=dq hf;have m5:=dz _ _ hk;obtain⟨D,ad,n,cap,e,h0,h1,h2,h3,h6,h4⟩:=g.read m5 iQ;have DC:=h1;have h1:(k.cont.ev c.ρ).list.length=n:=by rw[<-eU (dh h0)];exact DC
    have e2:c.R r=some v:=hv.1;rw[e]at e2;cases e2;have hc:(gU (.c (.a (.vec r))) (some (r,k)) (.i 0) (jW .len k.cont))=k.cont:=rfl;refine⟨ad,n,cap,rfl,by rw[eJ];simp[U1.ev,Sc.int,h1],by simp[Ex.ev,Sc.int],h2,h3,by rw[hc];exact h1,hk,m5,iQ,bT,i8,.inl rfl,by simp[Ex.ev,Sc.int,h1],?_,fun _=>⟨rfl,e⟩,?_,D,by rw[hc];exact h0,h6,h4⟩
    ·rw[hc];simp[Ex.ev,Sc.int,<-h1]
    ·intro hn;have vP:0<(ag k.agg k.ks D).length:=by rw[aD bT,DC];exact Nat.mul_pos hn i8
     obtain⟨p,o,e1,_⟩:=h4 0 _ (cB vP);exact⟨p,o,n,cap,by rw[e,e1],h1.symm,by simp[e1,Ex.ev,Sc.int]⟩
   ·simp only[bq,hk,aL]at h;rw[aE hf]at h;cases h
 case sl r es YC O0=>
  cases hk:row r with
  |none=>simp[bq,hk]at h|some k=>
   by_cases hf:es=k.ks.length/\bF k.agg k.ks=true/\k.plain=true
   ·simp[bq,hk,hf]at h;obtain⟨rfl,Cq,hlen⟩:=h;obtain rfl:lo=YC:=Cq.symm;obtain rfl:len=O0:=hlen.symm;obtain⟨rfl,hf,iQ⟩:=hf;have iQ:=dF iQ;obtain⟨bT,i8⟩:=dq hf;have m5:=dz _ _ hk;obtain⟨D,ad,n,cap,e,h0,h1,h2,h3,h6,h4⟩:=g.read m5 iQ;have DC:=h1;have h1:(k.cont.ev c.ρ).list.length=n:=by rw[<-eU (dh h0)];exact DC
    obtain⟨a1,n1,akZ,a',iZ,q1,rfl,q2,q3,q4,q5,q6,q7⟩:=hv;rw[e]at q1;cases q1;have XT:IntKind.i64.wrap ((lo.ev c.ρ).int+(len.ev c.ρ).int)=(lo.ev c.ρ).int+(len.ev c.ρ).int:=rJ (by omega) (by simp only[maxLen]at h3;omega);have hL:((gU (.c (.a (.sl r k.ks.length lo len))) (some (r,k)) lo len).ev c.ρ).list=(((k.cont.ev c.ρ).list.take ((lo.ev c.ρ).int.toNat+(len.ev c.ρ).int.toNat)).drop (lo.ev c.ρ).int.toNat):=by simp only[gU,qE,aR,U3.ev,U2.ev,Sc.Ib,Sc.KQ];rw[XT,toNat_add q2 q3]
    refine⟨a',(len.ev c.ρ).int.toNat,iZ,rfl,by omega,q2,by omega,q6,?_,hk,m5,iQ,bT,i8,.inr ⟨_,_,_,rfl⟩,by omega,hL,(nofun),?_,(D.take ((lo.ev c.ρ).int.toNat+(len.ev c.ρ).int.toNat)).drop (lo.ev c.ρ).int.toNat,?_,fun x hx=>h6 x (vS (xB hx)),?_⟩
    ·rw[hL];simp;omega
    ·intro hn;obtain⟨p,o,e1,e2⟩:=q7 (by omega);exact⟨p,o,n,cap,by rw[e,e1],h1.symm,e2⟩
    ·have hS:(gU (.c (.a (.sl r k.ks.length lo len))) (some (r,k)) lo len).ev c.ρ= .l (((gU (.c (.a (.sl r k.ks.length lo len))) (some (r,k)) lo len).ev c.ρ).list):=rfl;rw[hS,hL,gh,pK,pM,<-dh h0,pK,pM]
    ·intro j u hu;have Tq:=XH bT _ _ _ _ _ hu;obtain⟨p,o,e1,e2,e3⟩:=h4 _ _ Tq;have hn:0<(len.ev c.ρ).int:=by
      rcases Int.lt_or_le 0 (len.ev c.ρ).int with h|h
      ·exact h
      ·have:(len.ev c.ρ).int.toNat=0:=by omega
       rw[this,pA,rV (by rw[iW];omega)]at hu;simp[ag]at hu
     obtain⟨p',o',f1,f2⟩:=q7 hn;rw[e1]at f1;cases f1;exact⟨p,_,f2,by rw[td];exact e2,e3⟩
   ·simp only[bq,hk]at h;rw[aE hf]at h;cases h
 case wz=>
  simp[bq]at h;obtain⟨rfl,rfl,rfl⟩:=h;obtain⟨ad,rfl⟩:=hv;exact⟨ad,0,0,rfl,rfl,by simp[Ex.ev,Sc.int],aX _,by simp[maxLen],rfl,rfl,rfl,rfl⟩
end
def oU(P:Program)(pl:ip):Prop:=∀t,iC pl t=true->P.stoodInHeld t=false/\P.eqGuardType P.depth t=false
section
variable{P:Program}{c:Ct}{w:World}{pl:ip}
def Ll{sv:SV}{x:SC}(h:sv.sc=some x){v:Value}(hv:sv.rel c v):x.rel c v:=by
 cases sv with|c y=>simp[SV.sc]at h;subst h;exact hv|t _=>simp[SV.sc]at h|nx _ _ _=>simp[SV.sc]at h|JU _ _=>simp[SV.sc]at h
def Of(iQ:oU P pl):∀(d D:Nat)(ty:TypeId)(x y:SC)(e:Ex)(vx vy:Value),d<=D->Xv P pl d ty x y=some e->x.rel c vx->y.rel c vy->(Op.equalIn D ty vx vy).run P w= .ok (e.ev c.ρ).bool w:=by
 intro d;induction d with
 |zero=>intro D ty x y e vx vy _ h;simp[Xv]at h|succ d ih=>
  intro D ty x y e vx vy hD h hx hy;obtain⟨D,rfl⟩:∃D',D=D'+1:=⟨D-1,by omega⟩;unfold Xv at h;split at h
  ·rename_i k0 k p k' q hu;split at h
   ·rename_i hk;subst hk;cases h
    have e1:vx= .int k (p.ev c.ρ).int:=hx;have e2:vy= .int k (q.ev c.ρ).int:=hy;subst e1 e2;rw[run_equalIn_int w D ty k k0 _ _ hu,aR];rfl
   ·cases h
  ·rename_i p q hu;cases h
   have e1:vx= .bool (p.ev c.ρ).bool:=hx;have e2:vy= .bool (q.ev c.ρ).bool:=hy;subst e1 e2;rw[run_equalIn_bool' w D ty _ _ hu,aR];rfl
  ·rename_i p q hu;cases h
   have e1:vx= .string (p.ev c.ρ).str:=hx;have e2:vy= .string (q.ev c.ρ).str:=hy;subst e1 e2;rw[run_equalIn_string w D ty _ _ hu,aR];rfl
  ·rename_i fs xs ys hu;split at h
   ·cases h
   ·rename_i hp;obtain⟨us,rfl,uL⟩:=hx;obtain⟨vs,rfl,hys⟩:=hy;have hfs:P.fieldsOf ty=fs:=by simp[Program.fieldsOf,hu]
    rw[run_equalIn_struct w D ty us.toArray vs.toArray (by rw[hfs];exact hu) (iQ ty (by simpa using hp)).1,hfs];generalize fs.toList=l at h;clear hu hfs;induction l generalizing e with
    |nil=>simp at h;subst h;rfl|cons f l ihl=>
     simp only[foldr_cons]at h;split at h
     ·cases h
     ·rename_i aen;split at h
      ·rename_i r p q h1 h2 h3;split at h
       ·rename_i e2 h4;cases h
        obtain⟨sp,hp1,Ti⟩:=AL.1 h2;obtain⟨sq,hq1,Tj⟩:=AL.1 h3;obtain⟨vp,rp,rp2⟩:=CM hp1 uL w;obtain⟨vq,rq,rq2⟩:=CM hq1 hys w;have:=ih D f.type p q e2 vp vq (by omega) h4 (Ll Ti rp2) (Ll Tj rq2);have hl:=ihl r h1;rw[aR];cases hb:(e2.ev c.ρ).bool
        ·simp[Op.eqFields,aen,rp,rq,this,hb,U2.ev]
        ·simp[Op.eqFields,aen,rp,rq,this,hb,U2.ev,hl]
       ·cases h
      ·cases h
  ·cases h
def RY(iQ:oU P pl){op:BinOp}{ty:TypeId}{x y:SV}{r:dl}(h:RX P pl op ty x y=some r){vx vy:Value}(hx:x.rel c vx)(hy:y.rel c vy)(hn:∀e∈r.eZ,(e.ev c.ρ).bool=true)(ox oy:Operand):
 r=⟨r.eZ,none,r.val,[],[],[],[]⟩/\∃v,(do eqGuard op ty ox oy vx vy;binOp op ty vx vy:Sem Value).run P w= .ok v w/\r.val.rel c v:=by
 unfold RX at h
 split at h
 ·rename_i k p k' q;have e1:vx= .int k (p.ev c.ρ).int:=hx;have e2:vy= .int k' (q.ev c.ρ).int:=hy;subst e1 e2;by_cases hk:k=k'
  ·subst hk;cases op
   case quo=>
    simp only[↓reduceIte]at h;cases h;refine⟨rfl,?_⟩;have h0:=hn _ (cw.2 rfl);rw[aR]at h0;have h0:(q.ev c.ρ).int≠0:=by simpa[U2.ev,Ex.ev]using h0
    exact⟨_,by simp[eqGuard,binOp,Op.intDiv,h0];rfl,by show _=_;rw[aR];rfl⟩
   case rem=>
    simp only[↓reduceIte]at h;cases h;refine⟨rfl,?_⟩;have h0:=hn _ (cw.2 rfl);rw[aR]at h0;have h0:(q.ev c.ρ).int≠0:=by simpa[U2.ev,Ex.ev]using h0
    exact⟨_,by simp[eqGuard,binOp,Op.intDiv,h0];rfl,by show _=_;rw[aR];rfl⟩
   case shl=>
    simp only at h;cases h;refine⟨rfl,?_⟩;have h0:=hn _ (cw.2 rfl);rw[aR]at h0;have h0:¬(q.ev c.ρ).int<0:=by have:(0:Int)<=(q.ev c.ρ).int:=fv h0;omega
    exact⟨_,by simp only[eqGuard,binOp,Op.shift,h0];rfl,by show _=_;rw[aR];rfl⟩
   case shr=>
    simp only at h;cases h;refine⟨rfl,?_⟩;have h0:=hn _ (cw.2 rfl);rw[aR]at h0;have h0:¬(q.ev c.ρ).int<0:=by have:(0:Int)<=(q.ev c.ρ).int:=fv h0;omega
    exact⟨_,by simp only[eqGuard,binOp,Op.shift,h0];rfl,by show _=_;rw[aR];rfl⟩
   case andNot=>
    simp only[↓reduceIte]at h;cases h;refine⟨rfl,?_⟩;exact⟨_,by simp[eqGuard,binOp,Op.intBits];rfl,by show _=_;rw[aR];simp[U2.ev]⟩
   all_goals
    simp only[↓reduceIte]at h
    first
     |(cases h;done)
     |(cases h;refine⟨rfl,?_⟩;exact⟨_,by simp[eqGuard,binOp,Op.intArith,Op.intBits,Op.intCmp];rfl,by show _=_;rw[aR];rfl⟩)
  ·cases op
   case shl=>
    simp only at h;cases h;refine⟨rfl,?_⟩;have h0:=hn _ (cw.2 rfl);rw[aR]at h0;have h0:¬(q.ev c.ρ).int<0:=by have:(0:Int)<=(q.ev c.ρ).int:=fv h0;omega
    exact⟨_,by simp only[eqGuard,binOp,Op.shift,h0];rfl,by show _=_;rw[aR];rfl⟩
   case shr=>
    simp only at h;cases h;refine⟨rfl,?_⟩;have h0:=hn _ (cw.2 rfl);rw[aR]at h0;have h0:¬(q.ev c.ρ).int<0:=by have:(0:Int)<=(q.ev c.ρ).int:=fv h0;omega
    exact⟨_,by simp only[eqGuard,binOp,Op.shift,h0];rfl,by show _=_;rw[aR];rfl⟩
   all_goals(simp only[hk,↓reduceIte]at h;cases h)
 ·rename_i p q;have e1:vx= .string (p.ev c.ρ).str:=hx;have e2:vy= .string (q.ev c.ρ).str:=hy;subst e1 e2;cases op
  case add=>
   simp only at h;cases h;refine⟨rfl,?_⟩;have h0:=hn _ (cw.2 rfl);rw[aR]at h0;have h0:¬(9223372036854775807:Int)<(((p.ev c.ρ).str.size:Int)+((q.ev c.ρ).str.size:Int)):=by
    have:(((p.ev c.ρ).str++(q.ev c.ρ).str).size:Int)<=9223372036854775807:=by simpa[U2.ev,U1.ev,Ex.ev,aR]using h0
    rw[ByteArray.size_append]at this;omega
   have hm:IntKind.i64.max=9223372036854775807:=by decide
   exact⟨_,by simp[eqGuard,binOp,Op.stringOp,hm,h0];rfl,by show _=_;rw[aR];rfl⟩
  case eql=>simp only at h;cases h;exact⟨rfl,_,by simp[eqGuard,binOp,Op.stringOp];rfl,by show _=_;rw[aR];simp[U2.ev]⟩
  case neq=>simp only at h;cases h;exact⟨rfl,_,by simp[eqGuard,binOp,Op.stringOp];rfl,by show _=_;rw[eJ,aR];simp[U2.ev,U1.ev]⟩
  all_goals(simp only at h;cases h)
 ·rename_i p q;have e1:vx= .bool (p.ev c.ρ).bool:=hx;have e2:vy= .bool (q.ev c.ρ).bool:=hy;subst e1 e2;split at h
  ·rename_i hu;cases h
   exact⟨rfl,_,by simp[eqGuard,binOp,Op.equal,Op.maxDepth,run_equalIn_bool' w 9999 ty _ _ hu];rfl,by show _=_;rw[aR];rfl⟩
  ·rename_i hu;cases h
   exact⟨rfl,_,by simp[eqGuard,binOp,Op.equal,Op.maxDepth,run_equalIn_bool' w 9999 ty _ _ hu];rfl,by show _=_;rw[eJ,aR];rfl⟩
  ·cases h
 ·rename_i xs ys;split at h
  ·cases h
  ·rename_i hp;have hg:=(iQ ty (by simpa using hp)).2;split at h
   ·rename_i e he;cases h
    have:=Of (w:=w) iQ 4 10000 ty _ _ e vx vy (by omega) he hx hy;obtain⟨us,rfl,_⟩:=hx;obtain⟨vs,rfl,_⟩:=hy;exact⟨rfl,.bool (e.ev c.ρ).bool,by simp[run_eqGuard_agg w .eql ty ox oy _ _ hg,run_eql_struct,this],rfl⟩
   ·rename_i e he;cases h
    have:=Of (w:=w) iQ 4 10000 ty _ _ e vx vy (by omega) he hx hy;obtain⟨us,rfl,_⟩:=hx;obtain⟨vs,rfl,_⟩:=hy;exact⟨rfl,.bool !(e.ev c.ρ).bool,by simp[run_eqGuard_agg w .neq ty ox oy _ _ hg,run_neq_struct,this],by show _=_;rw[eJ];rfl⟩
   ·cases h
 ·cases h
end
section
variable{P:Program}{B:fZ}{w0:World}{σ:St}{c:Ct}{a:Act}{w:World}{o:Oper}{rd:Rd}
def KW{x:At}{u:Value}(hk:x.known=true)(hr:x.rel c u):u.oneCell'=true:=by
 cases x<;>simp only[At.known,At.rel]at hk hr
 case top=>cases hk
 case int=>subst hr;rfl
 case bool=>subst hr;rfl
 case str=>subst hr;rfl
 case ptr=>obtain⟨n,_,rfl⟩:=hr;rfl
 case J3=>obtain⟨_,_,_,_,_,_,_,rfl⟩:=hr;rfl
 case VB=>subst hr;rfl
 case vec=>obtain⟨_,_,_,_,rfl⟩:=hr;rfl
 case sl=>obtain⟨_,_,_,_,_,_,rfl,_⟩:=hr;rfl
 case clip=>obtain⟨_,_,_,_,_,rfl,_⟩:=hr;rfl
 case wz=>obtain⟨_,rfl⟩:=hr;rfl
 case fn=>obtain⟨_,_,rfl⟩:=hr;rfl
 case keys=>cases hk
 case Zr=>subst hr;rfl
 case Zq=>subst hr;rfl
 case mp=>obtain⟨_,_,rfl⟩:=hr;rfl
 case bs=>obtain⟨_,_,_,rfl⟩:=hr;rfl
 case fb=>obtain⟨_,_,rfl⟩:=hr;rfl
 case sp=>rcases hr with rfl|⟨_,_,rfl⟩<;>rfl
def Mz:∀{xs:eO}{vs:aW},xs.all At.known=true->cm c xs vs->∀u∈vs,u.oneCell'=true
 |[],[],_,_,_,h=>by cases h
 |x::xs,v::vs,hk,hr,u,h=>by
  simp only[wZ,aL]at hk;rcases bX.1 h with rfl|h
  ·exact KW hk.1 hr.1
  ·exact Mz hk.2 hr.2 u h
 |[],_::_,_,hr,_,_=>hr.elim|_::_,[],_,hr,_,_=>hr.elim
def VE{v:Value}(h:v.oneCell'=true):v.cells= #[v]:=by cases v<;>first|rfl|cases h
def nF{sv:SV}{cs:eO}(h:sv.cells=some cs)(hk:cs.all At.known=true){v:Value}(hv:sv.rel c v):∃vs:aW,v.cells=vs.toArray/\cm c cs vs:=by
 rcases sv with(x|xs)|xs|_|_
 ·simp[SV.cells]at h;subst h;simp only[wZ,aL]at hk;exact⟨[v],VE (KW hk.1 hv),hv,trivial⟩
 ·simp[SV.cells]at h;subst h;obtain⟨vs,rfl,hr⟩:=hv;exact⟨vs,rfl,hr⟩
 ·simp[SV.cells]at h
 ·simp[SV.cells]at h
 ·simp[SV.cells]at h
def tZ:∀{cs xs ys:eO}{off:Nat}{vs us:aW},nD cs off xs=some ys->cm c cs vs->cm c xs us->cm c ys (vs.take off++us++vs.drop (off+us.length))/\off+us.length<=vs.length
 |cs,[],ys,0,vs,us,h,hc,hx=>by
  cases us with
  |nil=>cases cs<;>simp[nD]at h<;>subst h<;>simpa using hc
  |cons=>exact hx.elim
 |[],_::_,_,0,_,_,h,_,_=>by simp[nD]at h
 |[],xs,_,n+1,_,_,h,_,_=>by simp[nD]at h
 |x::cs,y::xs,ys,0,vs,us,h,hc,hx=>by
  match vs,us,hc,hx with
  |v::vs,u::us,hc,hx=>
   simp only[nD,nW]at h;obtain⟨zs,h1,rfl⟩:=h;have:=tZ h1 hc.2 hx.2;simp only[take_zero,rU,eG,AM,Fe,drop_succ_cons]at this⊢;exact⟨⟨hx.1,this.1⟩,by omega⟩
 |x::cs,xs,ys,n+1,vs,us,h,hc,hx=>by
  match vs,hc with
  |v::vs,hc=>
   simp only[nD,nW]at h;obtain⟨zs,h1,rfl⟩:=h;have:=tZ h1 hc.2 hx;simp only[take_succ_cons,Fe,AM];rw[show n+1+us.length=(n+us.length)+1 by omega,drop_succ_cons];exact⟨⟨hc.1,this.1⟩,by omega⟩
def aak(g:av P B w0 σ c a w){ty:TypeId}{x y:Operand}(ho:o.op= .store ty x y){p off:Nat}{k:Bk}(hx:(At.ptr p off).rel c (a.eval x))(hk:σ.blk p=some k)(JQ:k.kd=0){sv:SV}{xs:eO}(uL:sv.cells=some xs)(JR:xs.all At.known=true)(hy:sv.rel c (a.eval y))(hn:gO P ty=some xs.length){cs:eO}(hc:nD k.cells off xs=some cs):
 cd P B w0 σ c a w o ⟨[],none,.t [],[(p,some ⟨cs,k.ty,0⟩)],[],[],[]⟩:=by
 obtain⟨n,hb,hx⟩:=hx
 obtain⟨n',vs,e,h1,h2,h3⟩:=g.au p k hk
 rw[hb]at e;cases e
 rw[dJ JQ]at h2
 obtain⟨us,hu,hr⟩:=nF uL JR hy
 obtain⟨hz,hle⟩:=tZ hc h3 hr
 have Q7:=Mz JR hr
 have fC:=run_storeCells_at P n off k.ty us 0 vs.toArray w h2 (by simpa using hle) Q7
 simp only[pA]at fC
 refine⟨.skip,_,undef,c,?_,.inr ⟨rfl,rfl⟩,.refl c,fun _ _=>rfl,fun _ _=>rfl,⟨[],rfl,trivial⟩,g.store (ty:=k.ty) (kd:=0) hk hb hz (w':=w.setRow n (vs.take off++us++vs.drop (off+us.length)).toArray) ?_ ?_ ?_ ?_⟩
 ·have hlen:us.length=xs.length:=nw hr;simp[execOp,ho,Instr.storeAt,hx,Instr.sureAddr,storeVar,cj hn,hu,hlen,fC]
 ·refine⟨g.below.os,g.below.tape,g.below.output,bI g.below.size (by simp[World.setRow]),fun j hj hx=> ?_⟩;rw[setRow_other w n j _ (fun e=>by
   rcases h1 with h|h
   ·omega
   ·exact hx (e▸h))]
  exact g.below.block j hj hx
 ·simp[World.setRow]
 ·rw[dJ rfl];exact setRow_heap w n _ _ _ _ h2
 ·intro m hm;exact setRow_other w n m _ hm
def WS(g:av P B w0 σ c a w){p:Nat}(hp:c.β p=none){ty:TypeId}{cs:eO}{vs:aW}(hr:cm c cs vs)(he:(execOp a.eval o).run P w= .ok (.value (.pointer (some ⟨w.heap.size,0,none⟩))) (w.alloc (.cells vs.toArray ty))):
 cd P B w0 σ c a w o ⟨[],none,.at (.ptr p 0),[(p,some ⟨cs,ty,0⟩)],[],[p],[]⟩:=by
 have hle:c.le {c with β:=fun i=>if i=p then some w.heap.size else c.β i}:=⟨rfl,rfl,fun i n e=>by
  by_cases h:i=p
  ·subst h;rw[hp]at e;cases e
  ·simp[h,e],fun _ _ e=>e⟩
 exact⟨_,_,_,_,he,.inl rfl,hle,fun i hi=>by simp at hi;simp[hi],fun _ _=>rfl,⟨_,by simp,rfl⟩,g.alloc hp (k:=⟨cs,ty,0⟩) hr⟩
def Ze(g:av P B w0 σ c a w){ty:TypeId}{x:Operand}(ho:o.op= .load ty x){p off:Nat}{k:Bk}(hx:(At.ptr p off).rel c (a.eval x))(hk:σ.blk p=some k)(JQ:k.kd=0){sv:SV}(hs:yO P ty k.cells off=some sv):
 cd P B w0 σ c a w o (dl.pure sv):=by
 obtain⟨n,hb,hx⟩:=hx
 obtain⟨n',vs,e,h1,h2,h3⟩:=g.au p k hk
 rw[hb]at e;cases e
 rw[dJ JQ]at h2
 obtain⟨v,hv,hr⟩:=EU (P:=P) (base:=0) hs h3 (n:=n) (w:=w) (fun j u hj=>by have:=cell_of_row w n (0+j) vs.toArray k.ty (0,0) h2;rw[this];simpa using hj)
 rw[eG]at hv
 exact cd.quiet g (by simp[execOp,ho,Instr.loadAt,hx,Instr.sureAddr,hv]) hr
def jk(P:Program)(w:World)(ok:dg):AS->Value->Sc->Prop
 | .ck k,v,x=>∃d,d.er=x.er/\v=k.val d/\Fits P w ok k d
def vX{w w':World}{ok ok':dg}(h:∀p o u,ok p->w.cell? ⟨p,o,none⟩=some u->ok' p/\w'.cell? ⟨p,o,none⟩=some u){s:AS}{v:Value}{x:Sc}(hr:jk P w ok s v x):jk P w' ok' s v x:=by
 cases s with
 |ck k=>obtain⟨d,h1,h2,h3⟩:=hr;exact⟨d,h1,h2,h3.mono h⟩
def lB(P:Program)(w:World)(ok:dg)(ρ:ab):List (AS×Ex)->aW->Prop
 |[],[]=>True|p::ps,v::vs=>jk P w ok p.1 v (p.2.ev ρ)/\lB P w ok ρ ps vs|_,_=>False
structure Ext(σ σ':St)(c c':Ct):Prop where
 le:c.le c'
 owns:∀x p,σ'.owns c' x p->σ.owns c x p
def bg:∀(l:List (Option Rw))(r s:cv),ai l (r++s)=ai (ai l r) s
 |_,[],_=>rfl|l,(i,v)::r,s=>bg (bU none l i v) r s
def Bh(nr:Nat)(e:Ex)(k:CK):nr<=(sF P nr e k).2.2/\∀i,i∈(sF P nr e k).2.1.map (·.1)↔nr<=i/\i<(sF P nr e k).2.2:=by
 unfold sF;split
 ·split
  ·exact⟨le_succ _,fun i=>by first|(simp;omega)|simp⟩
  ·exact⟨aX _,fun i=>by first|(simp;omega)|simp⟩
 ·exact⟨aX _,fun i=>by first|(simp;omega)|simp⟩
def wC(nr:Nat)(e:Ex)(s:AS):nr<=(jK P nr e s).2.2/\∀i,i∈(jK P nr e s).2.1.map (·.1)↔nr<=i/\i<(jK P nr e s).2.2:=by
 cases s with|ck k=>exact Bh nr e k
def kp:∀(ps:List (AS×Ex))(nr:Nat),nr<=(de P nr ps).2.2/\∀i,i∈(de P nr ps).2.1.map (·.1)↔nr<=i/\i<(de P nr ps).2.2
 |[],nr=>⟨aX _,fun i=>by simp[de]⟩|(s,e)::ps,nr=>by have h1:=wC (P:=P) nr e s;have h2:=kp ps (jK P nr e s).2.2;refine⟨bI h1.1 h2.1,fun i=> ?_⟩;show i∈((jK P nr e s).2.1++(de P (jK P nr e s).2.2 ps).2.1).map (·.1)↔nr<=i/\i<(de P (jK P nr e s).2.2 ps).2.2;rw[BP,ic,h1.2,h2.2];have:=h1.1;have:=h2.1;omega
def ID(g:av P B w0 σ c a w){ok:dg}(bT:∀p,ok p->cD B σ c p){e:Ex}{nr:Nat}{el:TypeId}{agg:Bool}{ks:jj}{D:ab}{ad:Option Addr}{n cap:Nat}(hD:(e.ev c.ρ).er= .l (dP D))(hl:D.length=n)(hc:n<=cap)(hm:cap<=maxLen)(hcell:∀j u,(ag agg ks D)[j]? =some u->∃p o,ad=some ⟨p,o,none⟩/\w.cell? ⟨p,o+j,none⟩=some u/\ok p)(mZ:∀x∈D,dR P w ok agg ks x)(hR:c.R nr=none):
 ∃c',c'.β=c.β/\(∀i,i≠nr->c'.R i=c.R i)/\(At.vec nr).rel c' (.slice ad n cap)/\av P B w0 {σ with rows:=bU none σ.rows nr (some ⟨el,ks,agg,e,false,none⟩)} c' a w/\Ext σ {σ with rows:=bU none σ.rows nr (some ⟨el,ks,agg,e,false,none⟩)} c c':=by
 have gg:=g.newRow (w':=w) g.below (aX _) (fun _ _=>rfl) hR (k:=⟨el,ks,agg,e,false,none⟩) rfl (D:=D) (ad:=ad) (n:=n) (cap:=cap) hD hl hc hm (nofun) (fun _ j u hj=>by obtain⟨p,o,e1,e2,e3⟩:=hcell j u hj;exact⟨p,o,e1,e2,bT p e3⟩) (fun x hx i k hk=>(mZ x hx i k hk).mono fun p o u hp hu=>⟨bT p hp,hu⟩)
 refine⟨{c with R:=fun i=>if i=nr then some (.slice ad n cap)else c.R i},rfl,fun i hi=>by simp[hi],⟨by simp,ad,n,cap,rfl⟩,gg,⟨rfl,rfl,fun _ _ e=>e,fun i u e=> ?_⟩,?_⟩
 ·by_cases h:i=nr
  ·subst h;rw[hR]at e;cases e
  ·simp[h,e]
 ·rintro⟨t,q⟩ p h;cases t
  ·exact h
  ·obtain⟨⟨k',fK,ho⟩,u,hu,hp⟩:=h;have fK:(bU none σ.rows nr (some ⟨el,ks,agg,e,false,none⟩)).getD q none=some k':=fK;rw[ik]at fK;by_cases hq:q=nr
   ·rw[aA hq]at fK;cases fK;cases ho
   ·rw[aE hq]at fK;simp[hq]at hu;exact⟨⟨k',fK,ho⟩,u,hu,hp⟩
def wD(g:av P B w0 σ c a w){ok:dg}(bT:∀p,ok p->cD B σ c p){s:AS}{e:Ex}{nr:Nat}{v:Value}(hr:jk P w ok s v (e.ev c.ρ))(hR:∀i,nr<=i->i<(jK P nr e s).2.2->c.R i=none):
 ∃c',c'.β=c.β/\(∀i,i<nr\/(jK P nr e s).2.2<=i->c'.R i=c.R i)/\(jK P nr e s).1.rel c' v/\av P B w0 {σ with rows:=ai σ.rows (jK P nr e s).2.1} c' a w/\
  Ext σ {σ with rows:=ai σ.rows (jK P nr e s).2.1} c c':=by
 cases s with
 |ck k=>
  obtain⟨d,hd,rfl,hf⟩:=hr;have flat:(∀el,k≠.sl el)->jK P nr e (.ck k)=(agt k e,[],nr):=fun hk=>by
   simp only[jK];unfold sF;split
   ·exact absurd rfl (hk _)
   ·rfl
  cases hf with
  |int k x=>rw[flat (nofun)];exact⟨c,rfl,fun _ _=>rfl,G2 (k:= .int k) hd,g,.refl c,fun _ _ h=>h⟩|bool x=>rw[flat (nofun)];exact⟨c,rfl,fun _ _=>rfl,G2 (k:= .bool) hd,g,.refl c,fun _ _ h=>h⟩|str x=>rw[flat (nofun)];exact⟨c,rfl,fun _ _=>rfl,G2 (k:= .str) hd,g,.refl c,fun _ _ h=>h⟩| @sl el agg ks ad n cap xs hT hl hc hm hcell mZ=>
    have hE:jK P nr e (.ck (.sl el))=(.vec nr,[(nr,some ⟨el,ks,agg,e,false,none⟩)],nr+1):=by simp only[jK,sF,hT]
    rw[hE]at hR⊢;have hD:(e.ev c.ρ).er= .l (dP xs):=by rw[<-hd,ale]
    obtain⟨c',h1,h2,h3,h4,h5⟩:=ID g bT (el:=el) hD hl hc hm hcell mZ (hR nr (aX _) (lt_succ_self _));exact⟨c',h1,fun i hi=>h2 i (by simp only at hi;omega),h3,h4,h5⟩
def oM:∀{ps:List (AS×Ex)}{σ:St}{c:Ct}{nr:Nat}{vs:aW}{ok:dg},av P B w0 σ c a w->(∀p,ok p->cD B σ c p)->lB P w ok c.ρ ps vs->(∀i,nr<=i->i<(de P nr ps).2.2->c.R i=none)->∃c',c'.β=c.β/\(∀i,i<nr\/(de P nr ps).2.2<=i->c'.R i=c.R i)/\cm c' (de P nr ps).1 vs/\av P B w0 {σ with rows:=ai σ.rows (de P nr ps).2.1} c' a w/\Ext σ {σ with rows:=ai σ.rows (de P nr ps).2.1} c c'
 |[],σ,c,nr,[],ok,g,_,_,_=>⟨c,rfl,fun _ _=>rfl,trivial,g,.refl c,fun _ _ h=>h⟩|(s,e)::ps,σ,c,nr,v::vs,ok,g,bT,hr,hR=>by
  have m1:=(wC (P:=P) nr e s).1;have m2:=(kp (P:=P) ps (jK P nr e s).2.2).1;have xR:∀i,nr<=i->i<(de P (jK P nr e s).2.2 ps).2.2->c.R i=none:=hR;obtain⟨c1,a1,a2,a3,a4,a5⟩:=wD (s:=s) (e:=e) g bT (nr:=nr) hr.1 (fun i h1 h2=>xR i h1 (by omega));obtain⟨c2,d1,d2,d3,d4,d5⟩:=oM (ps:=ps) (nr:=(jK P nr e s).2.2) (vs:=vs) (ok:=ok) a4
   (fun p hp=>⟨fun x hx=>(bT p hp).1 x (a5.owns x p hx),by rw[a5.le.K];exact(bT p hp).2⟩) (by rw[a5.le.ρ];exact hr.2) (fun i h1 h2=>by rw[a2 i (.inr h1)];exact xR i (by omega) h2)
  refine⟨c2,d1.trans a1,fun i hi=> ?_,⟨At.kv d5.le a3,d3⟩,?_,a5.le.trans d5.le,fun x p h=>a5.owns x p (d5.owns x p ?_)⟩
  ·have EO:i<nr\/(de P (jK P nr e s).2.2 ps).2.2<=i:=hi;rw[d2 i (by omega),a2 i (by omega)]
  ·simp only[de];rw[bg];exact d4
  ·simp only[de]at h;rw[bg]at h;exact h
 |[],_,_,_,_::_,_,_,_,hr,_=>hr.elim|_::_,_,_,_,[],_,_,_,hr,_=>hr.elim
def I0{α:Type}:∀{xs:List α}{off n:Nat}{ys:List α},nG xs off n=some ys->ys=(xs.drop off).take n/\off+n<=xs.length
 |xs,0,0,ys,h=>by simp[nG]at h;subst h;simp
 |[],0,n+1,ys,h=>by simp[nG]at h
 |[],o+1,n,ys,h=>by simp[nG]at h
 |x::xs,0,n+1,ys,h=>by simp only[nG,nW]at h;obtain⟨zs,h1,rfl⟩:=h;obtain⟨e,hl⟩:=I0 h1;simp only[Ki]at e;exact⟨by simp[e],by simp;omega⟩
 |x::xs,o+1,n,ys,h=>by simp only[nG]at h;obtain⟨e,hl⟩:=I0 h;exact⟨by simp[e],by simp;omega⟩
def GR{ok:dg}{ρ:ab}:∀{ps:List (AS×Ex)}{vs:aW},lB P w ok ρ ps vs->vs.length=ps.length
 |[],[],_=>rfl|_::_,_::_,h=>by simp[GR h.2]
 |[],_::_,h=>h.elim|_::_,[],h=>h.elim
def Es{ok:dg}{ρ:ab}:∀{ps:List (AS×Ex)}{vs:aW}(n:Nat),lB P w ok ρ ps vs->lB P w ok ρ (ps.drop n) (vs.drop n)
 |ps,vs,0,h=>by simpa using h
 |[],[],n+1,_=>by simp[lB]
 |_::_,_::_,n+1,h=>by simpa using Es n h.2
 |[],_::_,_+1,h=>h.elim|_::_,[],_+1,h=>h.elim
def Et{ok:dg}{ρ:ab}:∀{ps:List (AS×Ex)}{vs:aW}(n:Nat),lB P w ok ρ ps vs->lB P w ok ρ (ps.take n) (vs.take n)
 |ps,vs,0,h=>by simp[lB]
 |[],[],n+1,_=>by simp[lB]
 |_::_,_::_,n+1,h=>by simpa[lB]using⟨h.1,Et n h.2⟩
 |[],_::_,_+1,h=>h.elim|_::_,[],_+1,h=>h.elim
def AV{ok:dg}{ρ:ab}:∀{ps:List (AS×Ex)}{vs:aW}{n:Nat}{p:AS×Ex},lB P w ok ρ ps vs->ps[n]? =some p->∃v,vs[n]? =some v/\jk P w ok p.1 v (p.2.ev ρ)
 |_::_,v::_,0,_,h,e=>⟨v,rfl,by simp at e;exact e▸h.1⟩|_::_,_::_,n+1,_,h,e=>by simpa using AV (n:=n) h.2 (by simpa using e)
 |[],_,_,_,_,e=>by simp at e
 |_::_,[],_,_,h,_=>h.elim
def Bl{ok:dg}{ρ:ab}{e:Ex}{d:Sc}(hd:dP d.list=dP (e.ev ρ).list):∀(ks:jj)(n:Nat),(∀i k,ks[i]? =some k->Fits P w ok k (d.list.getD (n+i) (.i 0)))->lB P w ok ρ ((nu e ks n).map fun p=>(AS.ck p.1,p.2)) (jD d ks n)
 |[],_,_=>trivial|k::ks,n,h=>by
  refine⟨⟨d.list.getD n (.i 0),?_,rfl,by simpa using h 0 k rfl⟩,Bl hd ks (n+1) fun i k hk=>by have:=h (i+1) k (by simpa using hk);rw[show n+1+i=n+(i+1)by omega];exact this⟩
  show _=((jW (.cell n) e).ev ρ).er;rw[eJ];exact FY hd n
def Pf{ok:dg}{ρ:ab}{e:Ex}{d:Sc}(hd:d.er=(e.ev ρ).er)(agg:Bool)(ks:jj)(h:dR P w ok agg ks d):
 lB P w ok ρ ((CL agg ks e).map fun p=>(AS.ck p.1,p.2)) (bP agg ks d):=by
 unfold CL bP
 cases agg
 ·match ks,h with
  |[],_=>trivial|[k],h=>exact⟨⟨d,hd,rfl,h 0 k rfl⟩,trivial⟩|_::_::_,_=>trivial
 ·have:=congrArg Sc.list hd;rw[wg,wg]at this;exact Bl this ks 0 fun i k hk=>by simpa[Ey]using h i k hk
def O3{ty:TypeId}{vs:aW}{n base off m:Nat}(h1:i9 P ty=some true)(h2:gO P ty=some m)(hl:((vs.drop off).take m).length=m)(hc:∀j v,vs[j]? =some v->w.cell? ⟨n,base+j,none⟩=some v):
 (loadVar ty ⟨n,base+off,none⟩).run P w= .ok (.agg ((vs.drop off).take m).toArray) w:=by
 have hl2:(loadCells ⟨n,base+off,none⟩ m).run P w= .ok ((vs.drop off).take m).toArray w:=by
  have:=run_loadCells_list (P:=P) w ⟨n,base+off,none⟩ ((vs.drop off).take m) (fun j v hv=>by
   rw[qg]at hv;split at hv
   ·rw[BR]at hv;have h4:=hc _ _ hv;have h5:(⟨n,base+off,none⟩:Addr).add j=⟨n,base+(off+j),none⟩:=by unfold Addr.add;split<;>simp_all<;>omega
    rw[h5];exact h4
   ·cases hv)
  rw[hl]at this;exact this
 simp[loadVar,jd h1,cj h2,hl2]
def O4{ty:TypeId}{vs:aW}{n base off:Nat}{v:Value}(h1:i9 P ty=some false)(hv:vs[off]? =some v)(hc:∀j v,vs[j]? =some v->w.cell? ⟨n,base+j,none⟩=some v):
 (loadVar ty ⟨n,base+off,none⟩).run P w= .ok v w:=by
 have:=hc off v hv
 simp[loadVar,jd h1,load,Sem.run,this]
def Zf(g:av P B w0 σ c a w){ty:TypeId}{x:Operand}(ho:o.op= .load ty x){r:Nat}{ix:Ex}{off:Nat}{k:Rw}(hx:(At.J3 r k.ks.length ix off).rel c (a.eval x))(hk:σ.row r=some k)(iQ:k.hole=none)(bT:bF k.agg k.ks=true){sv:SV}{rs:cv}{nr nr':Nat}(hs:MD P nr ty (CL k.agg k.ks (k.elem ix)) off=some (sv,rs,nr'))(gV:∀i∈rs.map (·.1),c.R i=none):
 cd P B w0 σ c a w o ⟨[],none,sv,[],rs,[],rs.map (·.1)⟩:=by
 obtain⟨n,o',len,cap,e,h0,bi,hx⟩:=hx
 obtain⟨D,ad,m,iZ,e',hD,h1,h2,h3,h6,h4⟩:=g.read hk iQ
 rw[e]at e';cases e'
 have rQ:(k.elem ix).ev c.ρ=(k.cont.ev c.ρ).list.getD (ix.ev c.ρ).int.toNat (.i 0):=by unfold Rw.elem;rw[aR];rfl
 have hd:(D.getD (ix.ev c.ρ).int.toNat (.i 0)).er=((k.elem ix).ev c.ρ).er:=by rw[rQ];exact FY (dh hD) _
 have ti:D.getD (ix.ev c.ρ).int.toNat (.i 0)∈D:=by rw[cE,cB (by omega)];exact BQ _
 have fp:=Pf (ρ:=c.ρ) hd k.agg k.ks (h6 _ ti)
 have hcell:∀j u,(bP k.agg k.ks (D.getD (ix.ev c.ρ).int.toNat (.i 0)))[j]? =some u->w.cell? ⟨n,(o'+(ix.ev c.ρ).int.toNat*k.ks.length)+j,none⟩=some u:=fun j u hj=>by
  have:=flat_get (dq bT).1 _ _ j u (by omega) hj;obtain⟨p,q,e1,e2,_⟩:=h4 _ _ this;cases e1
  rw[td];exact e2
 generalize D.getD (ix.ev c.ρ).int.toNat (.i 0)=d at*
 generalize CL k.agg k.ks (k.elem ix)=ps at hs fp
 unfold MD at hs
 split at hs
 ·rename_i m' q1 q2;split at hs
  ·rename_i qs hq;obtain⟨hq1,Tj⟩:=I0 hq;simp only[eF,iK]at hs;obtain⟨rfl,rfl,rfl⟩:=hs;have qD:lB P w (cD B σ c) c.ρ (qs.map fun p=>(AS.ck p.1,p.2)) (((bP k.agg k.ks d).drop off).take m'):=by have:=Et m' (Es off fp);rw[<-map_drop,<-map_take,<-hq1]at this;exact this
   have hlen:=GR qD;have hql:qs.length=m':=by rw[hq1];simp;omega
   rw[Ab,hql]at hlen;obtain⟨c',d1,d2,d3,d4,d5⟩:=oM (nr:=nr) g (fun _ h=>h) qD (fun i i1 i2=>gV i ((kp _ nr).2 i|>.2 ⟨i1,i2⟩));have dD:=O3 (P:=P) (n:=n) (base:=o'+(ix.ev c.ρ).int.toNat*k.ks.length) (off:=off) q1 q2 hlen hcell;refine⟨_,w,.agg (((bP k.agg k.ks d).drop off).take m').toArray,c',by simp[execOp,ho,Instr.loadAt,hx,Instr.sureAddr,dD],.inl rfl,d5.le,fun _ _=>by rw[d1],fun i hi=>d2 i ?_,⟨_,rfl,d3⟩,d4⟩;have:¬(nr<=i/\i<_):=fun hh=>hi ((kp _ nr).2 i|>.2 hh);omega
  ·cases hs
 ·rename_i q1;split at hs
  ·rename_i p hp;simp only[eF,iK]at hs;obtain⟨rfl,rfl,rfl⟩:=hs;obtain⟨v,hv,hr⟩:=AV fp (n:=off) (p:=(AS.ck p.1,p.2)) (by rw[vR,hp];rfl);obtain⟨c',d1,d2,d3,d4,d5⟩:=wD (s:= .ck p.1) (nr:=nr) g (fun _ h=>h) hr (fun i i1 i2=>gV i ((Bh nr p.2 p.1).2 i|>.2 ⟨i1,i2⟩));have dD:=O4 (P:=P) (n:=n) (base:=o'+(ix.ev c.ρ).int.toNat*k.ks.length) (off:=off) q1 hv hcell;refine⟨_,w,v,c',by simp[execOp,ho,Instr.loadAt,hx,Instr.sureAddr,dD],.inl rfl,d5.le,fun _ _=>by rw[d1],fun i hi=>d2 i ?_,d3,d4⟩;have:¬(nr<=i/\i<_):=fun hh=>hi ((Bh nr p.2 p.1).2 i|>.2 hh);simp only[jK];omega
  ·cases hs
 ·cases hs
end
def zG(ρ:ab):∀(y x:Ex),((j8 x y).ev ρ).list=(x.ev ρ).list++(y.ev ρ).list:=by
 intro y;induction y with
 |nil=>intro x;simp[j8,Ex.ev]|o f p q _ ihq=>
  intro x;by_cases hf:f= .cons
  ·subst hf;rw[j8,ihq,aR];simp[U2.ev,Ex.ev]
  ·have:j8 x (.o f p q)=match x with| .nil=> .o f p q|x=>di .app x (.o f p q):=by cases f<;>first|rfl|exact absurd rfl hf
   rw[this];cases x<;>simp only[]<;>(try rw[aR])<;>simp[U2.ev,Ex.ev]
 |_=>intro x;unfold j8;cases x<;>simp only[]<;>(try rw[aR])<;>simp[U2.ev,Ex.ev]
def isL(z:Sc):Prop:=z.er= .l (dP z.list)
def ER(l:ab):isL (.l l):=gh l
def YR{z:Sc}{D:ab}(h:z.er= .l (dP D)):isL z:=by unfold isL;rw[h,dh h]
def aeP{z:Sc}{D:ab}(h:isL z)(e:dP D=dP z.list):z.er= .l (dP D):=by rw[e];exact h
def ac9(x p:Ex):di .gx x p≠.nil:=by unfold di;cases x<;>cases p<;>simp
def age(x:Ex)(f:U2)(p q:Ex)(hf:f≠.cons):j8 x (.o f p q)=match x with| .nil=> .o f p q|x=>di .app x (.o f p q):=by cases f<;>first|rfl|exact absurd rfl hf
def WI(ρ:ab):∀(y x:Ex),isL (x.ev ρ)->(x= .nil->isL (y.ev ρ))->isL ((j8 x y).ev ρ):=by
 intro y;induction y with
 |nil=>intro x hx _;simpa[j8]using hx|o f p q _ ihq=>
  intro x hx hy;by_cases hf:f= .cons
  ·subst hf;rw[j8];exact ihq _ (by rw[aR];exact ER _) (fun h=>absurd h (ac9 x p))
  ·rw[age x f p q hf];cases x<;>simp only[]<;>first|exact hy rfl|(rw[aR];exact ER _)
 |_=>intro x hx hy;unfold j8;cases x<;>simp only[]<;>first|exact hy rfl|(rw[aR];exact ER _)
def xY(ρ:ab){x y:Ex}{D1 D2:ab}(h1:(x.ev ρ).er= .l (dP D1))(h2:(y.ev ρ).er= .l (dP D2)):((j8 x y).ev ρ).er= .l (dP (D1++D2)):=
 aeP (WI ρ y x (YR h1) (fun _=>YR h2)) (by rw[zG,sf,sf,dh h1,dh h2])
section
variable{P:Program}{B:fZ}{w0:World}{σ:St}{c:Ct}{a:Act}{w:World}{o:Oper}{rd:Rd}
def FH(t ty e:TypeId)(i:TypeInfo)(ht:P.underlying t=some (.slice e))(hi:P.info? e=some i)(ad:Option Addr)(n cap cc:Nat)(h:n<=cap)(w:World):
 (Builtin.append_ #[t,t] ty #[.slice ad n cap,.slice none 0 cc]).run P w= .ok (.slice ad n cap) w:=by
 cases ad<;>simp[Builtin.append_,run_underlying ht,sizeOf,typeInfo,hi,Builtin.lenOf,Builtin.firstCells,h,storeCells]
def FI(t ty e:TypeId)(i:TypeInfo)(ht:P.underlying t=some (.slice e))(hi:P.info? e=some i)(ad Sj:Option Addr)(n cap cc:Nat)(h:n<=cap)(w:World):
 (Builtin.append_ #[t,t] ty #[.slice ad n cap,.slice Sj 0 cc]).run P w= .ok (.slice ad n cap) w:=by
 cases Sj with
 |none=>exact FH t ty e i ht hi ad n cap cc h w|some x=>
  have hf:=run_firstCells_some (P:=P) w i.size 0 x 0 cc [] (by simp) (fun j u hj=>by simp at hj);cases ad<;>simp[Builtin.append_,run_underlying ht,sizeOf,typeInfo,hi,Builtin.lenOf,hf,h,storeCells]
def yU(w:World)(base:Nat)(t ty e:TypeId)(i:TypeInfo)(z:Value)(size bytes:Nat)(ht:P.underlying t=some (.slice e))(hi:P.info? e=some i)(hz:i.zero=some z)(qK:i.size=size)(HE:i.bytes=bytes)(zO:z.cells.size=size)(eT:0<size)(v:Value)(n:Nat)(xs:aW)(bj:w.ownsRow base e size v n xs)(ad:Addr)(m cc:Nat)(news:aW)(hl:news.length=m*size)(gC:∀j u,news[j]? =some u->w.cell? (ad.add j)=some u)(h1:∀u∈news,u.oneCell'=true)(Hz:n+m<=maxLen)(dL:(n+m)*bytes<=140737488355328)(XW:base<=w.heap.size):
 ∃v' w',(Builtin.append_ #[t,t] ty #[v,.slice (some ad) m cc]).run P w= .ok v' w'/\w'.ownsRow base e size v' (n+m) (xs++news)/\w.grownBy w' v.ownBlock/\
  (v'.ownBlock=v.ownBlock\/∀p,v'.ownBlock=some p->w.heap.size<=p):=by
 obtain⟨v',w',hr,q1,q2,q3⟩:=run_append_own (P:=P) w base t ty e i z size bytes ht hi hz qK HE zO eT v n xs bj ad m cc news hl gC h1 Hz dL XW
 refine⟨v',w',hr,q1,q2,?_⟩
 subst qK HE
 rcases bj.2 with⟨rfl,rfl⟩|⟨p,cap,cur,rfl,hbg,hg,yA,oD,nP,Cu⟩
 ·by_cases hm:m=0
  ·rw[q3.2 ⟨rfl,hm⟩];exact .inl rfl
  ·have h:=run_append_nil (P:=P) w t ty e i z ht hi hz ad m cc news hl gC (by omega) (by simp only[maxLen]at Hz;omega) (by have hb:=dL;simp only[eG]at hb;omega);rw[h]at hr;cases hr
   exact .inr fun q hq=>by simp[Value.ownBlock]at hq;omega
 ·by_cases eW:n+m<=cap
  ·have gj:n*i.size+news.length<=cur.size:=by rw[hl,nP,<-Ac];exact fu _ eW
   have h:=run_append_room (P:=P) w t ty e i ht hi p n cap cur hg ad m cc news hl gC h1 eW gj;rw[h]at hr;cases hr
   exact .inl rfl
  ·have holds:∀j u,xs[j]? =some u->w.cell? ((⟨p,0,none⟩:Addr).add j)=some u:=bj.cells (g:=p) rfl;have h:=run_append_grow (P:=P) w t ty e i z ht hi hz ⟨p,0,none⟩ n cap xs bj.1 holds ad m cc news hl gC (by omega) (by simp only[maxLen]at Hz;omega) (growslice_fits (by omega) dL);rw[h]at hr;cases hr
   exact .inr fun q hq=>by simp[Value.ownBlock]at hq;omega
def VF{a:Option Addr}{n cap:Nat}{p:Nat}(h:aO (.slice a n cap)=some p):0<cap/\∃x,a=some x/\x.block=p:=by
 cases a with
 |none=>simp[aO]at h|some x=>cases cap with
  |zero=>simp[aO]at h|succ m=>exact⟨by omega,x,rfl,by simpa[aO]using h⟩
def kr{x:Addr}{n cap:Nat}(h:0<cap):aO (.slice (some x) n cap)=some x.block:=by
 cases cap with|zero=>omega|succ m=>rfl
def sJ(w:World)(t ty e:TypeId)(i:TypeInfo)(z:Value)(size bytes:Nat)(ht:P.underlying t=some (.slice e))(hi:P.info? e=some i)(hz:i.zero=some z)(qK:i.size=size)(HE:i.bytes=bytes)(zO:z.cells.size=size)(eT:0<size)(nX:Option Addr)(n ig:Nat)(hle:n<=ig)(oD:ig<=maxLen)(xs:aW)(uL:xs.length=n*size)(bj:ig=0\/w.ownsRow 0 e size (.slice nX n ig) n xs)(ad:Option Addr)(m cc:Nat)(news:aW)(hl:news.length=m*size)(gC:m=0\/∃x,ad=some x/\∀j u,news[j]? =some u->w.cell? (x.add j)=some u)(h1:∀u∈news,u.oneCell'=true)(Hz:n+m<=maxLen)(dL:(n+m)*bytes<=140737488355328):
 ∃lJ bM w',(Builtin.append_ #[t,t] ty #[.slice nX n ig,.slice ad m cc]).run P w= .ok (.slice lJ (n+m) bM) w'/\n+m<=bM/\bM<=maxLen/\(bM=0\/w'.ownsRow 0 e size (.slice lJ (n+m) bM) (n+m) (xs++news))/\
  w.grownBy w' (aO (.slice nX n ig))/\(aO (.slice lJ (n+m) bM)=aO (.slice nX n ig)\/∀p,aO (.slice lJ (n+m) bM)=some p->w.heap.size<=p):=by
 by_cases hm:m=0
 ·subst hm;have HI:news=[]:=px (by simpa using hl);subst HI;refine⟨nX,ig,w,FI t ty e i ht hi nX ad n ig cc hle w,hle,oD,by simpa using bj,⟨rfl,rfl,rfl,aX _,fun _ _ _=>rfl⟩,.inl rfl⟩
 rcases gC with h|⟨x,rfl,gC⟩
 ·exact absurd h hm
 have fin:∀(v':Value)(w':World),w'.ownsRow 0 e size v' (n+m) (xs++news)->∃lJ bM,v'= .slice lJ (n+m) bM/\n+m<=bM/\bM<=maxLen/\0<bM:=fun v' w' h=>by
  rcases h.2 with⟨rfl,h0⟩|⟨p,bM,cur,rfl,_,_,f1,f2,_⟩
  ·omega
  ·exact⟨_,bM,rfl,f1,f2,by omega⟩
 by_cases Nq:ig=0
 ·subst Nq;obtain rfl:n=0:=by omega
  have Vg:xs=[]:=px (by simpa using uL);subst Vg;obtain⟨v',w',hr,q1,q2,q3⟩:=yU (P:=P) w 0 t ty e i z size bytes ht hi hz qK HE zO eT (.slice none 0 0) 0 [] (World.ownsRow_nil w 0 e size) x m cc news hl gC h1 Hz dL (xA _);obtain⟨lJ,bM,rfl,f1,f2,f3⟩:=fin v' w' q1;refine⟨lJ,bM,w',?_,f1,f2,.inr q1,?_,.inr fun p hp=> ?_⟩
  ·rw[<-hr];cases nX with
   |none=>rfl|some b=>
    subst qK HE;have g1:=run_append_grow (P:=P) w t ty e i z ht hi hz b 0 0 [] (by simp) (fun j v hj=>by simp at hj) x m cc news hl gC (by omega) (by simp only[maxLen]at Hz;omega) (growslice_fits (by omega) dL);have g2:=run_append_nil (P:=P) w t ty e i z ht hi hz x m cc news hl gC (by omega) (by simp only[maxLen]at Hz;omega) (by have hb:=dL;simp only[eG]at hb;omega);rw[g1,g2];simp only[eG];congr 3;simp
  ·have:aO (.slice nX 0 0)=none:=by cases nX<;>rfl
   rw[this];exact q2
  ·rcases q3 with h|h
   ·rw[ju hp]at h;simp[Value.ownBlock]at h
   ·exact h p (ju hp)
 ·rcases bj with h|bj
  ·exact absurd h Nq
  obtain⟨v',w',hr,q1,q2,q3⟩:=yU (P:=P) w 0 t ty e i z size bytes ht hi hz qK HE zO eT (.slice nX n ig) n xs bj x m cc news hl gC h1 Hz dL (xA _);obtain⟨lJ,bM,rfl,f1,f2,f3⟩:=fin v' w' q1;have HJ:aO (.slice nX n ig)=Value.ownBlock (.slice nX n ig):=by
   cases nX with|none=>rfl|some b=>rw[kr (by omega)];rfl
  have ag8:aO (.slice lJ (n+m) bM)=Value.ownBlock (.slice lJ (n+m) bM):=by
   cases lJ with|none=>rfl|some b=>rw[kr f3];rfl
  exact⟨lJ,bM,w',hr,f1,f2,.inr q1,by rw[HJ];exact q2,by rw[HJ,ag8];exact q3⟩
end
section
variable{P:Program}{B:fZ}{w0:World}{σ:St}{c:Ct}{a:Act}{w:World}{o:Oper}{rd:Rd}
def yo{ty:TypeId}{f:Nat}{fd:Field}(h:Md P ty f=some fd):∃fs,P.underlying ty=some (.struct fs)/\fs[f]? =some fd:=by
 unfold Md at h;split at h
 ·rename_i fs hu;exact⟨fs,hu,h⟩
 ·cases h
def Kv:∀{vs:aW}{ts:List (Option TypeId)}{ks:jj},NZ vs ts=some ks->vs.length=ks.length
 |[],_,ks,h=>by simp[NZ]at h;subst h;rfl
 |v::vs,ts,ks,h=>by
  unfold NZ at h;split at h
  ·rename_i x xs h1 h2;cases h;simp[Kv h2]
  ·cases h
def Qo{v:Value}{t:Option TypeId}{k:CK}(h:abK v t=some k):v.cells.size=1:=by unfold abK at h;split at h<;>first|rfl|cases h
def Bt{el:TypeId}{agg:Bool}{ks:jj}(h:eC P el=some (agg,ks)){i:TypeInfo}(hi:P.info? el=some i):∃z,i.zero=some z/\z.cells.size=ks.length:=by
 unfold eC lH at h;simp only[hi,Option.bind_some]at h;split at h
 ·rename_i cs hz;simp only[nW,iK]at h;obtain⟨x,h1,h2,rfl⟩:=h;exact⟨_,hz,by simpa[Value.cells]using Kv h1⟩
 ·rename_i v _ hz;simp only[nW,iK]at h;obtain⟨x,h1,h2,rfl⟩:=h;exact⟨v,hz,Qo h1⟩
 ·cases h
def vC{e:Ex}{bytes:Nat}(h:((room e bytes).ev c.ρ).bool=true)(hb:0<bytes):(e.ev c.ρ).list.length*bytes<=140737488355328/\(e.ev c.ρ).list.length<=maxLen:=by
 unfold room at h;rw[aR,eJ]at h;have h:((e.ev c.ρ).list.length:Int)<=((140737488355328/bytes:Nat):Int):=fv h;have h:(e.ev c.ρ).list.length<=140737488355328/bytes:=by exact_mod_cast h
 have h2:(e.ev c.ρ).list.length*bytes<=140737488355328:=bI (fu _ h) (div_mul_le_self _ _);refine⟨h2,?_⟩;have:(e.ev c.ρ).list.length*1<=(e.ev c.ρ).list.length*bytes:=Aj _ hb;simp only[maxLen];omega
def yV(w:World)(base:Nat)(t u ty e:TypeId)(i:TypeInfo)(ht:P.underlying t=some (.slice e))(hu:P.underlying u=some .string)(hi:P.info? e=some i)(hz:i.zero=some (.int .u8 0))(qK:i.size=1)(HE:i.bytes=1)(v:Value)(n:Nat)(xs:aW)(bj:w.ownsRow base e 1 v n xs)(s:ByteArray)(Hz:n+s.size<=maxLen)(dL:n+s.size<=140737488355328)(XW:base<=w.heap.size):
 ∃v' w',(Builtin.append_ #[t,u] ty #[v,.string s]).run P w= .ok v' w'/\w'.ownsRow base e 1 v' (n+s.size) (xs++Lib.strCells s)/\w.grownBy w' v.ownBlock/\
  (v'.ownBlock=v.ownBlock\/∀p,v'.ownBlock=some p->w.heap.size<=p):=by
 obtain⟨v',w',hr,q1,q2,q3⟩:=Lib.run_append_own_string (P:=P) w base t u ty e i ht hu hi hz qK HE v n xs bj s Hz dL XW
 refine⟨v',w',hr,q1,q2,?_⟩
 rcases bj.2 with⟨rfl,rfl⟩|⟨p,cap,cur,rfl,hbg,hg,yA,oD,nP,Cu⟩
 ·by_cases hm:s.size=0
  ·rw[q3.2 ⟨rfl,hm⟩];exact .inl rfl
  ·have h:=run_append_nil_string (P:=P) w t u ty e i (.int .u8 0) ht hu hi hz s (by omega) (by unfold maxLen at Hz;omega) (by rw[HE];omega);rw[h]at hr;cases hr
   exact .inr fun q hq=>by simp[Value.ownBlock]at hq;omega
 ·by_cases eW:n+s.size<=cap
  ·have h:=Lib.run_append_room_string (P:=P) w t u ty e i ht hu hi qK p n cap cur hg s eW (by simp at nP;omega);rw[h]at hr;cases hr
   exact .inl rfl
  ·have holds:∀j u,xs[j]? =some u->w.cell? ((⟨p,0,none⟩:Addr).add j)=some u:=bj.cells (g:=p) rfl;have h:=Lib.run_append_grow_string (P:=P) w t u ty e i (.int .u8 0) ht hu hi hz ⟨p,0,none⟩ n cap xs (by rw[qK];exact bj.1) holds s (by omega) (by unfold maxLen at Hz;omega) (by rw[HE];exact growslice_fits (by omega) (by omega));rw[h]at hr;cases hr
   exact .inr fun q hq=>by simp[Value.ownBlock]at hq;omega
def D9(t u ty e:TypeId)(i:TypeInfo)(ht:P.underlying t=some (.slice e))(hu:P.underlying u=some .string)(hi:P.info? e=some i)(ad:Option Addr)(n cap:Nat)(h:n<=cap)(s:ByteArray)(hs:s.size=0)(w:World):
 (Builtin.append_ #[t,u] ty #[.slice ad n cap,.string s]).run P w= .ok (.slice ad n cap) w:=by
 have hf:=Lib.run_firstCells_string (P:=P) w i.size s
 have hc:Lib.strCells s=[]:=px (by rw[Lib.strCells_length,hs])
 rw[hs,hc]at hf
 cases ad<;>simp[Builtin.append_,run_underlying ht,run_underlying hu,sizeOf,typeInfo,hi,Builtin.lenOf,hs,hf,h,storeCells]
def xv(w:World)(t u ty e:TypeId)(i:TypeInfo)(ht:P.underlying t=some (.slice e))(hu:P.underlying u=some .string)(hi:P.info? e=some i)(hz:i.zero=some (.int .u8 0))(qK:i.size=1)(HE:i.bytes=1)(nX:Option Addr)(n ig:Nat)(hle:n<=ig)(oD:ig<=maxLen)(xs:aW)(uL:xs.length=n)(bj:ig=0\/w.ownsRow 0 e 1 (.slice nX n ig) n xs)(s:ByteArray)(Hz:n+s.size<=maxLen)(dL:n+s.size<=140737488355328):
 ∃lJ bM w',(Builtin.append_ #[t,u] ty #[.slice nX n ig,.string s]).run P w= .ok (.slice lJ (n+s.size) bM) w'/\n+s.size<=bM/\bM<=maxLen/\(bM=0\/w'.ownsRow 0 e 1 (.slice lJ (n+s.size) bM) (n+s.size) (xs++Lib.strCells s))/\
  w.grownBy w' (aO (.slice nX n ig))/\(aO (.slice lJ (n+s.size) bM)=aO (.slice nX n ig)\/∀p,aO (.slice lJ (n+s.size) bM)=some p->w.heap.size<=p):=by
 by_cases hm:s.size=0
 ·have hc:Lib.strCells s=[]:=px (by rw[Lib.strCells_length,hm]);rw[hm,hc,pA,uP];exact⟨nX,ig,w,D9 t u ty e i ht hu hi nX n ig hle s hm w,hle,oD,bj,⟨rfl,rfl,rfl,aX _,fun _ _ _=>rfl⟩,.inl rfl⟩
 have fin:∀(v':Value)(w':World),w'.ownsRow 0 e 1 v' (n+s.size) (xs++Lib.strCells s)->∃lJ bM,v'= .slice lJ (n+s.size) bM/\n+s.size<=bM/\bM<=maxLen/\0<bM:=fun v' w' h=>by
  rcases h.2 with⟨rfl,h0⟩|⟨p,bM,cur,rfl,_,_,f1,f2,_⟩
  ·omega
  ·exact⟨_,bM,rfl,f1,f2,by omega⟩
 by_cases Nq:ig=0
 ·subst Nq;obtain rfl:n=0:=by omega
  have Vg:xs=[]:=px uL;subst Vg;obtain⟨v',w',hr,q1,q2,q3⟩:=yV (P:=P) w 0 t u ty e i ht hu hi hz qK HE (.slice none 0 0) 0 [] (World.ownsRow_nil w 0 e 1) s Hz dL (xA _);obtain⟨lJ,bM,rfl,f1,f2,f3⟩:=fin v' w' q1;refine⟨lJ,bM,w',?_,f1,f2,.inr q1,?_,.inr fun p hp=> ?_⟩
  ·rw[<-hr];cases nX with
   |none=>rfl|some b=>
    have g1:=Lib.run_append_grow_string (P:=P) w t u ty e i (.int .u8 0) ht hu hi hz b 0 0 [] (by simp) (fun j v hj=>by simp at hj) s (by omega) (by simp only[maxLen]at Hz;omega) (by rw[HE];exact growslice_fits (by omega) (by omega));have g2:=run_append_nil_string (P:=P) w t u ty e i (.int .u8 0) ht hu hi hz s (by omega) (by unfold maxLen at Hz;omega) (by rw[HE];omega);rw[g1,g2];simp only[eG];have hd:(Lib.strCells s).toArray=s.data.map (fun b=>Value.int .u8 b.toNat):=by apply Array.ext';simp[Lib.strCells]
    rw[hd];congr 3;simp
  ·have:aO (.slice nX 0 0)=none:=by cases nX<;>rfl
   rw[this];exact q2
  ·rcases q3 with h|h
   ·rw[ju hp]at h;simp[Value.ownBlock]at h
   ·exact h p (ju hp)
 ·rcases bj with h|bj
  ·exact absurd h Nq
  obtain⟨v',w',hr,q1,q2,q3⟩:=yV (P:=P) w 0 t u ty e i ht hu hi hz qK HE (.slice nX n ig) n xs bj s Hz dL (xA _);obtain⟨lJ,bM,rfl,f1,f2,f3⟩:=fin v' w' q1;have HJ:aO (.slice nX n ig)=Value.ownBlock (.slice nX n ig):=by
   cases nX with|none=>rfl|some b=>rw[kr (by omega)];rfl
  have ag8:aO (.slice lJ (n+s.size) bM)=Value.ownBlock (.slice lJ (n+s.size) bM):=by
   cases lJ with|none=>rfl|some b=>rw[kr f3];rfl
  exact⟨lJ,bM,w',hr,f1,f2,.inr q1,by rw[HJ];exact q2,by rw[HJ,ag8];exact q3⟩
def KD{w:World}{ok:dg}{k:CK}(hk:∀el,k≠.sl el)(x:Sc):Fits P w ok k x:=by
 cases k with|int k=>exact .int k x|bool=>exact .bool x|str=>exact .str x|sl el=>exact absurd rfl (hk el)
def Hq{w:World}{ok:dg}{k:CK}(agg:Bool)(hk:∀el,k≠.sl el)(x:Sc):dR P w ok agg [k] x:=fun i k' h=>by
 match i,h with
 |0,h=>simp at h;subst h;exact KD hk _
def SL{w:World}{ok:dg}(agg:Bool)(x:Sc):dR P w ok agg [.int .u8] x:=Hq agg (fun _ h=>by cases h) x
def A7(s:ByteArray):ag false [.int .u8] (jC s)=Lib.strCells s:=by
 unfold jC Lib.strCells ag;generalize s.data.toList=l;induction l with
 |nil=>rfl|cons x r ih=>simp only[jQ,AQ,ih];rfl
def oV(s:ByteArray):(jC s).length=s.size:=by unfold jC;rw[Ab,cW];rfl
def UC(g:av P B w0 σ c a w)(cS:xz σ c a rd){cl:Call}(hc:cl.callee= .builtin .append)(ho:o.op= .call cl){s x:Operand}{t t':TypeId}(dH:cl.args= #[s,x])(Mq:cl.argTypes= #[t,t']){r:dl}(gV:∀i∈r.nr,c.R i=none)(h:GM P rd s x t t'=some r)(hn:∀e∈r.eZ,(e.ev c.ρ).bool=true):cd P B w0 σ c a w o r:=by
 unfold GM at h
 split at h
 rotate_left
 ·cases h
 rename_i el hu F8
 split at h
 rotate_left
 ·cases h
 rename_i i e hi mf
 split at h
 rotate_left
 ·cases h
 rename_i eQ
 simp only[aL]at eQ
 obtain⟨⟨HE,eT⟩,hz⟩:=eQ
 have hz:i.zero=some (.int .u8 0):=by
  unfold af0 at hz;split at hz
  ·rename_i e;simp only[aL,ei]at hz;rw[e,hz.1,hz.2]
  ·cases hz
 have HE:i.bytes=1:=fh HE
 have eT:i.size=1:=fh eT
 have hx:=cS.ev x
 rw[mf]at hx
 have hx:a.eval x= .string (e.ev c.ρ).str:=hx
 have ko:∀v' w',(Builtin.append_ #[t,t'] o.type #[a.eval s,.string (e.ev c.ρ).str]).run P w= .ok v' w'->(execOp a.eval o).run P w= .ok (.value v') w':=fun v' w' he=>by simp[execOp,ho,resolve,hc,dH,Mq,invoke,builtin,hx,he]
 have hyl:((jW .bytes e).ev c.ρ).list=jC (e.ev c.ρ).str:=by rw[eJ];rfl
 generalize(e.ev c.ρ).str=str at*
 split at h
 ·rename_i r' hs;split at h;rotate_left
  ·cases h
  rename_i k hk;split at h;rotate_left
  ·cases h
  rename_i eQ;simp only[aL,gP,AO,ei]at eQ;obtain⟨bj,⟨⟨rQ,Mo⟩,Cj⟩,iQ⟩:=eQ;have iQ:=dF iQ;cases h
  have gV:=gV rd.nr (by simp);have tj:=cS.ev s;rw[hs]at tj;obtain⟨hR,nX,n0,ig,Fy⟩:=tj;have fK:=cS.row _ _ hk;obtain⟨v0,e',D,ad1,n1,akZ,hv1,q0,q1,q2,q3,q4,q5,q6⟩:=g.rows _ _ fK;rw[hR]at e';cases e'
  rw[Fy]at hv1;cases hv1;have q1':(k.cont.ev c.ρ).list.length=n0:=by rw[<-eU (dh q0)];exact q1
  have eW:=vC (hn _ (cw.2 rfl)) (aX 1);rw[zG,hyl,fR,q1',oV]at eW;have q4:=(q4 bj).imp id (·.1.plain iQ);rw[Mo,Cj,rQ,Fy]at q4;rw[Fy]at ko hR;obtain⟨lJ,bM,w',hr,f1,f2,r1,r2,r3⟩:=xv (P:=P) w t t' o.type el i hu F8 hi hz eT HE nX n0 ig q2 q3 _ (by rw[aD (.inr rfl),q1];exact Nat.mul_one _) q4 str eW.2 (by omega);have r1':bM=0\/w'.ownsRow 0 k.el k.ks.length (.slice lJ (n0+str.size) bM) (n0+str.size) (ag k.agg k.ks (D++jC str)):=by rw[cF,Mo,Cj,rQ,A7];exact r1
  have hb:((jW .bytes e).ev c.ρ).er= .l (dP (jC str)):=by rw[<-hyl];rw[eJ];exact ER _
  have gg:=g.uf fK bj hR (w':=w') r2 (r':=rd.nr) (k':={k with cont:=j8 k.cont (jW .bytes e)}) bj iQ (D:=D++jC str) (ad:=lJ) (n:=n0+str.size) (cap:=bM) (xY c.ρ q0 hb) (by rw[fR,q1,oV]) f1 f2 r1' r3 (.inl gV)
   (fun x hx=>by
     rcases ic.1 hx with hx|hx
     ·exact q6 x hx
     ·rw[Mo];exact SL _ x)
  refine⟨_,w',_,{c with R:=fun i=>if i=rd.nr then some (.slice lJ (n0+str.size) bM)else c.R i},ko _ _ hr,.inl rfl,?_,fun _ _=>rfl,fun i hi=>by simp at hi;simp[hi],⟨by simp,lJ,n0+str.size,bM,rfl⟩,gg⟩;exact⟨rfl,rfl,fun _ _ e=>e,fun i u e=>by
   by_cases h:i=rd.nr
   ·subst h;rw[gV]at e;cases e
   ·simp[h,e]⟩
 ·rename_i hs;cases h
  have gV:=gV rd.nr (by simp);have tj:=cS.ev s;rw[hs]at tj;obtain⟨nX,tj⟩:=tj;have eW:=vC (hn _ (cw.2 rfl)) (aX 1);rw[zG,hyl,fR,oV]at eW;simp only[Ex.ev,Sc.Ib,oe,eG]at eW;rw[tj]at ko;obtain⟨lJ,bM,w',hr,f1,f2,r1,r2,r3⟩:=xv (P:=P) w t t' o.type el i hu F8 hi hz eT HE nX 0 0 (aX _) (xA _) [] (by simp) (.inl rfl) str (by omega) (by omega);simp only[eG,rU]at hr f1 r1 r3;have HJ:aO (.slice nX 0 0)=none:=by cases nX<;>rfl
  rw[HJ]at r2 r3;have hb:((j8 .nil (jW .bytes e)).ev c.ρ).er= .l (dP (jC str)):=by have:=xY c.ρ (x:= .nil) (y:=jW .bytes e) (D1:=[]) (D2:=jC str) (by simp[Ex.ev,Sc.er]) (by rw[<-hyl];rw[eJ];exact ER _);simpa using this
  have gg:=g.newRow (w':=w') (g.below.grown r2 g.hB (nofun)) r2.size (fun n hn=>r2.block n hn (by simp)) gV
   (k:=⟨el,[.int .u8],false,j8 .nil (jW .bytes e),true,none⟩) rfl (D:=jC str) (ad:=lJ) (n:=str.size) (cap:=bM) hb (oV str) f1 f2
   (fun _=>r1.imp id fun r1=>⟨by simp only;rw[A7];exact r1,fun p hp=>by
     rcases r3 with h|h
     ·rw[hp]at h;cases h
     ·exact h p hp⟩) (nofun) (fun x _=>SL _ x)
  refine⟨_,w',_,{c with R:=fun i=>if i=rd.nr then some (.slice lJ str.size bM)else c.R i},ko _ _ hr,.inl rfl,?_,fun _ _=>rfl,fun i hi=>by simp at hi;simp[hi],⟨by simp,lJ,str.size,bM,rfl⟩,gg⟩;exact⟨rfl,rfl,fun _ _ e=>e,fun i u e=>by
   by_cases h:i=rd.nr
   ·subst h;rw[gV]at e;cases e
   ·simp[h,e]⟩
 ·cases h
def yq{agg:Bool}{ks:jj}(h:oL agg ks):∀(l:ab)(i:Nat)(x:Sc),i<l.length->ag agg ks (l.set i x)=(ag agg ks l).take (i*ks.length)++bP agg ks x++(ag agg ks l).drop (i*ks.length+ks.length)
 |[],i,_,hi=>by simp at hi
 |y::l,0,x,_=>by simp only[set_cons_zero,ag,AQ,Nz,take_zero,rU,eG];rw[Si (by rw[cg h];exact aX _),drop_of_length_le (by rw[cg h];exact aX _)];simp
 |y::l,i+1,x,hi=>by
  have ih:=yq h l i x (by simpa using hi);have hy:=cg h y;have e1:(i+1)*ks.length=(bP agg ks y).length+i*ks.length:=by rw[hy,Ac];omega
  have e2:(i+1)*ks.length+ks.length=(bP agg ks y).length+(i*ks.length+ks.length):=by rw[hy,Ac];omega
  simp only[set_cons_succ,ag,AQ]at ih⊢;rw[ih,e2,e1,take_length_add_append,drop_length_add_append];simp
def zu{α:Type}(cur E:List α)(A s:Nat){M:Nat}(hE:E.length=s)(h1:A+s<=M)(h2:M<=cur.length):
 (cur.take A++E++cur.drop (A+s)).take M=(cur.take M).take A++E++(cur.take M).drop (A+s):=by
 have e1:(cur.take M).take A=cur.take A:=by rw[take_take,vT (by omega)]
 have hl:(cur.take A++E).length=A+s:=by simp[hE,vT (by omega:A<=cur.length)]
 rw[e1,take_append,hl,lQ (by omega),drop_take]
def Ln{α:Type}(A E S vs:List α)(off:Nat)(h:off+vs.length<=E.length):
 (A++E++S).take (A.length+off)++vs++(A++E++S).drop (A.length+(off+vs.length))=A++(E.take off++vs++E.drop (off+vs.length))++S:=by
 rw[eh A E S,take_length_add_append,drop_length_add_append,iw (by omega),Si h]
 simp[eh]
def oQ{α:Type}(d:α):∀(l:List α)(n:Nat)(y z:α),bU d (bU d l n y) n z=bU d l n z
 |[],0,_,_=>rfl|_::_,0,_,_=>rfl|[],n+1,y,z=>by simp[bU,oQ d [] n]
 |x::l,n+1,y,z=>by simp[bU,oQ d l n]
def NU{s:ByteArray}(h:s.size=0):s=⟨([]:List UInt8).toArray⟩:=by
 cases s with
 |mk d=>
  have:d.size=0:=h;rw[Ai this]
def E9{k:CK}{v:Value}{e:Ex}(h:Ni P k v=some e)(ρ:ab):∃d,d.er=(e.ev ρ).er/\k.val d=v/\∀w ok,Fits P w ok k d:=by
 unfold Ni at h;split at h
 ·split at h
  ·rename_i hc;cases h;obtain⟨rfl,rfl⟩:=hc;exact⟨.i 0,rfl,rfl,fun _ _=> .int _ _⟩
  ·cases h
 ·split at h
  ·cases h
  ·rename_i hb;cases h;refine⟨.b false,rfl,?_,fun _ _=> .bool _⟩;simp only[CK.val,Sc.agn];simp at hb;rw[hb]
 ·split at h
  ·rename_i hs;cases h;refine⟨.s ⟨([]:List UInt8).toArray⟩,rfl,?_,fun _ _=> .str _⟩;simp only[CK.val,Sc.PG];rw[NU hs]
  ·cases h
 ·split at h
  ·rename_i hr;cases h;obtain⟨⟨agg,ks⟩,hT⟩:=uh.1 hr;exact⟨.r none 0 0 [],by simp[Sc.er,Ex.ev],rfl,fun _ _=> .sl hT rfl (aX _) (xA _) (fun j u hj=>by simp[ag]at hj) (nofun)⟩
  ·cases h
 ·cases h
def Df(ρ:ab):∀{ks:jj}{vs:aW}{e:Ex}(pre:ab),wW P ks vs=some e->∃ds,dP ds=dP (e.ev ρ).list/\isL (e.ev ρ)/\ds.length=ks.length/\jD (.l (pre++ds)) ks pre.length=vs/\∀w ok i k,ks[i]? =some k->Fits P w ok k (ds.getD i (.i 0))
 |[],[],e,pre,h=>by simp[wW]at h;subst h;exact⟨[],rfl,ER [],rfl,rfl,fun _ _ i k hk=>by simp at hk⟩
 |k::ks,v::vs,e,pre,h=>by
  simp only[wW]at h;split at h
  ·rename_i e1 r h1 h2;cases h
   obtain⟨d,d1,d2,d3⟩:=E9 h1 ρ;obtain⟨ds,f1,f2,f3,f4,f5⟩:=Df ρ (pre++[d]) h2;have hL:((Ex.o .cons e1 r).ev ρ)= .l (e1.ev ρ::(r.ev ρ).list):=rfl;refine⟨d::ds,by rw[hL];simp only[Sc.Ib,oY,jQ]at f1⊢;rw[f1,d1],by rw[hL];exact ER _,by simp[f3],?_,fun w ok i k' hk=> ?_⟩
   ·simp only[jD];congr 1
    ·simp[d2]
    ·simpa[eh]using f4
   ·cases i with|zero=>simp at hk;subst hk;exact d3 w ok|succ i=>simpa using f5 w ok i k' (by simpa using hk)
  ·cases h
 |[],_::_,_,_,h=>by simp[wW]at h
 |_::_,[],_,_,h=>by simp[wW]at h
def uI{agg:Bool}{ks:jj}{zs:aW}{e:Ex}(h:vO P agg ks zs=some e)(ρ:ab):∃d,d.er=(e.ev ρ).er/\bP agg ks d=zs/\∀w ok,dR P w ok agg ks d:=by
 unfold vO at h;split at h
 ·obtain⟨ds,f1,f2,f3,f4,f5⟩:=Df ρ [] h;refine⟨.l ds,by rw[gh,f1];exact(aeP f2 rfl).symm,by simpa[bP]using f4,fun w ok i k hk=>by simpa[Ey]using f5 w ok i k hk⟩
 ·obtain⟨d,d1,d2,d3⟩:=E9 h ρ;refine⟨d,d1,by simp[bP,d2],fun w ok i k hk=> ?_⟩;cases i with
  |zero=>simp at hk;subst hk;exact d3 w ok|succ i=>simp at hk
 ·cases h
def sm{agg:Bool}{ks:jj}(h:oL agg ks)(hp:0<ks.length){d:Sc}{z:Array Value}(hz:bP agg ks d=z.toList)(n:Nat):ag agg ks (replicate n d)=(Builtin.zeroCells z n).toList:=by
 have hzl:z.toList.length=ks.length:=by rw[<-hz,cg h]
 have hs:z.size=ks.length:=by rw[<-hzl,cW]
 apply f9;intro j;by_cases hj:j<n*ks.length
 ·have hq:j/ks.length<n:=(Uy hp).2 hj;have hr:j%ks.length<z.toList.length:=by rw[hzl];exact mod_lt _ hp
  have e0:(replicate n d).getD (j/ks.length) (.i 0)=d:=by rw[cE,getElem?_replicate,aA hq];rfl
  have e1:=flat_get h (replicate n d) (j/ks.length) (j%ks.length) (z.toList[j%ks.length]) (by simpa using hq) (by rw[e0,hz,cB hr]);rw[show j/ks.length*ks.length+j%ks.length=j by rw[Kf];exact tu j ks.length]at e1;rw[e1];have bi:j<n*z.size:=by rw[hs];exact hj
  have Jo:j%ks.length<z.size:=by rw[hs];exact mod_lt _ hp
  rw[qf];simp only[Builtin.zeroCells];rw[Array.getElem?_map,Array.getElem?_range,aA bi];simp only[Option.map_some,hs,Array.getElem_toList];rw[getElem!_pos z _ Jo]
 ·have l1:(ag agg ks (replicate n d)).length<=j:=by rw[aD h,Ny];omega
  have l2:(Builtin.zeroCells z n).toList.length<=j:=by rw[cW (xs:=Builtin.zeroCells z n),size_zeroCells,hs];omega
  rw[mB l1,mB l2]
def Ea(w:World)(t tn ty e:TypeId)(i:TypeInfo)(z:Value)(kn:IntKind)(ht:P.underlying t=some (.slice e))(htn:P.underlying tn=some (.int kn))(hi:P.info? e=some i)(hz:i.zero=some z)(ad:Option Addr)(n:Nat)(h0:0<n)(hs:0<i.size)(Hz:(n:Int)<=9223372036854775807)(h48:n*i.bytes<=281474976710656):
 (Builtin.append_ #[t,tn] ty #[.slice ad 0 0,.int .i64 n]).run P w=
   .ok (.slice (some ⟨w.heap.size,0,none⟩) n (grownCap w n 0 e)) (w.drew.alloc (.cells (Builtin.zeroCells z.cells n++Builtin.zeroCells z.cells (grownCap w n 0 e-n)) e)):=by
 cases ad with
 |none=>exact Lib.run_append_nil_zeros w t tn ty e i z .i64 kn ht htn hi hz n h0 hs Hz h48|some b=>
  have hn:n≠0:=by omega
  have hw:IntKind.i64.wrap (n:Int)=n:=by rw[IntKind.wrap_i64];omega
  have ast:¬(9223372036854775807<(n:Int)):=by omega
  have asr:¬(281474976710656<Builtin.nextslicecap n 0*i.bytes):=by rw[nextslicecap_zero h0];omega
  have ass:¬(281474976710656<(n:Int)*(i.bytes:Int)):=by rw[<-natCast_mul];omega
  have atz:¬((n:Int)<0):=by omega
  have Jl:¬(n*i.size=0):=Nat.mul_ne_zero hn (by omega);have hf:∀w,(Builtin.firstCells i.size 0 (.slice (some b) 0 0)).run P w= .ok #[] w:=fun w=>run_firstCells_some (P:=P) w i.size 0 b 0 0 [] (by simp) (fun j u hj=>by simp at hj);simp[Builtin.append_,run_underlying ht,run_underlying htn,sizeOf,typeInfo,zeroValue,hi,hz,asInt,asIntOf,hw,hn,atz,Jl,ast,asr,ass,Question.forced,hf,newRow,grownCap]
def NJ(g:av P B w0 σ c a w)(cS:xz σ c a rd){cl:Call}(hc:cl.callee= .builtin .append)(ho:o.op= .call cl){s x:Operand}{t t':TypeId}(dH:cl.args= #[s,x])(Mq:cl.argTypes= #[t,t']){r:dl}(gV:∀i∈r.nr,c.R i=none)(h:xZ P rd s x t t'=some r)(hn:∀e∈r.eZ,(e.ev c.ρ).bool=true):cd P B w0 σ c a w o r:=by
 unfold xZ at h
 split at h
 rotate_left
 ·cases h
 rename_i el kn hu F8
 split at h
 rotate_left
 ·cases h
 rename_i agg ks i n KN hi hs hx
 split at h
 rotate_left
 ·cases h
 rename_i z hz
 split at h
 rotate_left
 ·cases h
 rename_i eQ
 simp only[aL]at eQ
 obtain⟨⟨qv,dL⟩,eT⟩:=eQ
 have eT:i.size=ks.length:=fh eT
 have dL:0<i.bytes:=oo (by simpa[blt]using dL)
 obtain⟨bT,i8⟩:=dq qv
 split at h
 rotate_left
 ·cases h
 rename_i e he
 cases h
 have gV:=gV rd.nr (by simp)
 have tj:=cS.ev s
 rw[hs]at tj
 obtain⟨nX,tj⟩:=tj
 have Bf:=cS.ev x
 rw[hx]at Bf
 have Bf:a.eval x= .int .i64 (n.ev c.ρ).int:=Bf
 have n1:=hn (di .le (.i 0) n) (by simp)
 have n2:=hn (di .le n (.i ((140737488355328/i.bytes:Nat):Int))) (by simp)
 rw[aR]at n1 n2
 have n1:(0:Int)<=(n.ev c.ρ).int:=fv n1
 have n2:(n.ev c.ρ).int<=((140737488355328/i.bytes:Nat):Int):=fv n2
 obtain⟨d,d1,d2,d3⟩:=uI he c.ρ
 obtain⟨m,hm⟩:∃m:Nat,(n.ev c.ρ).int=m:=⟨(n.ev c.ρ).int.toNat,by omega⟩
 rw[hm]at Bf n2
 have OI:m*i.bytes<=140737488355328:=by
  have:m<=140737488355328/i.bytes:=by exact_mod_cast n2
  exact bI (fu _ this) (div_mul_le_self _ _)
 have hmm:m<=140737488355328:=bI (Nat.le_mul_of_pos_right _ dL) OI
 have ko:∀v' w',(Builtin.append_ #[t,t'] o.type #[.slice nX 0 0,.int .i64 m]).run P w= .ok v' w'->(execOp a.eval o).run P w= .ok (.value v') w':=fun v' w' he=>by simp[execOp,ho,resolve,hc,dH,Mq,invoke,builtin,tj,Bf,he]
 have yx:=sm bT i8 d2 m
 have hD:((Ex.o .Bp e n).ev c.ρ).er= .l (dP (replicate m d)):=by show(Sc.l (replicate (n.ev c.ρ).int.toNat (e.ev c.ρ))).er=_;rw[gh,hm,om];simp only[oY,map_replicate,d1]
 have hle:∀u:Value,c.le {c with R:=fun i=>if i=rd.nr then some u else c.R i}:=fun u=>⟨rfl,rfl,fun _ _ e=>e,fun i u e=>by
  by_cases h:i=rd.nr
  ·subst h;rw[gV]at e;cases e
  ·simp[h,e]⟩
 by_cases h0:m=0
 ·subst h0;have dD:(Builtin.append_ #[t,t'] o.type #[.slice nX 0 0,.int .i64 ((0:Nat):Int)]).run P w= .ok (.slice nX 0 0) w:=by
   have hw:IntKind.i64.wrap 0=0:=by rw[IntKind.wrap_i64];omega
   cases nX<;>simp[Builtin.append_,run_underlying hu,run_underlying F8,sizeOf,typeInfo,hi,asInt,asIntOf,hw,storeCells]
  have gg:=g.newRow (w':=w) g.below (aX _) (fun _ _=>rfl) gV (k:=⟨el,ks,agg,.o .Bp e n,true,none⟩) rfl (D:=[]) (ad:=nX) (n:=0) (cap:=0) (by simpa using hD) rfl (aX _) (xA _)
   (fun _=> .inl rfl) (nofun) (nofun)
  exact⟨_,w,_,_,ko _ _ dD,.inl rfl,hle _,fun _ _=>rfl,fun i hi=>by simp at hi;simp[hi],⟨by simp,nX,0,0,rfl⟩,gg⟩
 ·have dD:=Ea (P:=P) w t t' o.type el i z kn hu F8 hi hz nX m (by omega) (by omega) (by omega) (by omega);have hg1:=grownCap_ge w m 0 el;have hg2:=grownCap_le_maxLen w m 0 el (by simp only[maxLen];omega);have gg:=g.newRow (w':=w.drew.alloc (.cells (Builtin.zeroCells z.cells m++Builtin.zeroCells z.cells (grownCap w m 0 el-m)) el)) ((g.below.drew).alloc g.hB _) (by show w.heap.size<=(w.drew.alloc _).heap.size;simp only[World.alloc,Array.size_push];exact le_succ _) (fun n hn=>Below.heap_alloc w.drew _ n hn) gV (k:=⟨el,ks,agg,.o .Bp e n,true,none⟩) rfl (D:=replicate m d) (ad:=some ⟨w.heap.size,0,none⟩) (n:=m) (cap:=grownCap w m 0 el) hD (by simp) hg1 hg2
   (fun _=> .inr ⟨⟨by simp only;rw[aD bT];simp,.inr ⟨_,_,_,rfl,xA _,heap_alloc_new w.drew _,hg1,hg2,?_,?_⟩⟩,fun p hp=>by have:=ju hp;simp[Value.ownBlock]at this;omega⟩) (nofun) (fun x hx i k hk=>by rw[eq_of_mem_replicate hx];exact d3 _ _ i k hk)
  ·exact⟨_,_,_,_,ko _ _ dD,.inl rfl,hle _,fun _ _=>rfl,fun i hi=>by simp at hi;simp[hi],⟨by simp,_,_,_,rfl⟩,gg⟩
  ·have zO:z.cells.size=ks.length:=by rw[<-cg bT d,d2,cW]
   rw[Array.size_append,size_zeroCells,size_zeroCells,zO,<-Ac];congr 1;omega
  ·simp only;rw[yx,Array.toList_append,iw (by rw[<-yx,aD bT];simp),lQ (by rw[<-yx,aD bT];simp)]
def FG(w:World)(t ty e:TypeId)(i:TypeInfo)(z:Value)(size bytes:Nat)(ht:P.underlying t=some (.slice e))(hi:P.info? e=some i)(hz:i.zero=some z)(qK:i.size=size)(HE:i.bytes=bytes)(zO:z.cells.size=size)(eT:0<size)(b:Option Addr)(n:Nat)(xs:aW)(uL:xs.length=n*size)(holds:n=0\/∃x,b=some x/\∀j u,xs[j]? =some u->w.cell? (x.add j)=some u)(ad:Option Addr)(m cc:Nat)(news:aW)(hl:news.length=m*size)(hm:0<m)(gC:m=0\/∃x,ad=some x/\∀j u,news[j]? =some u->w.cell? (x.add j)=some u)(h1:∀u∈news,u.oneCell'=true)(Hz:n+m<=maxLen)(dL:(n+m)*bytes<=140737488355328):
 ∃lJ bM w',(Builtin.append_ #[t,t] ty #[.slice b n n,.slice ad m cc]).run P w= .ok (.slice lJ (n+m) bM) w'/\n+m<=bM/\bM<=maxLen/\(bM=0\/w'.ownsRow 0 e size (.slice lJ (n+m) bM) (n+m) (xs++news))/\
  w.grownBy w' none/\∀p,aO (.slice lJ (n+m) bM)=some p->w.heap.size<=p:=by
 rcases holds with rfl|⟨b,rfl,holds⟩
 ·have Vg:xs=[]:=px (by simpa using uL);subst Vg;obtain⟨lJ,bM,w',hr,f1,f2,r1,r2,r3⟩:=sJ (P:=P) w t ty e i z size bytes ht hi hz qK HE zO eT b 0 0 (aX _) (xA _) [] (by simp) (.inl rfl) ad m cc news hl gC h1 Hz dL;have HJ:aO (.slice b 0 0)=none:=by cases b<;>rfl
  rw[HJ]at r2 r3;exact⟨lJ,bM,w',hr,f1,f2,r1,r2,fun p hp=>by
   rcases r3 with h|h
   ·rw[h]at hp;cases hp
   ·exact h p hp⟩
 ·rcases gC with rfl|⟨x,rfl,gC⟩
  ·omega
  subst qK HE;have hr:=run_append_grow (P:=P) w t ty e i z ht hi hz b n n xs uL holds x m cc news hl gC (by omega) (by simp only[maxLen]at Hz;omega) (growslice_fits (by omega) dL);have xj:=grownCap_ge w (n+m) n e;have oD:grownCap w (n+m) n e<=maxLen:=grownCap_le_maxLen w (n+m) n e Hz;have hlen:(xs++news).length=(n+m)*i.size:=by rw[fR,uL,hl,Ac]
  refine⟨_,_,_,hr,xj,oD,.inr ⟨hlen,.inr ⟨w.heap.size,_,_,rfl,xA _,heap_alloc_new w.drew _,xj,oD,?_,?_⟩⟩,⟨rfl,rfl,rfl,by simp,fun k hk _=>by first|exact heap_alloc_old w.drew _ k hk|exact heap_alloc_old w.drew _ hk⟩,fun p hp=> ?_⟩
  ·simp only[Array.size_append,Jq,size_zeroCells,zO,uL,hl,<-Ac];congr 1;omega
  ·simp only[Array.toList_append,eh];rw[<-eh,<-hlen];exact take_left
  ·obtain⟨_,y,hy,e2⟩:=VF hp;cases hy
   exact Nat.le_of_eq e2
def UD(g:av P B w0 σ c a w)(cS:xz σ c a rd){cons:ug}{cl:Call}(hc:cl.callee= .builtin .append)(ho:o.op= .call cl){r:dl}(gV:∀i∈r.nr,c.R i=none)(h:wP P cons rd cl=some r)(hn:∀e∈r.eZ,(e.ev c.ρ).bool=true):cd P B w0 σ c a w o r:=by
 unfold wP at h
 rw[hc]at h
 simp only at h
 split at h
 rotate_left
 ·cases h
 rename_i s x t t' h1 h2
 split at h
 rotate_left
 ·split at h
  ·rename_i r' hz;cases h
   exact NJ g cS hc ho (by rw[<-h1]) (by rw[<-h2]) gV hz hn
  ·exact UC g cS hc ho (by rw[<-h1]) (by rw[<-h2]) gV h hn
 rename_i ht
 subst ht
 split at h
 rotate_left
 ·cases h
 rename_i el hu
 split at h
 rotate_left
 ·cases h
 rename_i agg ks i src lo len KN hi mi
 split at h
 rotate_left
 ·cases h
 rename_i eQ
 simp only[aL]at eQ
 obtain⟨⟨⟨JT,qv⟩,dL⟩,eT⟩:=eQ
 have eT:i.size=ks.length:=fh eT
 have dL:0<i.bytes:=oo (by simpa[blt]using dL)
 obtain⟨bT,i8⟩:=dq qv
 obtain⟨z,hz,zO⟩:=Bt KN hi
 obtain⟨ad,m,cc,hv,hlen,Cq,hmc,oD,fm,rf⟩:=eM g cS.row mi (cS.ev x)
 have dH:cl.args= #[s,x]:=by rw[<-h1]
 have Mq:cl.argTypes= #[t,t]:=by rw[<-h2]
 have ko:∀v' w',(Builtin.append_ #[t,t] o.type #[a.eval s,a.eval x]).run P w= .ok v' w'->(execOp a.eval o).run P w= .ok (.value v') w':=fun v' w' he=>by simp[execOp,ho,resolve,hc,dH,Mq,invoke,builtin,he]
 have OE:∃E:ab,((gU (rd.ev x) src lo len).ev c.ρ).er= .l (dP E)/\(∀x∈E,dR P w (cD B σ c) agg ks x)/\(m=0\/∃Sj,ad=some Sj/\∀j u,(ag agg ks E)[j]? =some u->w.cell? (Sj.add j)=some u):=by
  cases src with
  |none=>
   refine⟨[],?_,(nofun),.inl rf.1⟩;obtain⟨_,_,hn⟩:=rf;rw[hn];simp[gU,Ex.ev,Sc.er]
  |some rk=>
   obtain⟨q,k⟩:=rk;simp only at rf;obtain⟨_,hk,_,_,Yy,_,_,_,_,iQ,E,hE,gj,hcell⟩:=rf;simp only[gP,aL,AO,ei]at JT;obtain⟨⟨⟨_,Mo⟩,Cj⟩,_⟩:=JT;subst Mo Cj;refine⟨E,hE,gj,?_⟩;by_cases hm:m=0
   ·exact .inl hm
   obtain⟨p,q',m',iZ,e1,e2,e3⟩:=iQ (by omega);refine .inr ⟨_,e3,fun j u hj=> ?_⟩;obtain⟨p',o',f1,f2,_⟩:=hcell j u hj;rw[e3]at f1;cases f1;have h0:(⟨p,q'+(lo.ev c.ρ).int.toNat*k.ks.length,none⟩:Addr).add j=⟨p,q'+(lo.ev c.ρ).int.toNat*k.ks.length+j,none⟩:=by unfold Addr.add;split<;>simp_all
   rw[h0];exact f2
 generalize hy:gU (rd.ev x) src lo len=y at h fm rf OE
 obtain⟨E,hE,Ox,gC⟩:=OE
 have XR:E.length=m:=by rw[eU (dh hE)];exact fm
 have alF:∀(n0:Nat)(l0:ab)(nX:Option Addr)(ig:Nat),n0<=ig->ig<=maxLen->l0.length=n0->(ig=0\/w.ownsRow 0 el ks.length (.slice nX n0 ig) n0 (ag agg ks l0))->(n0+m)*i.bytes<=140737488355328->n0+m<=maxLen->
  ∃lJ bM w',(Builtin.append_ #[t,t] o.type #[.slice nX n0 ig,a.eval x]).run P w= .ok (.slice lJ (n0+m) bM) w'/\n0+m<=bM/\bM<=maxLen/\(bM=0\/w'.ownsRow 0 el ks.length (.slice lJ (n0+m) bM) (n0+m) (ag agg ks (l0++E)))/\
   w.grownBy w' (aO (.slice nX n0 ig))/\(aO (.slice lJ (n0+m) bM)=aO (.slice nX n0 ig)\/∀p,aO (.slice lJ (n0+m) bM)=some p->w.heap.size<=p):=by
  intro n0 l0 nX ig ag5 alK Q3 bj SX SY
  rw[hv,cF]
  exact sJ (P:=P) w t o.type el i z ks.length i.bytes hu hi hz eT rfl zO i8 nX n0 ig ag5 alK _ (by rw[aD bT,Q3]) bj ad m cc (ag agg ks E) (by rw[aD bT,XR]) gC (ni agg ks _) SY SX
 split at h
 ·
  rename_i r' hs;split at h;rotate_left
  ·cases h
  rename_i k hk;split at h;rotate_left
  ·cases h
  rename_i eQ;simp only[aL,gP,AO,ei]at eQ;obtain⟨⟨bj,⟨⟨rQ,Mo⟩,Cj⟩,iQ⟩,hnr⟩:=eQ;have iQ:=dF iQ;cases h
  have gV:=gV rd.nr (by simp);subst rQ Mo Cj;have tj:=cS.ev s;rw[hs]at tj;obtain⟨hR,nX,n0,ig,Fy⟩:=tj;have fK:=cS.row _ _ hk;obtain⟨v0,e,D,ad1,n1,akZ,hv1,q0,q1,q2,q3,q4,q5,q6⟩:=g.rows _ _ fK;rw[hR]at e;cases e
  rw[Fy]at hv1;cases hv1;have q1':(k.cont.ev c.ρ).list.length=n0:=by rw[<-eU (dh q0)];exact q1
  have eW:=vC (hn _ (cw.2 rfl)) dL;rw[zG,fR,q1',fm]at eW;have q4:=(q4 bj).imp id (·.1.plain iQ);rw[Fy]at ko hR q4;obtain⟨lJ,bM,w',hr,f1,f2,r1,r2,r3⟩:=alF n0 D nX ig q2 q3 q1 q4 eW.1 eW.2;have gg:=g.uf fK bj hR (w':=w') r2 (r':=rd.nr) (k':={k with cont:=j8 k.cont y}) bj iQ (D:=D++E) (ad:=lJ) (n:=n0+m) (cap:=bM) (xY c.ρ q0 hE) (by rw[fR,q1,XR]) f1 f2 r1 r3 (.inl gV)
   (fun x hx=>(ic.1 hx).elim (q6 x) (Ox x))
  refine⟨_,w',_,{c with R:=fun i=>if i=rd.nr then some (.slice lJ (n0+m) bM)else c.R i},ko _ _ hr,.inl rfl,?_,fun _ _=>rfl,fun i hi=>by simp at hi;simp[hi],⟨by simp,lJ,n0+m,bM,rfl⟩,gg⟩;exact⟨rfl,rfl,fun _ _ e=>e,fun i u e=>by
   by_cases h:i=rd.nr
   ·subst h;rw[gV]at e;cases e
   ·simp[h,e]⟩
 ·
  rename_i hs;cases h
  have gV:=gV rd.nr (by simp);have tj:=cS.ev s;rw[hs]at tj;obtain⟨nX,tj⟩:=tj;have eW:=vC (hn _ (cw.2 rfl)) dL;rw[zG,fR,fm]at eW;simp only[Ex.ev,Sc.Ib,oe,eG]at eW;obtain⟨lJ,bM,w',hr,f1,f2,r1,r2,r3⟩:=alF 0 [] nX 0 (aX _) (xA _) rfl (.inl rfl) (by simpa using eW.1) (by simpa using eW.2);rw[tj]at ko;have HJ:aO (.slice nX 0 0)=none:=by cases nX<;>rfl
  rw[HJ]at r2 r3;simp only[eG,rU]at hr f1 r1 r3;have hb:((j8 .nil y).ev c.ρ).er= .l (dP E):=by have:=xY c.ρ (x:= .nil) (y:=y) (D1:=[]) (D2:=E) (by simp[Ex.ev,Sc.er]) hE;simpa using this
  have gg:=g.newRow (w':=w') (g.below.grown r2 g.hB (nofun)) r2.size (fun n hn=>r2.block n hn (by simp)) gV
   (k:=⟨el,ks,agg,j8 .nil y,true,none⟩) rfl (D:=E) (ad:=lJ) (n:=m) (cap:=bM) hb XR f1 f2
   (fun _=>r1.imp id fun r1=>⟨r1,fun p hp=>by
     rcases r3 with h|h
     ·rw[hp]at h;cases h
     ·exact h p hp⟩) (nofun) Ox
  refine⟨_,w',_,{c with R:=fun i=>if i=rd.nr then some (.slice lJ m bM)else c.R i},ko _ _ hr,.inl rfl,?_,fun _ _=>rfl,fun i hi=>by simp at hi;simp[hi],⟨by simp,lJ,m,bM,rfl⟩,gg⟩;exact⟨rfl,rfl,fun _ _ e=>e,fun i u e=>by
   by_cases h:i=rd.nr
   ·subst h;rw[gV]at e;cases e
   ·simp[h,e]⟩
 ·
  rename_i q es b mm hs;split at h;rotate_left
  ·cases h
  rename_i q' k YC O0 ye yr X6;split at h;rotate_left
  ·cases h
  rename_i hsr;cases h
  have alW:=gV rd.nr (by simp);simp only[aL,gP,AO,ei]at hsr;obtain⟨⟨⟨rQ,Mo⟩,Cj⟩,_⟩:=hsr;subst rQ Mo Cj;have tj:=cS.ev s;rw[hs]at tj;have Mm:∃a',a.eval s= .slice a' (mm.ev c.ρ).int.toNat (mm.ev c.ρ).int.toNat:=by obtain⟨_,_,_,a',_,e2,_⟩:=tj;exact⟨a',e2⟩
  obtain⟨a',Mm⟩:=Mm;obtain⟨nX,n0,ig,Fy,awG,aci,azf,alK,alJ,aej⟩:=eM g cS.row X6 (Sz tj);rw[Mm]at Fy;simp only[Value.slice.injEq]at Fy;obtain⟨e1,e2,e3⟩:=Fy;simp only at aej;obtain⟨_,hk0,_,_,_,_,_,_,_,atI,D0,hD0,alU,agP⟩:=aej;have alr:D0.length=n0:=by rw[eU (dh hD0)];exact alJ
  have eW:=vC (hn _ (cw.2 rfl)) dL;rw[zG,fR,fm,alJ]at eW;have Q4:0<m:=by have:((ye.ev c.ρ)::(yr.ev c.ρ).list).length=m:=fm;simp at this;omega
  have agW:n0=0\/∃x,nX=some x/\∀j u,(ag k.agg k.ks D0)[j]? =some u->w.cell? (x.add j)=some u:=by
   by_cases HI:n0=0
   ·exact .inl HI
   obtain⟨p,q',m',iZ,f1,f2,f3⟩:=atI (by omega);refine .inr ⟨_,f3,fun j u hj=> ?_⟩;obtain⟨p',o',g1,g2,_⟩:=agP j u hj;rw[f3]at g1;cases g1;have h0:(⟨p,q'+(YC.ev c.ρ).int.toNat*k.ks.length,none⟩:Addr).add j=⟨p,q'+(YC.ev c.ρ).int.toNat*k.ks.length+j,none⟩:=by unfold Addr.add;split<;>simp_all
   rw[h0];exact g2
  obtain⟨lJ,bM,w',hr,f1,f2,r1,r2,r3⟩:=FG (P:=P) w t o.type k.el i z k.ks.length i.bytes hu hi hz eT rfl zO i8 nX n0 (ag k.agg k.ks D0) (by rw[aD bT,alr]) agW ad m cc (ag k.agg k.ks E) (by rw[aD bT,XR]) Q4 gC (ni k.agg k.ks _) eW.2 eW.1;rw[Mm,hv,e1,e2]at ko;have gg:=g.newRow (w':=w') (g.below.grown r2 g.hB (nofun)) r2.size (fun n hn=>r2.block n hn (by simp)) alW
   (k:=⟨k.el,k.ks,k.agg,j8 (gU (.at (.sl q es b mm)) (some (q',k)) YC O0) (.o .cons ye yr),true,none⟩) rfl (D:=D0++E) (ad:=lJ) (n:=n0+m) (cap:=bM) (xY c.ρ hD0 hE) (by rw[fR,alr,XR]) f1 f2
   (fun _=>r1.imp id fun r1=>⟨by rw[cF];exact r1,r3⟩) (nofun) (fun x hx=>(ic.1 hx).elim (alU x) (Ox x))
  refine⟨_,w',_,{c with R:=fun i=>if i=rd.nr then some (.slice lJ (n0+m) bM)else c.R i},ko _ _ hr,.inl rfl,?_,fun _ _=>rfl,fun i hi=>by simp at hi;simp[hi],⟨by simp,lJ,n0+m,bM,rfl⟩,gg⟩;exact⟨rfl,rfl,fun _ _ e=>e,fun i u e=>by
   by_cases h:i=rd.nr
   ·subst h;rw[alW]at e;cases e
   ·simp[h,e]⟩
 ·cases h
end
section
variable{P:Program}{B:fZ}{w0:World}{σ:St}{c:Ct}{a:Act}{w:World}{o:Oper}{rd:Rd}
def Zm:∀(l:List Operand)(k:IntKind)(e e':Ex),mmL .max e (l.map rd.ev)=some e'->(∀x,(rd.ev x).rel c (a.eval x))->((l.map a.eval).foldlM Builtin.max2 (.int k (e.ev c.ρ).int)).run P w= .ok (.int k (e'.ev c.ρ).int) w
 |[],k,e,e',h,_=>by simp[mmL]at h;subst h;rfl
 |x::l,k,e,e',h,hr=>by
  have hx:=hr x;simp only[jQ]at h;unfold mmL at h;split at h
  ·rename_i h1;cases h1
  ·rename_i k' q r h2;simp only[uQ]at h2;obtain⟨h2,rfl⟩:=h2;rw[h2]at hx;have hx:a.eval x= .int k' (q.ev c.ρ).int:=hx;have ih:=Zm l k _ e' h hr;rw[aR]at ih;simp only[jQ,foldlM_cons,hx,Builtin.max2,Sem.run_bind,Sem.run_pure,Result.andThen_ok];exact ih
  ·cases h
def Zn:∀(l:List Operand)(k:IntKind)(e e':Ex),mmL .min e (l.map rd.ev)=some e'->(∀x,(rd.ev x).rel c (a.eval x))->((l.map a.eval).foldlM Builtin.min2 (.int k (e.ev c.ρ).int)).run P w= .ok (.int k (e'.ev c.ρ).int) w
 |[],k,e,e',h,_=>by simp[mmL]at h;subst h;rfl
 |x::l,k,e,e',h,hr=>by
  have hx:=hr x;simp only[jQ]at h;unfold mmL at h;split at h
  ·rename_i h1;cases h1
  ·rename_i k' q r h2;simp only[uQ]at h2;obtain⟨h2,rfl⟩:=h2;rw[h2]at hx;have hx:a.eval x= .int k' (q.ev c.ρ).int:=hx;have ih:=Zn l k _ e' h hr;rw[aR]at ih;simp only[jQ,foldlM_cons,hx,Builtin.min2,Sem.run_bind,Sem.run_pure,Result.andThen_ok];exact ih
  ·cases h
def v6{cons:ug}{gg:Nat}{xs:List SV}{r:dl}(h:tF P cons rd gg xs=some r)(hc:r.call=none):False:=by
 unfold tF at h;split at h
 ·split at h
  ·cases h;cases hc
  ·cases h
 ·cases h
def Dy{agg:Bool}{ks:jj}(h:oL agg ks)(l:ab)(n:Nat):(ag agg ks l).take (n*ks.length)=ag agg ks (l.take n):=by
 by_cases hn:n<=l.length
 ·have e:ag agg ks l=ag agg ks (l.take n)++ag agg ks (l.drop n):=by rw[<-cF,Qd]
  have hl:(ag agg ks (l.take n)).length=n*ks.length:=by rw[aD h,iW,vT hn]
  rw[e,iw (by omega),lQ (by omega)]
 ·rw[lQ (l:=l) (by omega),lQ (by rw[aD h];exact fu _ (by omega))]
def Dx{agg:Bool}{ks:jj}(h:oL agg ks)(l:ab)(n:Nat):(ag agg ks l).drop (n*ks.length)=ag agg ks (l.drop n):=by
 by_cases hn:n<=l.length
 ·have e:ag agg ks l=ag agg ks (l.take n)++ag agg ks (l.drop n):=by rw[<-cF,Qd]
  have hl:(ag agg ks (l.take n)).length=n*ks.length:=by rw[aD h,iW,vT hn]
  rw[e,<-hl,drop_left'];rfl
 ·rw[drop_of_length_le (l:=l) (by omega),drop_of_length_le (by rw[aD h];exact fu _ (by omega))];rfl
def W7(g:av P B w0 σ c a w)(cS:xz σ c a rd){cl:Call}(hc:cl.callee= .builtin .clear)(ho:o.op= .call cl){x:Operand}{t:TypeId}(dH:cl.args= #[x])(Mq:cl.argTypes= #[t]){el:TypeId}(hu:P.underlying t=some (.slice el)){rr es:Nat}{lo len:Ex}(mf:rd.ev x= .c (.a (.sl rr es lo len))){k:Rw}(hk:rd.row rr=some k){agg:Bool}{ks:jj}{z:Value}(hz:(P.info? el).bind (·.zero)=some z)(eQ:(k.own&&gP el ks agg (some (rr,k))&&bF agg ks&&Nat.beq es ks.length)=true){e:Ex}(he:vO P agg ks z.cells.toList=some e):
 cd P B w0 σ c a w o ⟨[],none,.t [],[],[(rr,some {k with cont:=j8 (xO .iM k.cont (.i 0) lo) (j8 (.o .Bp e len) (xO .iM k.cont (di (.add .i64) lo len) (jW .len k.cont)))})],[],[]⟩:=by
 simp only[aL,gP,AO,ei]at eQ
 obtain⟨⟨⟨bj,⟨⟨rQ,Mo⟩,Cj⟩,iQ⟩,qv⟩,Mn⟩:=eQ
 have iQ:=dF iQ
 have Mn:=fh Mn
 subst rQ Mo Cj Mn
 obtain⟨bT,i8⟩:=dq qv
 obtain⟨i,hi,hiz⟩:=AL.1 hz
 have Tc:=cS.row _ _ hk
 have Bf:=cS.ev x
 rw[mf]at Bf
 obtain⟨ad,n,cap,a',iZ,hR,Bf,q2,q3,q4,q5,q6,q7⟩:=Bf
 obtain⟨v,xR,D,lJ,n',bM,rfl,d0,h1,h2,h3,h4,_,h6⟩:=g.rows rr k Tc
 rw[hR]at xR;cases xR
 obtain⟨d,d1,d2,d3⟩:=uI he c.ρ
 have hL:(k.cont.ev c.ρ).list.length=n:=by rw[<-eU (dh d0)];exact h1
 obtain⟨L,hl⟩:∃L:Nat,(lo.ev c.ρ).int=L:=⟨_,(toNat_of_nonneg q2).symm⟩
 obtain⟨M,hm⟩:∃M:Nat,(len.ev c.ρ).int=M:=⟨_,(toNat_of_nonneg q3).symm⟩
 rw[hl,hm]at q4
 have q4':L+M<=n:=by omega
 have XT:((di (.add .i64) lo len).ev c.ρ).int=((L+M:Nat):Int):=by rw[aR];show IntKind.i64.wrap ((lo.ev c.ρ).int+(len.ev c.ρ).int)=_;rw[hl,hm,rJ (by omega) (by simp only[maxLen]at h3;omega)];simp
 have hA:((xO .iM k.cont (.i 0) lo).ev c.ρ).er= .l (dP (D.take L)):=by rw[qE];show(Sc.l (((k.cont.ev c.ρ).list.take (lo.ev c.ρ).int.toNat).drop 0)).er=_;rw[gh,hl,om,Ki,pM,<-dh d0,pM]
 have hB:((Ex.o .Bp e len).ev c.ρ).er= .l (dP (replicate M d)):=by show(Sc.l (replicate (len.ev c.ρ).int.toNat (e.ev c.ρ))).er=_;rw[gh,hm,om];simp only[oY,map_replicate,d1]
 have hC:((xO .iM k.cont (di (.add .i64) lo len) (jW .len k.cont)).ev c.ρ).er= .l (dP (D.drop (L+M))):=by rw[qE];show(Sc.l (((k.cont.ev c.ρ).list.take ((jW .len k.cont).ev c.ρ).int.toNat).drop ((di (.add .i64) lo len).ev c.ρ).int.toNat)).er=_;rw[gh,XT,om,eJ];simp only[U1.ev,Sc.KQ,om];rw[lQ (aX _),pK,<-dh d0,pK]
 have hD:=xY c.ρ hA (xY c.ρ hB hC)
 have hlen:(D.take L++(replicate M d++D.drop (L+M))).length=n:=by simp;omega
 have Yb:∀x∈D.take L++(replicate M d++D.drop (L+M)),dR P w (cD B σ c) k.agg k.ks x:=fun x hx=>by
  rcases ic.1 hx with hx|hx
  ·exact h6 x (vS hx)
  ·rcases ic.1 hx with hx|hx
   ·rw[eq_of_mem_replicate hx];exact d3 _ _
   ·exact h6 x (xB hx)
 have ko:∀w',(Builtin.clear_ #[t] o.type #[a.eval x]).run P w= .ok (.tuple #[]) w'->(execOp a.eval o).run P w= .ok (.value (.tuple #[])) w':=fun w' he=>by simp[execOp,ho,resolve,hc,dH,Mq,invoke,builtin,he]
 have agQ:(fun i=>if i=rr then some (Value.slice ad n cap)else c.R i)=c.R:=by
  funext i;by_cases h:i=rr
  ·subst h;simp[hR]
  ·simp[h]
 have fin:∀w',(Builtin.clear_ #[t] o.type #[a.eval x]).run P w= .ok (.tuple #[]) w'->w.grownBy w' (aO (.slice ad n cap))->(cap=0\/w'.ownsRow 0 k.el k.ks.length (.slice ad n cap) n (ag k.agg k.ks (D.take L++(replicate M d++D.drop (L+M)))))->
  cd P B w0 σ c a w o ⟨[],none,.t [],[],[(rr,some {k with cont:=j8 (xO .iM k.cont (.i 0) lo) (j8 (.o .Bp e len) (xO .iM k.cont (di (.add .i64) lo len) (jW .len k.cont)))})],[],[]⟩:=fun w' dD Q2 dz=>by
  have gg:=g.uf Tc bj hR (w':=w') Q2 (r':=rr) (k':={k with cont:=j8 (xO .iM k.cont (.i 0) lo) (j8 (.o .Bp e len) (xO .iM k.cont (di (.add .i64) lo len) (jW .len k.cont)))}) bj iQ hD hlen h2 h3 dz (.inl rfl) (.inr ⟨rfl,rfl⟩) Yb
  rw[agQ]at gg
  simp only[oQ]at gg
  exact⟨_,w',_,c,ko _ dD,.inl rfl,.refl c,fun _ _=>rfl,fun _ _=>rfl,⟨[],rfl,trivial⟩,gg⟩
 have h4:=(h4 bj).imp id (·.1.plain iQ)
 rw[hm]at Bf q7
 by_cases hM:M=0
 ·subst hM;refine fin w ?_ (World.grownBy.refl _ _) ?_
  ·rw[Bf];cases a'<;>simp[Builtin.clear_,run_underlying hu]
  ·simpa using h4
 ·obtain⟨b,o',e1,e2⟩:=q7 (by omega);rcases h4 with h|h4
  ·omega
  rcases h4.2 with⟨hv,_⟩|⟨p',bM,cur,hv,hb,lc,yA,oD,nP,Cu⟩
  ·cases hv;omega
  cases hv
  cases e1
  have Q7:∀u∈(Builtin.zeroCells z.cells M).toList,u.oneCell'=true:=by rw[<-sm bT i8 d2 M];exact ni _ _ _
  have hzl:(Builtin.zeroCells z.cells M).toList.length=M*k.ks.length:=by rw[<-sm bT i8 d2 M,aD bT,Ny]
  have EN:cur.toList.length=cap*k.ks.length:=by simpa using nP
  have hlm:L*k.ks.length+M*k.ks.length<=n*k.ks.length:=by rw[<-Ac];exact fu _ q4'
  have hnm:n*k.ks.length<=cap*k.ks.length:=fu _ h2;have fC:=run_storeCells_at P b (L*k.ks.length) k.el (Builtin.zeroCells z.cells M).toList 0 cur w lc (by
   have:cur.size=cur.toList.length:=by simp
   rw[this,EN,hzl];omega) Q7
  simp only[pA]at fC;refine fin _ ?_ ?_ (.inr ⟨by rw[aD bT,hlen],.inr ⟨b,cap,(cur.toList.take (L*k.ks.length)++(Builtin.zeroCells z.cells M).toList++cur.toList.drop (L*k.ks.length+(Builtin.zeroCells z.cells M).toList.length)).toArray,rfl,xA _,setRow_heap w b cur _ k.el _ lc,yA,oD,?_,?_⟩⟩)
  ·rw[Bf,e2];have hMn:(M:Int).toNat=M+0:=by simp
   cases M with
   |zero=>exact absurd rfl hM|succ M=>
    simp only[hl,om,eG];simp[Builtin.clear_,run_underlying hu,zeroValue,typeInfo,hi,hiz,fC]
  ·exact⟨rfl,rfl,rfl,by simp[World.setRow],fun j _ hj=>setRow_other w b j _ (fun e'=>hj (by rw[kr (by omega),e']))⟩
  ·simp only[Jq,fR,iW,tc,EN,hzl];omega
  ·simp only;rw[zu cur.toList _ (L*k.ks.length) _ (M:=n*k.ks.length) rfl (by rw[hzl];exact hlm) (by omega),Cu,hzl,cF,cF,Dy bT,<-Ac,Dx bT,sm bT i8 d2 M,eh]
def UM(g:av P B w0 σ c a w)(cS:xz σ c a rd){cl:Call}(hc:cl.callee= .builtin .copy)(ho:o.op= .call cl){d s:Operand}{t t':TypeId}(dH:cl.args= #[d,s])(Mq:cl.argTypes= #[t,t']){r:dl}(h:G5 P rd d s t=some r):cd P B w0 σ c a w o r:=by
 unfold G5 at h;split at h;rotate_left
 ·cases h
 rename_i el hu;split at h;rotate_left
 ·cases h
 rename_i agg ks i rr src lo len KN hi hd mi;split at h;rotate_left
 ·cases h
 rename_i k hk;split at h;rotate_left
 ·cases h
 rename_i eQ;simp only[aL,gP,AO,ei]at eQ;obtain⟨⟨⟨⟨⟨bj,⟨⟨rQ,Mo⟩,Cj⟩,iQ⟩,JT⟩,qv⟩,Wo⟩,Tc⟩:=eQ;cases h
 have iQ:=dF iQ;have Wo:i.size=1:=fh Wo;have Td:ks.length=1:=fh Tc;obtain⟨bT,i8⟩:=dq qv;have tj:=cS.ev d;rw[hd]at tj;obtain⟨hR,_⟩:=tj;have fK:=cS.row _ _ hk;obtain⟨v,xR,D,ad,n,cap,rfl,q0,q1,q2,q3,q4,q5,q6⟩:=g.rows rr k fK;rw[hR]at xR;have U8:a.eval d= .slice ad n cap:=xX xR;rw[U8]at hR;obtain⟨Sj,m,cc,hv,hlen,Cq,hmc,oD,fm,rf⟩:=eM g cS.row mi (cS.ev s);have OE:∃E:ab,((gU (rd.ev s) src lo len).ev c.ρ).er= .l (dP E)/\(∀x∈E,dR P w (cD B σ c) agg ks x)/\(m=0\/∃lJ,Sj=some lJ/\∀j u,(ag agg ks E)[j]? =some u->w.cell? (lJ.add j)=some u):=by
  cases src with
  |none=>
   refine⟨[],?_,(nofun),.inl rf.1⟩;obtain⟨_,_,hn⟩:=rf;rw[hn];simp[gU,Ex.ev,Sc.er]
  |some rk=>
   obtain⟨q,k2⟩:=rk;simp only at rf;obtain⟨_,_,_,_,Yy,_,_,_,_,atJ,E,hE,gj,hcell⟩:=rf;simp only[aL,AO,ei]at JT;obtain⟨⟨⟨_,atp⟩,agN⟩,_⟩:=JT;subst atp agN;refine⟨E,hE,gj,?_⟩;by_cases hm:m=0
   ·exact .inl hm
   obtain⟨p,q',m',iZ,e1,e2,e3⟩:=atJ (by omega);refine .inr ⟨_,e3,fun j u hj=> ?_⟩;obtain⟨p',o',f1,f2,_⟩:=hcell j u hj;rw[e3]at f1;cases f1;have h0:(⟨p,q'+(lo.ev c.ρ).int.toNat*k2.ks.length,none⟩:Addr).add j=⟨p,q'+(lo.ev c.ρ).int.toNat*k2.ks.length+j,none⟩:=by unfold Addr.add;split<;>simp_all
   rw[h0];exact f2
 generalize hy:gU (rd.ev s) src lo len=y at fm OE⊢;obtain⟨E,hE,Ox,gC⟩:=OE;have XR:E.length=m:=by rw[eU (dh hE)];exact fm
 have hDl:(k.cont.ev c.ρ).list.length=n:=by rw[<-eU (dh q0)];exact q1
 subst rQ Mo Cj;obtain⟨N,hN,hNm,hNn,hNx⟩:∃N,Nat.min m n=N/\N<=m/\N<=n/\((N=m/\m<=n)\/(N=n/\n<=m)):=⟨_,rfl,Nat.min_le_left _ _,Nat.min_le_right _ _,by
  rcases Nat.le_total m n with h|h
  ·exact .inl ⟨vT h,h⟩
  ·exact .inr ⟨Nat.min_eq_right h,h⟩⟩
 have ag6:((di .min (jW .len y) (jW .len k.cont)).ev c.ρ)= .i ((N:Nat):Int):=by rw[aR,eJ,eJ];simp only[U1.ev,U2.ev,Sc.KQ,fm,hDl];congr 1;split<;>omega
 have hA:((xO .iM y (.i 0) (di .min (jW .len y) (jW .len k.cont))).ev c.ρ).er= .l (dP (E.take (N))):=by rw[qE,ag6];show(Sc.l (((y.ev c.ρ).list.take (((N:Nat):Int)).toNat).drop 0)).er=_;rw[gh,om,Ki,pM,<-dh hE,pM]
 have hC:((xO .iM k.cont (di .min (jW .len y) (jW .len k.cont)) (jW .len k.cont)).ev c.ρ).er= .l (dP (D.drop (N))):=by rw[qE,ag6];show(Sc.l (((k.cont.ev c.ρ).list.take ((jW .len k.cont).ev c.ρ).int.toNat).drop (((N:Nat):Int)).toNat)).er=_;rw[gh,om,eJ];simp only[U1.ev,Sc.KQ,om];rw[lQ (aX _),pK,<-dh q0,pK]
 have hDD:=xY c.ρ hA hC;have aeg:(E.take (N)++D.drop (N)).length=n:=by simp only[fR,iW,tc,XR,q1];omega
 have Yb:∀x∈E.take (N)++D.drop (N),dR P w (cD B σ c) k.agg k.ks x:=fun x hx=>by
  rcases ic.1 hx with hx|hx
  ·exact Ox x (vS hx)
  ·exact q6 x (xB hx)
 have ko:∀v' w',(Builtin.copy_ #[t,t'] o.type #[a.eval d,a.eval s]).run P w= .ok v' w'->(execOp a.eval o).run P w= .ok (.value v') w':=fun v' w' he=>by simp[execOp,ho,resolve,hc,dH,Mq,invoke,builtin,he]
 have agQ:(fun i=>if i=rr then some (Value.slice ad n cap)else c.R i)=c.R:=by
  funext i;by_cases h:i=rr
  ·subst h;simp[hR]
  ·simp[h]
 have fin:∀w',(Builtin.copy_ #[t,t'] o.type #[a.eval d,a.eval s]).run P w= .ok (.int .i64 ((N:Nat):Int)) w'->w.grownBy w' (aO (.slice ad n cap))->(cap=0\/w'.ownsRow 0 k.el k.ks.length (.slice ad n cap) n (ag k.agg k.ks (E.take (N)++D.drop (N))))->
  cd P B w0 σ c a w o ⟨[],none,.at (.int .i64 (di .min (jW .len y) (jW .len k.cont))),[],[(rr,some {k with cont:=j8 (xO .iM y (.i 0) (di .min (jW .len y) (jW .len k.cont))) (xO .iM k.cont (di .min (jW .len y) (jW .len k.cont)) (jW .len k.cont))})],[],[]⟩:=fun w' dD Q2 dz=>by
  have gg:=g.uf fK bj hR (w':=w') Q2 (r':=rr) (k':={k with cont:=j8 (xO .iM y (.i 0) (di .min (jW .len y) (jW .len k.cont))) (xO .iM k.cont (di .min (jW .len y) (jW .len k.cont)) (jW .len k.cont))}) bj iQ hDD aeg q2 q3 dz (.inl rfl) (.inr ⟨rfl,rfl⟩) Yb
  rw[agQ]at gg
  simp only[oQ]at gg
  exact⟨_,w',_,c,ko _ _ dD,.inl rfl,.refl c,fun _ _=>rfl,fun _ _=>rfl,by show _=_;rw[ag6];rfl,gg⟩
 have q4:=(q4 bj).imp id (·.1.plain iQ);by_cases h0:N=0
 ·refine fin w ?_ (World.grownBy.refl _ _) ?_
  ·rw[U8,hv,run_copy_none w t t' o.type k.el ad Sj n cap m cc hu (by rw[hi];simp[Wo]) (by rw[hN,h0]),h0];rfl
  ·rw[h0];simpa using q4
 ·have Q4:m≠0:=by omega
  have HI:n≠0:=by omega
  rcases q4 with hz|hw
  ·omega
  rcases hw.2 with⟨HO,_⟩|⟨p,bM,cur,HO,hb,lc,yA,as1,nP,Cu⟩
  ·cases HO;exact absurd rfl HI
  cases HO
  obtain⟨lJ,rfl,ams⟩:=gC.resolve_left Q4;have hfE:(ag k.agg k.ks (E.take (N)))=(ag k.agg k.ks E).take (N):=by
   have h1:ag k.agg k.ks E=ag k.agg k.ks (E.take (N))++ag k.agg k.ks (E.drop (N)):=by rw[<-cF,Qd]
   rw[h1,take_left' (by rw[aD bT,Td,iW,XR];omega)]
  have ut:(ag k.agg k.ks (E.take (N))).length=N:=by rw[aD bT,Td,iW,XR];omega
  have dD:=run_copy_row (P:=P) w t t' o.type k.el p 0 n cap lJ m cc cur k.el (ag k.agg k.ks (E.take (N))) hu (by rw[hi];simp[Wo]) lc (by rw[ut,hN]) (fun j u hj=>by
   rw[hfE]at hj;refine ams j u ?_;rw[qg]at hj;split at hj
   ·exact hj
   ·cases hj) (by rw[ut,nP,Td];omega) (ni k.agg k.ks _)
  refine fin (w.setRow p (cur.toList.take 0++ag k.agg k.ks (E.take N)++cur.toList.drop (0+(ag k.agg k.ks (E.take N)).length)).toArray) (by rw[U8,hv,dD,ut];rfl) ⟨rfl,rfl,rfl,by simp[World.setRow],fun j _ hj=>setRow_other w p j _ (fun e'=>hj (by rw[kr (by omega),e']))⟩ (.inr ⟨by rw[aD bT,aeg],.inr ⟨p,cap,_,rfl,xA _,setRow_heap w p cur _ k.el _ lc,yA,as1,?_,?_⟩⟩)
  ·simp only[eG,take_zero,rU,Jq,fR,tc,ut,cW,nP,Td];omega
  ·simp only[eG,take_zero,rU];rw[cF];have DH:cur.toList=ag k.agg k.ks D++cur.toList.drop (n*k.ks.length):=by rw[<-Cu,Qd]
   have Mt:(ag k.agg k.ks D).drop (N)=ag k.agg k.ks (D.drop (N)):=by
    have h1:ag k.agg k.ks D=ag k.agg k.ks (D.take (N))++ag k.agg k.ks (D.drop (N)):=by rw[<-cF,Qd]
    rw[h1,Si (by rw[aD bT,Td,iW,q1];omega),rV (by rw[aD bT,Td,iW,q1];omega),rU]
   rw[ut,DH,Si (by rw[aD bT,Td,q1];omega),Mt,<-eh,take_left' (by rw[fR,ut,aD bT,tc,q1,Td];omega)]
def Qm(g:av P B w0 σ c a w)(cS:xz σ c a rd){cons:ug}{cl:Call}(ho:o.op= .call cl){r:dl}(gV:∀i∈r.nr,c.R i=none)(h:wP P cons rd cl=some r)(cC:r.call=none)(hn:∀e∈r.eZ,(e.ev c.ρ).bool=true):cd P B w0 σ c a w o r:=by
 have h':=h
 unfold wP at h
 split at h
 ·
  rename_i hc;split at h
  ·rename_i x t ts h1 h2;have dH:cl.args= #[x]:=by rw[<-h1]
   have ht:cl.argTypes[0]? =some t:=by rw[<-qf,h2];rfl
   have hx:=cS.ev x;have ko:∀v',(Builtin.len_ cl.argTypes o.type #[a.eval x]).run P w= .ok v' w->(execOp a.eval o).run P w= .ok (.value v') w:=fun v' he=>by simp[execOp,ho,resolve,hc,dH,invoke,builtin,he]
   split at h
   ·rename_i e hu mf;cases h
    rw[mf]at hx;have hx:a.eval x= .string (e.ev c.ρ).str:=hx;exact cd.quiet g (ko _ (by simp[Builtin.len_,ht,run_underlying hu,hx];rfl)) (by show _=_;rw[eJ];rfl)
   ·rename_i el b lo n hu mf;cases h
    rw[mf]at hx;obtain⟨m,cap,_,hv⟩:=hx;exact cd.quiet g (ko (.int .i64 n) (by simp[Builtin.len_,ht,run_underlying hu,hv,goInt])) rfl
   ·rename_i el y hu _;simp only[nW]at h;obtain⟨⟨src,lo,len⟩,hs,rfl⟩:=h;obtain⟨ad,n,cap,hv,hl,_⟩:=eM g cS.row hs hx;exact cd.quiet g (ko (.int .i64 n) (by simp[Builtin.len_,ht,run_underlying hu,hv,goInt])) (by show _=_;rw[hl])
   ·rename_i n el hu;cases h
    exact cd.quiet g (ko (.int .i64 n) (by
     have:∀v:Value,(Builtin.len_ cl.argTypes o.type #[v]).run P w= .ok (.int .i64 n) w:=fun v=>by cases v<;>simp[Builtin.len_,ht,run_underlying hu,goInt]
     exact this _)) rfl
   ·cases h
  ·cases h
 ·
  rename_i hc;split at h
  ·rename_i x t ts h1 h2;have dH:cl.args= #[x]:=by rw[<-h1]
   have ht:cl.argTypes[0]? =some t:=by rw[<-qf,h2];rfl
   have hx:=cS.ev x;split at h
   ·rename_i el hu mf;cases h
    rw[mf]at hx;obtain⟨ad,hv⟩:=hx;exact cd.quiet g (v:= .int .i64 0) (by simp[execOp,ho,resolve,hc,dH,invoke,builtin,Builtin.cap_,ht,hv,run_underlying hu,goInt]) rfl
   ·cases h
  ·cases h
 ·
  rename_i hc;split at h;rotate_left
  ·cases h
  rename_i x t h1 h2;split at h;rotate_left
  ·cases h
  rename_i el rr es lo len hu mf;split at h;rotate_left
  ·cases h
  rename_i k agg ks z hk KN hz;split at h;rotate_left
  ·cases h
  rename_i eQ;split at h;rotate_left
  ·cases h
  rename_i e he;cases h
  exact W7 g cS hc ho (by rw[<-h1]) (by rw[<-h2]) hu mf hk hz eQ he
 ·
  rename_i hc;split at h
  ·rename_i x l h1;have hx:=cS.ev x;split at h
   ·rename_i k e mf;simp only[nW]at h;obtain⟨e',h2,rfl⟩:=h;rw[mf]at hx;have hx:a.eval x= .int k (e.ev c.ρ).int:=hx;have:=Zm (P:=P) (w:=w) l k e e' h2 cS.ev;exact cd.quiet g (v:= .int k (e'.ev c.ρ).int) (by simp[execOp,ho,resolve,hc,invoke,builtin,Builtin.max_,h1,hx,this]) rfl
   ·cases h
  ·cases h
 ·
  rename_i hc;split at h
  ·rename_i x l h1;have hx:=cS.ev x;split at h
   ·rename_i k e mf;simp only[nW]at h;obtain⟨e',h2,rfl⟩:=h;rw[mf]at hx;have hx:a.eval x= .int k (e.ev c.ρ).int:=hx;have:=Zn (P:=P) (w:=w) l k e e' h2 cS.ev;exact cd.quiet g (v:= .int k (e'.ev c.ρ).int) (by simp[execOp,ho,resolve,hc,invoke,builtin,Builtin.min_,h1,hx,this]) rfl
   ·cases h
  ·cases h
 ·
  rename_i hc;split at h
  ·rename_i d s t t' h1 h2;exact UM g cS hc ho (by rw[<-h1]) (by rw[<-h2]) h
  ·cases h
 ·rename_i hc;exact UD g cS hc ho gV h' hn
 ·
  split at h
  ·exact(v6 h cC).elim
  ·exact(v6 h cC).elim
  ·cases h
 ·split at h
  ·split at h
   ·exact(v6 h cC).elim
   ·cases h
  ·cases h
 ·cases h
end
def Z8(off:Nat):∀(us:aW)(k:Nat)(vs:aW),off+k+us.length<=vs.length->(us.zipIdx k).foldl (fun(cs:Array Value)(x:Value×Nat)=>cs.setIfInBounds (off+x.2) x.1) vs.toArray=(vs.take (off+k)++us++vs.drop (off+k+us.length)).toArray
 |[],k,vs,_=>by simp
 |u::us,k,vs,h=>by
  simp only[AM]at h;simp only[zipIdx_cons,foldl_cons,setIfInBounds_toArray];rw[Z8 off us (k+1) (vs.set (off+k) u) (by simp;omega)];congr 1;have h1:(vs.set (off+k) u).take (off+(k+1))=vs.take (off+k)++[u]:=by rw[show off+(k+1)=(off+k)+1 by omega,take_succ_eq_append_getElem (by simp;omega)];simp[take_set_of_le]
  have h2:(vs.set (off+k) u).drop (off+(k+1)+us.length)=vs.drop (off+k+(us.length+1)):=by rw[show off+(k+1)+us.length=off+k+(us.length+1)by omega,drop_set_of_lt (by omega)]
  rw[h1,h2];simp
def Uf(off:Nat)(us vs:aW)(h:off+us.length<=vs.length)(f:Array Value->Value×Nat->Array Value)(hf:f=fun cs x=>cs.setIfInBounds (off+x.2) x.1):
 us.toArray.zipIdx.foldl f vs.toArray=(vs.take off++us++vs.drop (off+us.length)).toArray:=by
 subst hf
 have:=Z8 off us 0 vs (by simpa using h)
 rw[<-Array.foldl_toList,Array.toList_zipIdx]
 simpa using this
section
variable{P:Program}{B:fZ}{w0:World}{σ:St}{c:Ct}{a:Act}{w:World}{o:Oper}{rd:Rd}
def Dw{place:Nat->Option (Nat×Nat)}:∀{parts:List (Nat×SV)}{kH:List (Nat×Value)}{cs Ap:eO}{vs:aW},EE place cs parts=some Ap->cm c cs vs->cs.length=vs.length->parts.length=kH.length->(∀i(h1:i<parts.length)(h2:i<kH.length),(parts[i]).1=(kH[i]).1/\(parts[i]).2.rel c (kH[i]).2)->∃PT,Instr.fill place vs.toArray kH=some PT.toArray/\cm c Ap PT
 |[],[],cs,Ap,vs,h,hr,_,_,_=>by simp[EE]at h;subst h;exact⟨vs,rfl,hr⟩
 |[],_::_,_,_,_,_,_,_,hl,_=>by simp at hl
 |_::_,[],_,_,_,_,_,_,hl,_=>by simp at hl
 |(i,x)::parts,(i',v)::kH,cs,Ap,vs,h,hr,nP,hl,hp=>by
  have h0:=hp 0 (by simp) (by simp);simp only[getElem_cons_zero]at h0;obtain⟨rfl,hx⟩:=h0;unfold EE at h;split at h
  ·rename_i off size xs h1 h2;split at h
   ·rename_i hlen;obtain⟨hlen,JR⟩:=hlen;split at h
    ·rename_i cs2 h3;obtain⟨us,hu,Wq⟩:=nF h2 JR hx;obtain⟨h4,h5⟩:=tZ h3 hr Wq;have hul:us.length=size:=by rw[nw Wq,hlen]
     have h6:=Uf off us vs h5 _ rfl;have:=Dw (parts:=parts) (kH:=kH) h h4 (by
      have:=nw h4;exact this.symm) (by simpa using hl) (fun j h1 h2=>by have:=hp (j+1) (by simp;omega) (by simp;omega);simpa using this)
     obtain⟨PT,e1,e2⟩:=this;refine⟨PT,?_,e2⟩;unfold Instr.fill;simp only[h1,hu,Jq,hul];rw[aE (by simp;omega)];rw[h6];exact e1
    ·cases h
   ·cases h
  ·cases h
def WL{k:CK}{x:At}{e:Ex}(h:abp k x=some e){v:Value}(hr:x.rel c v):v=k.val (e.ev c.ρ)/\∀el,k≠.sl el:=by
 unfold abp at h;split at h
 ·split at h
  ·rename_i hk;cases h;subst hk;exact⟨hr,nofun⟩
  ·cases h
 ·cases h;exact⟨hr,nofun⟩
 ·cases h;exact⟨hr,nofun⟩
 ·cases h
def av.F2:∀{fr:cv}{σ:St},av P B w0 σ c a w->(∀q z,(q,z)∈fr->∃k,σ.row q=some k/\k.hole=none/\z=some {k with own:=false})->
 av P B w0 {σ with rows:=ai σ.rows fr} c a w/\(∀q k,σ.row q=some k->St.row {σ with rows:=ai σ.rows fr} q=(if q∈fr.map (·.1)then some {k with own:=false}else some k))
 |[],σ,g,_=>⟨g,fun q k h=>by simp only[map_nil,nV,na];exact h⟩|(r,z)::fr,σ,g,h=>by
  obtain⟨k,hk,hp,rfl⟩:=h r z (by simp);have g1:=g.freeze hk hp;have dz:∀q,St.row {σ with rows:=bU none σ.rows r (some {k with own:=false})} q=if q=r then some {k with own:=false}else σ.row q:=fun q=>ik σ.rows r _ q
  obtain⟨g2,h2⟩:=av.F2 (fr:=fr) g1 (fun q z hz=>by
   obtain⟨k',fK,hz'⟩:=h q z (bB _ hz);by_cases hq:q=r
   ·subst hq;rw[hk]at fK;cases fK;exact⟨{k with own:=false},by rw[dz,aA rfl],hz'⟩
   ·exact⟨k',by rw[dz,aE hq];exact fK,hz'⟩)
  refine⟨g2,fun q k' fK=> ?_⟩;have e:(St.row {σ with rows:=ai σ.rows ((r,some {k with own:=false})::fr)} q)=St.row {{σ with rows:=bU none σ.rows r (some {k with own:=false})}with rows:=ai (bU none σ.rows r (some {k with own:=false})) fr} q:=rfl;rw[e];by_cases hq:q=r
  ·subst hq;rw[hk]at fK;cases fK;rw[h2 q {k with own:=false} (by rw[dz,aA rfl])];simp only[ite_self,jQ,bX,true_or,qO]
  ·rw[h2 q k' (by rw[dz,aE hq];exact fK)];simp only[jQ,bX,hq,false_or]
def PA{row row':iu}{sv:SV}{src:Option (Nat×Rw)}{lo len:Ex}(h:bq row sv=some (src,lo,len))(h2:∀q k,row q=some k->src=some (q,k)->row' q=some {k with own:=false}):
 bq row' sv=some (src.map (fun x=>(x.1,{x.2 with own:=false})),lo,len):=by
 rcases sv with(x|cs)|xs|_|_
 case c.g=>simp[bq]at h
 case t=>simp[bq]at h
 case nx=>simp[bq]at h
 case JU=>simp[bq]at h
 cases x<;>try(simp[bq]at h;done)
 case vec r=>
  cases hk:row r with
  |none=>simp[bq,hk]at h|some k=>
   by_cases hf:bF k.agg k.ks=true/\k.plain=true
   ·simp[bq,hk,hf]at h;obtain⟨rfl,rfl,rfl⟩:=h;have hp:Rw.plain {k with own:=false}=true:=hf.2;simp[bq,h2 r k hk rfl,hf.1,hp]
   ·simp only[bq,hk,aL]at h;rw[aE hf]at h;cases h
 case sl r es YC O0=>
  cases hk:row r with
  |none=>simp[bq,hk]at h|some k=>
   by_cases hf:es=k.ks.length/\bF k.agg k.ks=true/\k.plain=true
   ·simp[bq,hk,hf]at h;obtain⟨rfl,rfl,rfl⟩:=h;have hp:Rw.plain {k with own:=false}=true:=hf.2.2;simp[bq,h2 r k hk rfl,hf.1,hf.2.1,hp]
   ·simp only[bq,hk]at h;rw[aE hf]at h;cases h
 case wz=>
  simp[bq]at h;obtain⟨rfl,rfl,rfl⟩:=h;simp[bq]
def AD{row:iu}{x:At}{r:Nat}{k:Rw}{lo len:Ex}(h:bq row (.at x)=some (some (r,k),lo,len)):k.hole=none:=by
 cases x<;>simp only[bq]at h<;>try(cases h;done)
 all_goals
  split at h
  ·split at h
   ·rename_i hc;cases h
    try simp only[aL]at hc
    first|exact dF hc.2|exact dF hc.2.2
   ·cases h
  ·cases h
def tX{row:iu}{x:At}{r:Nat}{k:Rw}{lo len:Ex}(h:bq row (.at x)=some (some (r,k),lo,len)):row r=some k:=by
 cases x<;>simp[bq]at h
 case vec q=>
  split at h
  ·rename_i k' fK;split at h<;>simp at h;obtain⟨⟨rfl,rfl⟩,_⟩:=h;exact fK
  ·cases h
 case sl q es l1 l2=>
  split at h
  ·rename_i k' fK;split at h<;>simp at h;obtain⟨⟨rfl,rfl⟩,_⟩:=h;exact fK
  ·cases h
def Fz(row:iu)(σ:St)(fr:cv):Prop:=∀q k,row q=some k->(k.own=false\/(q,some {k with own:=false})∈fr)->σ.row q=some {k with own:=false}
def lM(row:iu)(fr:cv):Prop:=∀q z,(q,z)∈fr->∃k,row q=some k/\k.hole=none/\z=some {k with own:=false}
def Fz.left{row:iu}{f1 f2:cv}(h:Fz row σ (f1++f2)):Fz row σ f1:=fun q k hk hc=>h q k hk (hc.imp id (fun m=>iv _ m))
def Fz.right{row:iu}{f1 f2:cv}(h:Fz row σ (f1++f2)):Fz row σ f2:=fun q k hk hc=>h q k hk (hc.imp id (fun m=>cz _ m))
def lM.append{row:iu}{f1 f2:cv}(h1:lM row f1)(h2:lM row f2):lM row (f1++f2):=fun q z hz=>(ic.1 hz).elim (h1 q z) (h2 q z)
def lM.nil{row:iu}:lM row []:=nofun
def UE{row:iu}{el:TypeId}{ks:jj}{agg:Bool}{x:At}{e:Ex}{fr:cv}(h:Do row el ks agg x=some (e,fr)):lM row fr:=by
 unfold Do at h;split at h
 ·rename_i r k lo len hs;have hk:=tX hs;have hp:=AD hs;split at h
  ·simp only[eF,iK]at h;obtain⟨rfl,rfl⟩:=h;intro q z hz;cases bj:k.own
   ·rw[bj]at hz;simp at hz
   ·rw[bj]at hz;simp at hz;obtain⟨rfl,rfl⟩:=hz;exact⟨k,hk,hp,rfl⟩
  ·cases h
 ·cases h;exact .nil
 ·cases h
def NM(g:av P B w0 σ c a w){row:iu}{el:TypeId}{ks:jj}{agg:Bool}{x:At}{e:Ex}{fr:cv}(h:Do row el ks agg x=some (e,fr))(hT:eC P el=some (agg,ks))(hfz:Fz row σ fr){v:Value}(hv:x.rel c v):jk P w (cD B σ c) (.ck (.sl el)) v (e.ev c.ρ):=by
 unfold Do at h
 split at h
 ·rename_i r k lo len hs;split at h
  ·rename_i hc;obtain⟨rfl,rfl,rfl⟩:=hc;simp only[eF,iK]at h;obtain⟨rfl,rfl⟩:=h;have hrk:row r=some k:=tX hs;have hs':=PA (row':=σ.row) hs (fun q k' hq JT=>by
    simp at JT;obtain⟨rfl,rfl⟩:=JT;refine hfz r k hrk ?_;cases bj:k.own
    ·exact .inl rfl
    ·right;simp)
   obtain⟨ad,n,cap,hv',hl,Cq,yA,oD,fm,rf⟩:=eM g (fun _ _ h=>h) hs' hv;simp only[Option.map_some]at rf fm;obtain⟨_,_,_,_,_,_,_,_,_,_,D,hD,gj,hcell⟩:=rf;have alL:gU (.at x) (some (r,k)) lo len=gU (.at x) (some (r,{k with own:=false})) lo len:=by cases x<;>rfl
   rw[<-alL]at hD fm;refine⟨.r ad n cap D,by rw[ale];exact hD.symm,hv',.sl hT (by rw[eU (dh hD)];exact fm) yA oD (fun j u hj=> ?_) gj⟩;obtain⟨p,o,e1,e2,e3⟩:=hcell j u hj;exact⟨p,o,e1,e2,e3 trivial⟩
  ·cases h
 ·rename_i lo len hs;cases h
  cases x<;>simp[bq]at hs
  case wz=>
   obtain⟨ad,rfl⟩:=hv;exact⟨.r ad 0 0 [],by simp[Ex.ev,Sc.er],rfl,.sl hT rfl (aX _) (xA _) (fun j u hj=>by simp[ag]at hj) (nofun)⟩
  case vec q=>split at hs<;>(try split at hs)<;>simp at hs
  case sl q _ _ _=>split at hs<;>(try split at hs)<;>simp at hs
 ·cases h
def rL{row:iu}{k:CK}{x:At}{e:Ex}{fr:cv}(h:rZ P row k x=some (e,fr)):lM row fr:=by
 unfold rZ at h;split at h
 ·split at h
  ·split at h
   ·exact UE h
   ·cases h
  ·cases h
 ·obtain⟨y,_,h2⟩:=nW.1 h;simp only[iK]at h2;rw[<-h2.2];exact .nil
def B6{row:iu}{k:CK}{x:At}{y:Ex×cv}(h:rZ P row k x=some y):x.known=true:=by
 cases x<;>try rfl
 all_goals
  unfold rZ at h
  split at h
  ·split at h
   ·split at h
    ·simp[At.Xf,Do,bq]at h
    ·cases h
   ·cases h
  ·cases k<;>simp[abp]at h
def iP(g:av P B w0 σ c a w){row:iu}{k:CK}{x:At}{e:Ex}{fr:cv}(h:rZ P row k x=some (e,fr))(hfz:Fz row σ fr){v:Value}(hv:x.rel c v):
 jk P w (cD B σ c) (.ck k) v (e.ev c.ρ):=by
 unfold rZ at h
 split at h
 ·split at h
  ·rename_i hT;split at h
   ·exact NM g h hT hfz (At.UO hv)
   ·cases h
  ·cases h
 ·obtain⟨y,h1,h2⟩:=nW.1 h;simp only[iK]at h2;obtain⟨rfl,rfl⟩:=h2;obtain⟨e1,e2⟩:=WL h1 hv;exact⟨_,rfl,e1,KD e2 _⟩
def wX:List (CK×Ex)->ab->aW
 |p::ps,d::ds=>p.1.val d::wX ps ds|_,_=>[]
def uJ(e:Ex):∀(ks:jj)(ds l:ab),ds.length=ks.length->jD (.l (l++ds)) ks l.length=wX (nu e ks l.length) ds
 |[],[],l,_=>rfl|k::ks,d::ds,l,h=>by
  have ih:=uJ e ks ds (l++[d]) (by simpa using h);simp only[jD,nu,wX,Sc.Ib];congr 1
  ·simp
  ·simpa using ih
 |[],_::_,_,h=>by simp at h
 |_::_,[],_,h=>by simp at h
def kt(e:Ex):∀(ks:jj)(n:Nat),(nu e ks n).length=ks.length
 |[],_=>rfl|k::ks,n=>by simp[nu,kt e ks]
def Bj(e:Ex):∀(ks:jj)(n i:Nat)(p:CK×Ex),(nu e ks n)[i]? =some p->ks[i]? =some p.1/\p.2=jW (.cell (n+i)) e
 |k::ks,n,0,p,h=>by simp[nu]at h;subst h;exact⟨rfl,rfl⟩
 |k::ks,n,i+1,p,h=>by have:=Bj e ks (n+1) i p (by simpa[nu]using h);rw[show n+(i+1)=n+1+i by omega];exact⟨by simpa using this.1,this.2⟩
 |[],_,_,_,h=>by simp[nu]at h
def CP{row:iu}:∀{ps:List (CK×Ex)}{off:Nat}{xs:eO}{e:Ex}{fr:cv},oh P row ps off xs=some (e,fr)->lM row fr/\xs.all At.known=true
 |[],0,[],e,fr,h=>by simp[oh]at h;obtain⟨rfl,rfl⟩:=h;exact⟨.nil,rfl⟩
 |[],0,_::_,_,_,h=>by simp[oh]at h
 |[],_+1,_,_,_,h=>by simp[oh]at h
 |(k,e0)::ps,0,[],e,fr,h=>by
  simp only[oh]at h;split at h
  ·rename_i r f h1;cases h;exact CP h1
  ·cases h
 |(k,e0)::ps,0,x::xs,e,fr,h=>by
  simp only[oh]at h;split at h
  ·rename_i e1 f r fs h1 h2;cases h
   have ih:=CP h2;exact⟨(rL h1).append ih.1,by simp[B6 h1];simpa using ih.2⟩
  ·cases h
 |(k,e0)::ps,n+1,xs,e,fr,h=>by
  simp only[oh]at h;split at h
  ·rename_i r f h1;cases h;exact CP h1
  ·cases h
def sH(g:av P B w0 σ c a w){row:iu}:∀{ps:List (CK×Ex)}{off:Nat}{xs:eO}{e:Ex}{fr:cv},oh P row ps off xs=some (e,fr)->Fz row σ fr->∀{us vs:aW},us.length=ps.length->cm c xs vs->(∀i p,ps[i]? =some p->(i<off\/off+xs.length<=i)->∃u,us[i]? =some u/\jk P w (cD B σ c) (.ck p.1) u (p.2.ev c.ρ))->∃ds:ab,ds.length=ps.length/\(e.ev c.ρ).er= .l (dP ds)/\(∀i p,ps[i]? =some p->Fits P w (cD B σ c) p.1 (ds.getD i (.i 0)))/\wX ps ds=us.take off++vs++us.drop (off+vs.length)/\off+vs.length<=us.length
 |[],0,[],e,fr,h,hf,us,vs,hl,hv,ho=>by
  simp[oh]at h;obtain⟨rfl,rfl⟩:=h;cases vs with
  |cons=>exact hv.elim|nil=>
   have:us=[]:=px (by simpa using hl);subst this;exact⟨[],rfl,by simp[Ex.ev,Sc.er],fun i p h=>by simp at h,rfl,by simp⟩
 |[],0,_::_,_,_,h,_,_,_,_,_,_=>by simp[oh]at h
 |[],_+1,_,_,_,h,_,_,_,_,_,_=>by simp[oh]at h
 |(k,e0)::ps,0,[],e,fr,h,hf,us,vs,hl,hv,ho=>by
  simp only[oh]at h;split at h;rotate_left
  ·cases h
  rename_i r f h1;cases h
  match us,hl with
  |u::us,hl=>
   obtain⟨u',hu',d,hd,U8,QU⟩:=ho 0 (k,e0) rfl (.inr (xA _));simp at hu';subst hu';cases vs with
   |cons=>exact hv.elim|nil=>
    obtain⟨ds,q1,q2,q3,q4,q5⟩:=sH (us:=us) (vs:=[]) g h1 hf (by simpa using hl) trivial (fun i p hp hi=>by obtain⟨u2,e1,e2⟩:=ho (i+1) p (by simpa using hp) (.inr (xA _));exact⟨u2,by simpa using e1,e2⟩)
    refine⟨d::ds,by simp[q1],?_,fun i p hp=> ?_,?_,by simp⟩
    ·have:=dh q2;simp only[Ex.ev,U2.ev,gh,Ce];rw[hd,this]
    ·match i,hp with
     |0,hp=>simp at hp;subst hp;exact QU|i+1,hp=>simpa using q3 i p (by simpa using hp)
    ·simp only[wX,take_zero,rU,oe,pA,Ki]at q4⊢;rw[q4,<-U8]
 |(k,e0)::ps,0,x::xs,e,fr,h,hf,us,vs,hl,hv,ho=>by
  simp only[oh]at h;split at h;rotate_left
  ·cases h
  rename_i e1 f r fs h1 h2;cases h
  match us,hl,vs,hv with
  |u::us,hl,v::vs,hv=>
   obtain⟨d,hd,U8,QU⟩:=iP g h1 hf.left hv.1;obtain⟨ds,q1,q2,q3,q4,q5⟩:=sH (us:=us) (vs:=vs) g h2 hf.right (by simpa using hl) hv.2 (fun i p hp hi=>by obtain⟨u2,e1,e2⟩:=ho (i+1) p (by simpa using hp) (by simp;omega);exact⟨u2,by simpa using e1,e2⟩)
   refine⟨d::ds,by simp[q1],?_,fun i p hp=> ?_,?_,by simp at q5⊢;omega⟩
   ·have:=dh q2;simp only[Ex.ev,U2.ev,gh,Ce];rw[hd,this]
   ·match i,hp with
    |0,hp=>simp at hp;subst hp;exact QU|i+1,hp=>simpa using q3 i p (by simpa using hp)
   ·simp only[take_zero,rU,eG]at q4;simp only[wX,take_zero,rU,eG,AM,drop_succ_cons,Fe];rw[q4,<-U8]
 |(k,e0)::ps,n+1,xs,e,fr,h,hf,us,vs,hl,hv,ho=>by
  simp only[oh]at h;split at h;rotate_left
  ·cases h
  rename_i r f h1;cases h
  match us,hl with
  |u::us,hl=>
   obtain⟨u',hu',d,hd,U8,QU⟩:=ho 0 (k,e0) rfl (.inl (succ_pos _));simp at hu';subst hu';obtain⟨ds,q1,q2,q3,q4,q5⟩:=sH (us:=us) (vs:=vs) g h1 hf (by simpa using hl) hv (fun i p hp hi=>by obtain⟨u2,e1,e2⟩:=ho (i+1) p (by simpa using hp) (by omega);exact⟨u2,by simpa using e1,e2⟩)
   refine⟨d::ds,by simp[q1],?_,fun i p hp=> ?_,?_,by simp;omega⟩
   ·have:=dh q2;simp only[Ex.ev,U2.ev,gh,Ce];rw[hd,this]
   ·match i,hp with
    |0,hp=>simp at hp;subst hp;exact QU|i+1,hp=>simpa using q3 i p (by simpa using hp)
   ·simp only[wX,take_succ_cons,Fe];rw[show n+1+vs.length=(n+vs.length)+1 by omega,drop_succ_cons,q4,<-U8]
def QA(g:av P B w0 σ c a w){row:iu}{agg:Bool}{ks:jj}{e0 e:Ex}{xs:eO}{fr:cv}(h:uo P row agg ks e0 0 xs=some (e,fr))(hx:xs.length=ks.length)(hf:Fz row σ fr){vs:aW}(hv:cm c xs vs):
 ∃d:Sc,d.er=(e.ev c.ρ).er/\dR P w (cD B σ c) agg ks d/\bP agg ks d=vs:=by
 unfold uo at h
 split at h
 ·have uK:=nw hv;obtain⟨ds,q1,q2,q3,q4,q5⟩:=sH (us:=vs) g h hf (by rw[kt];omega) hv (fun i p hp hi=>by have:=(kK.1 hp).1;rw[kt]at this;omega)
  rw[kt]at q1;refine⟨.l ds,by rw[gh];exact q2.symm,fun i k hk=> ?_,?_⟩
  ·have bi:=(kK.1 hk).1;obtain⟨p,hp⟩:∃p,(nu e0 ks 0)[i]? =some p:=⟨_,cB (by rw[kt];exact bi)⟩;have h1:=(Bj e0 ks 0 i p hp).1;rw[hk]at h1;cases h1;exact q3 i p hp
  ·have:=uJ e0 ks ds [] q1;simp only[rU,oe]at this;show jD (.l ds) ks 0=vs;rw[this,q4];simp
 ·split at h
  ·rename_i k x
   match vs,hv with
   |[v],hv=>
    obtain⟨d,hd,U8,QU⟩:=iP g h hf hv.1;refine⟨d,hd,fun i k' hk=> ?_,by simp[bP,U8]⟩
    match i,hk with
    |0,hk=>simp at hk;subst hk;exact QU
  ·cases h
def zK{row:iu}{agg:Bool}{ks:jj}{e0 e:Ex}{off:Nat}{xs:eO}{fr:cv}(h:uo P row agg ks e0 off xs=some (e,fr)):lM row fr/\xs.all At.known=true:=by
 unfold uo at h;split at h
 ·exact CP h
 ·split at h
  ·exact⟨rL h,by simp[B6 h]⟩
  ·cases h
def ED(g:av P B w0 σ c a w){row:iu}{agg:Bool}{ks:jj}{e0 e:Ex}{off:Nat}{xs:eO}{fr:cv}(h:uo P row agg ks e0 off xs=some (e,fr))(hf:Fz row σ fr){vs:aW}(hv:cm c xs vs){d0:Sc}(h0:d0.er=(e0.ev c.ρ).er)(gj:dR P w (cD B σ c) agg ks d0):
 ∃d:Sc,d.er=(e.ev c.ρ).er/\dR P w (cD B σ c) agg ks d/\bP agg ks d=(bP agg ks d0).take off++vs++(bP agg ks d0).drop (off+vs.length)/\off+vs.length<=(bP agg ks d0).length:=by
 unfold uo at h
 split at h
 ·have Q3:dP d0.list=dP (e0.ev c.ρ).list:=by have:=congrArg Sc.list h0;rw[wg,wg]at this;exact this
  have hold:=Bl (ρ:=c.ρ) Q3 ks 0 (fun i k hk=>by simpa[Ey]using gj i k hk);obtain⟨ds,q1,q2,q3,q4,q5⟩:=sH (us:=jD d0 ks 0) g h hf (by rw[kt,um]) hv (fun i p hp hi=>by obtain⟨u,e1,e2⟩:=AV hold (n:=i) (p:=(AS.ck p.1,p.2)) (by rw[vR,hp];rfl);exact⟨u,e1,e2⟩)
  rw[kt]at q1;refine⟨.l ds,by rw[gh];exact q2.symm,fun i k hk=> ?_,?_,q5⟩
  ·have bi:=(kK.1 hk).1;obtain⟨p,hp⟩:∃p,(nu e0 ks 0)[i]? =some p:=⟨_,cB (by rw[kt];exact bi)⟩;have h1:=(Bj e0 ks 0 i p hp).1;rw[hk]at h1;cases h1;exact q3 i p hp
  ·have:=uJ e0 ks ds [] q1;simp only[rU,oe]at this;show jD (.l ds) ks 0=_;rw[this,q4];rfl
 ·split at h
  ·rename_i k x
   match vs,hv with
   |[v],hv=>
    obtain⟨d,hd,U8,QU⟩:=iP g h hf hv.1;refine⟨d,hd,fun i k' hk=> ?_,by simp[bP,U8],by simp[bP]⟩
    match i,hk with
    |0,hk=>simp at hk;subst hk;exact QU
  ·cases h
def Hk{row:iu}{agg:Bool}{ks:jj}:∀{parts:List (Nat×SV)}{n:Nat}{e:Ex}{fr:cv},tH P row agg ks n parts=some (e,fr)->lM row fr
 |[],n,e,fr,h=>by simp[tH]at h;obtain⟨rfl,rfl⟩:=h;exact .nil
 |(i,x)::parts,n,e,fr,h=>by
  unfold tH at h;split at h
  ·split at h
   ·split at h
    ·split at h
     ·rename_i h1 h2;cases h;exact(zK h1).1.append (Hk h2)
     ·cases h
    ·cases h
   ·cases h
  ·cases h
def Hl(g:av P B w0 σ c a w){row:iu}{agg:Bool}{ks:jj}(bT:oL agg ks):∀(parts:List (Nat×SV))(kH:List (Nat×Value))(n:Nat)(e:Ex)(fr:cv)(vs:aW),tH P row agg ks n parts=some (e,fr)->Fz row σ fr->parts.length=kH.length->(∀i(h1:i<parts.length)(h2:i<kH.length),(parts[i]).1=(kH[i]).1/\(parts[i]).2.rel c (kH[i]).2)->vs.length=(n+parts.length)*ks.length->∃D:ab,(e.ev c.ρ).er= .l (dP D)/\D.length=parts.length/\(∀x∈D,dR P w (cD B σ c) agg ks x)/\Instr.fill (fun i=>some (i*ks.length,ks.length)) vs.toArray kH=some (vs.take (n*ks.length)++ag agg ks D).toArray
 |[],[],n,e,fr,vs,h,_,_,_,hl=>by simp[tH]at h;obtain⟨rfl,rfl⟩:=h;refine⟨[],by simp[Ex.ev,Sc.er],rfl,(nofun),?_⟩;simp only[Instr.fill,ag,flatMap_nil,uP];rw[lQ (by simp at hl;omega)]
 |[],_::_,_,_,_,_,_,_,hl,_,_=>by simp at hl
 |_::_,[],_,_,_,_,_,_,hl,_,_=>by simp at hl
 |(i,x)::parts,(i',v)::kH,n,e,fr,vs,h,hf,hl,hp,hlen=>by
  have h0:=hp 0 (by simp) (by simp);simp only[getElem_cons_zero]at h0;obtain⟨rfl,hx⟩:=h0;unfold tH at h;split at h;rotate_left
  ·cases h
  rename_i hi;subst hi;split at h;rotate_left
  ·cases h
  rename_i xs uL;split at h;rotate_left
  ·cases h
  rename_i Wt;split at h;rotate_left
  ·cases h
  rename_i e1 f1 e2 f2 h1 h2;cases h
  obtain⟨us,F8,Wq⟩:=nF uL (zK h1).2 hx;obtain⟨d,hd,QU,hdc⟩:=QA g h1 Wt hf.left Wq;have fm:=cg bT d;simp only[AM]at hlen;have gj:i*ks.length+(bP agg ks d).length<=vs.length:=by rw[fm,hlen,Ac,Ac];omega
  have h6:=Uf (i*ks.length) (bP agg ks d) vs gj _ rfl;obtain⟨D,q1,q2,q3,q4⟩:=Hl g bT parts kH (i+1) e2 f2 (vs.take (i*ks.length)++bP agg ks d++vs.drop (i*ks.length+(bP agg ks d).length)) h2 hf.right (by simpa using hl) (fun j q1 q2=>by
   have:=hp (j+1) (by simp;omega) (by simp;omega);simpa using this) (by simp only[fR,iW,tc];rw[vT (by omega)];rw[show i+1+parts.length=i+(parts.length+1)by omega,<-hlen];omega)
  refine⟨d::D,?_,by simp[q2],fun y hy=>(bX.1 hy).elim (fun h=>h▸QU) (q3 y),?_⟩
  ·have:=dh q1;simp only[Ex.ev,U2.ev,gh,Ce];rw[hd,this]
  unfold Instr.fill;simp only[F8,<-hdc,Jq,fm];rw[aE (by simp;rw[fm]at gj;omega),h6,q4];congr 2;rw[iw (by simp;rw[fm,vT (by omega),Ac];omega)];rw[lQ (by simp;rw[fm,vT (by omega),Ac];omega)];simp[ag]
end
section
variable{P:Program}{B:fZ}{w0:World}{σ:St}{c:Ct}{a:Act}{w:World}{o:Oper}{rd:Rd}{pl:ip}
def Jg{ty:TypeId}{z:Value}(h:lH P ty=some z)(w:World):(zeroValue ty).run P w= .ok z w:=by unfold lH at h;obtain⟨i,h1,h2⟩:=AL.1 h;simp[zeroValue,typeInfo,h1,h2]
def WT(g:av P B w0 σ c a w)(cS:xz σ c a rd){ty:TypeId}{parts:Array (Nat×Operand)}(ho:o.op= .build ty parts){r:dl}(h:je P pl o rd=some r):cd P B w0 σ c a w o r:=by
 unfold je at h;simp only[ho]at h;have Yx:∀(place:Nat->Option (Nat×Nat))(zs cs:eO)(z:Value)(us:aW),EE place zs (parts.toList.map fun(i,x)=>(i,rd.ev x))=some cs->cm c zs us->
  ∃PT,Instr.fill place us.toArray (parts.map fun(i,x)=>(i,a.eval x)).toList=some PT.toArray/\cm c cs PT:=fun place zs cs z us h1 h2=>by
  refine Dw h1 h2 (nw h2).symm (by simp) (fun i q1 q2=> ?_)
  simp only[Ab,cW]at q1
  simp only[getElem_map,Array.toList_map]
  exact⟨trivial,cS.ev _⟩
 split at h
 ·rename_i z fs hz hu;split at h
  ·rename_i zs places zO hp;split at h
   ·rename_i hk;simp only[nW]at h;obtain⟨cs,hf,rfl⟩:=h;obtain⟨sv,h1,h2⟩:=AL.1 zO;obtain⟨us,Tq,hr⟩:=nF h2 hk (C4 (c:=c) h1);obtain⟨PT,e1,e2⟩:=Yx _ zs cs z us hf hr;have hb:P.built ty (parts.map fun(i,x)=>(i,a.eval x)).toList=some PT.toArray:=by unfold lH at hz;obtain⟨i,hi1,Ns⟩:=AL.1 hz;simp only[Program.built,hi1,hu,Ns,hp,Tq];exact e1
    exact cd.quiet g (v:= .agg PT.toArray) (by simp[execOp,ho,run_build w ty _ _ hb]) ⟨PT,rfl,e2⟩
   ·cases h
  ·cases h
 ·rename_i z n el hz hu;split at h
  ·rename_i zs ie zO hie;split at h
   ·rename_i hk;simp only[nW]at h;obtain⟨cs,hf,rfl⟩:=h;obtain⟨sv,h1,h2⟩:=AL.1 zO;obtain⟨us,Tq,hr⟩:=nF h2 hk (C4 (c:=c) h1);obtain⟨PT,e1,e2⟩:=Yx _ zs cs z us hf hr;have hb:P.built ty (parts.map fun(i,x)=>(i,a.eval x)).toList=some PT.toArray:=by unfold lH at hz;obtain⟨i,hi1,Ns⟩:=AL.1 hz;simp only[Program.built,hi1,hu,Ns,hie,Tq];exact e1
    exact cd.quiet g (v:= .agg PT.toArray) (by simp[execOp,ho,run_build w ty _ _ hb]) ⟨PT,rfl,e2⟩
   ·cases h
  ·cases h
 ·cases h
def oB(g:av P B w0 σ c a w){row:iu}(dz:∀p k,row p=some k->σ.row p=some k){fr:cv}(h:lM row fr):
 av P B w0 {σ with rows:=ai σ.rows fr} c a w/\Fz row {σ with rows:=ai σ.rows fr} fr:=by
 have ath:∀q z,(q,z)∈fr->∃k,σ.row q=some k/\k.hole=none/\z=some {k with own:=false}:=fun q z hz=>by obtain⟨k,hk,e⟩:=h q z hz;exact⟨k,dz _ _ hk,e⟩
 obtain⟨g1,gV⟩:=av.F2 g ath
 refine⟨g1,fun q k hk hor=> ?_⟩
 rw[gV q k (dz _ _ hk)]
 by_cases hq:q∈fr.map (·.1)
 ·rw[aA hq]
 ·rw[aE hq];rcases hor with Jn|hm
  ·congr 1;cases k;simp at Jn;subst Jn;rfl
  ·exact absurd (NB (f:=(·.1)) hm) hq
def wE(l:List (Option Rw))(r:cv)(i:Nat)(v:Option Rw):ai l (r++[(i,v)])=bU none (ai l r) i v:=by rw[bg];rfl
def Jt(g:av P B w0 σ c a w)(cS:xz σ c a rd){ty:TypeId}{len:Nat}{parts:Array (Nat×Operand)}(ho:o.op= .buildSlice ty len parts){r:dl}(Jk:∀i∈r.nb,c.β i=none)(gV:∀i∈r.nr,c.R i=none)(h:je P pl o rd=some r):cd P B w0 σ c a w o r:=by
 unfold je at h;simp only[ho]at h;split at h;rotate_left
 ·cases h
 rename_i el hu;split at h;rotate_left
 ·
  rename_i KN hn;split at h;rotate_left
  ·cases h
  rename_i eQ;obtain⟨YA,ahj,i8,hzi⟩:=eQ;split at h;rotate_left
  ·cases h
  rename_i cs hf;split at h;rotate_left
  ·cases h
  cases h
  have Jk:=Jk rd.nb (by simp);obtain⟨z,hz⟩:=uh.1 hzi;unfold lH at hz;unfold gO at hn;obtain⟨i,hi,mZ⟩:=nW.1 hn;rw[hi]at hz;have hz:i.zero=some z:=hz;have Tp:∀vs:aW,cm c (replicate vs.length .top) vs:=fun vs=>by
   induction vs with|nil=>trivial|cons v vs ih=>exact⟨trivial,ih⟩
  have hul:((Array.range (len*i.size)).map (z.cells[·%z.cells.size]!)).toList.length=len:=by rw[cW,Array.size_map,Array.size_range,mZ,Nat.mul_one]
  obtain⟨PT,e1,e2⟩:=Dw (kH:=(parts.map fun(i,x)=>(i,a.eval x)).toList) (vs:=((Array.range (len*i.size)).map (z.cells[·%z.cells.size]!)).toList) hf (by have:=Tp ((Array.range (len*i.size)).map (z.cells[·%z.cells.size]!)).toList;rw[hul]at this;exact this) (by rw[hul,Ny]) (by simp) (fun i q1 q2=>by simp only[Ab,cW]at q1;simp only[getElem_map,Array.toList_map];exact⟨trivial,cS.ev _⟩)
  rw[Ek]at e1;have dD:(Instr.buildSlice ty len (parts.map fun(i,x)=>(i,a.eval x))).run P w= .ok (.slice (some ⟨w.heap.size,0,none⟩) len len) (w.alloc (.cells PT.toArray el)):=
   run_buildSlice w ty el len _ _ i z hu hi hz (by rw[mZ];omega) (by rw[mZ];omega) (by
    have e:(fun j=>some (j*i.size,i.size))=(fun j:Nat=>some (j*1,1)):=by rw[mZ]
    rw[e];exact e1)
  have hle:c.le {c with β:=fun i=>if i=rd.nb then some w.heap.size else c.β i}:=⟨rfl,rfl,fun i n e=>by
   by_cases h:i=rd.nb
   ·subst h;rw[Jk]at e;cases e
   ·simp[h,e],fun _ _ e=>e⟩
  exact⟨_,_,.slice (some ⟨w.heap.size,0,none⟩) len len,_,by simp[execOp,ho,dD,np],.inl rfl,hle,fun i hi=>by simp at hi;simp[hi],fun _ _=>rfl,⟨_,len,by simp,rfl⟩,g.alloc Jk (k:=⟨cs,el,0⟩) e2⟩
 ·cases h
 rename_i agg ks n KN hn;split at h;rotate_left
 ·cases h
 rename_i eQ;obtain⟨Tg,YA,ahj,qv⟩:=eQ;obtain⟨bT,i8⟩:=dq qv;split at h;rotate_left
 ·cases h
 rename_i e fr he;cases h
 have gV:=gV rd.nr (by simp);obtain⟨g1,hfz⟩:=oB g cS.row (Hk he);unfold gO at hn;obtain⟨i,hi,mZ⟩:=nW.1 hn;obtain⟨z,hz,zO⟩:=Bt KN hi;have Ns:i.size=ks.length:=by rw[mZ,Tg]
 have hzero:∃us:aW,(Array.range (len*i.size)).map (z.cells[·%z.cells.size]!)=us.toArray/\us.length=len*ks.length:=⟨((Array.range (len*i.size)).map (z.cells[·%z.cells.size]!)).toList,by rw[Ek],by rw[cW,Array.size_map,Array.size_range,Ns]⟩;obtain⟨us,F8,hul⟩:=hzero;obtain⟨D,f0,f2,f3,f1⟩:=Hl g1 bT (parts.toList.map fun(i,x)=>(i,rd.ev x)) ((parts.map fun(i,x)=>(i,a.eval x)).toList) 0 e fr us he hfz (by simp) (fun j q1 q2=>by simp only[getElem_map,Array.toList_map];exact⟨trivial,cS.ev _⟩) (by simp[YA,hul])
 simp only[Nz,take_zero,rU,Ab,cW,YA]at f1 f2;have ut:=aD bT D;rw[f2]at ut;have dD:(Instr.buildSlice ty len (parts.map fun(i,x)=>(i,a.eval x))).run P w= .ok (.slice (some ⟨w.heap.size,0,none⟩) len len) (w.alloc (.cells (ag agg ks D).toArray el)):=by
  by_cases h0:len*i.size=0
  ·have Q3:len=0:=by
    rcases mul_eq_zero.1 h0 with h|h
    ·exact h
    ·omega
   subst Q3;obtain rfl:parts= #[]:=Ai YA;have DN:ag agg ks D=[]:=px (by rw[ut];simp);rw[DN];have qb:∀f:Nat->Value,Array.map f (Array.range 0)= #[]:=fun f=>by apply Ai;rw[Array.size_map,Array.size_range]
   simp[Instr.buildSlice,run_underlying hu,sizeOf,typeInfo,hi,newRow,Instr.fill,qb]
  ·exact run_buildSlice w ty el len _ _ i z hu hi hz (by rw[Ns,<-Tg];omega) h0 (by rw[F8,Ns];exact f1)
 have oD:len<=maxLen:=by have:len*1<=len*n:=Aj _ (by omega);simp only[maxLen];omega
 have gg:=g1.newRow (w':=w.alloc (.cells (ag agg ks D).toArray el)) (g1.below.alloc g1.hB _) (by simp) (fun m hm=>Below.heap_alloc w _ m hm) gV (k:=⟨el,ks,agg,e,true,none⟩) rfl (D:=D) (ad:=some ⟨w.heap.size,0,none⟩) (n:=len) (cap:=len)
  f0 f2 (aX _) oD
  (fun _=> .inr ⟨⟨ut,.inr ⟨_,len,_,rfl,xA _,heap_alloc_new w _,aX _,oD,by simpa using ut,by simp only;rw[lQ (by rw[ut];exact aX _)]⟩⟩,fun p hp=>by have:=ju hp;simp[Value.ownBlock]at this;omega⟩) (nofun) f3
 rw[<-wE]at gg;refine⟨_,_,.slice (some ⟨w.heap.size,0,none⟩) len len,{c with R:=fun i=>if i=rd.nr then some (.slice (some ⟨w.heap.size,0,none⟩) len len)else c.R i},by simp[execOp,ho,dD],.inl rfl,?_,fun _ _=>rfl,fun i hi=>by simp at hi;simp[hi],⟨by simp,_,_,_,rfl⟩,gg⟩;exact⟨rfl,rfl,fun _ _ e=>e,fun i u e=>by
  by_cases h:i=rd.nr
  ·subst h;rw[gV]at e;cases e
  ·simp[h,e]⟩
def PX{z:Value}{k:CK}{x:Ex}(h:Jf z=some (k,x))(ρ:ab):z.cells= #[k.val (x.ev ρ)]:=by
 unfold Jf at h;split at h
 ·split at h
  ·rename_i hn;cases h;subst hn;rfl
  ·cases h
 ·split at h
  ·rename_i hb;cases h;subst hb;rfl
  ·cases h
 ·cases h
def PW{z:Value}{k:CK}{x:Ex}(h:Jf z=some (k,x)):∀el,k≠.sl el:=by
 unfold Jf at h;split at h
 ·split at h
  ·cases h;exact nofun
  ·cases h
 ·split at h
  ·cases h;exact nofun
  ·cases h
 ·cases h
def Hr(k:CK)(x:Sc):∀n:Nat,ag false [k] (replicate n x)=replicate n (k.val x)
 |0=>rfl|n+1=>by rw[replicate_succ,replicate_succ,<-Hr k x n];rfl
def Zi(v:Value)(n:Nat):(madeCells #[v] n).toList=replicate n v:=by refine ext_getElem (by simp[size_madeCells]) fun i h1 h2=> ?_;rw[getElem_replicate];simp[madeCells,mod_one]
def MF(g:av P B w0 σ c a w){ty:TypeId}{x y:Operand}(ho:o.op= .makeSlice ty x y){el:TypeId}{k1 k2:IntKind}{e f:Ex}(hu:P.underlying ty=some (.slice el))(vx:a.eval x= .int k1 (e.ev c.ρ).int)(vy:a.eval y= .int k2 (f.ev c.ρ).int){i:TypeInfo}(hi:P.info? el=some i){r:dl}(gV:∀i∈r.nr,c.R i=none)(h:D3 P rd i el e f=some r)(hn:∀e∈r.eZ,(e.ev c.ρ).bool=true):cd P B w0 σ c a w o r:=by
 unfold D3 at h
 split at h
 rotate_left
 ·cases h
 rename_i agg ks KN
 split at h
 rotate_left
 ·cases h
 rename_i hc
 split at h
 rotate_left
 ·cases h
 rename_i z hz
 split at h
 rotate_left
 ·cases h
 rename_i ze hze
 cases h
 simp only[aL]at hc
 obtain⟨⟨⟨h1,h2⟩,h3⟩,h4⟩:=hc
 have h1:=Ex.aG h1
 subst h1
 have eT:i.size=ks.length:=fh h2
 obtain⟨bT,i8⟩:=dq h3
 have hb:i.bytes<=4096:=oo h4
 have gV:=gV rd.nr (by simp)
 have n1:=hn (di .le (.i 0) e) (by simp)
 have n2:=hn (di .le e (.i 16777216)) (by simp)
 rw[aR]at n1 n2
 have n1:(0:Int)<=(e.ev c.ρ).int:=fv n1
 have n2:(e.ev c.ρ).int<=16777216:=fv n2
 obtain⟨d,d1,d2,d3⟩:=uI hze c.ρ
 obtain⟨m,hm⟩:∃m:Nat,(e.ev c.ρ).int=m:=⟨(e.ev c.ρ).int.toNat,by omega⟩
 rw[hm]at vx vy n2
 have hm2:m<=16777216:=by omega
 have SY:i.bytes*m<=281474976710656:=bI (Nat.mul_le_mul hb hm2) (by decide)
 obtain⟨w',hr,bj,hg⟩:=run_make_full (P:=P) w 0 ty el i z ks.length hu hi hz eT k1 k2 m SY (by simp only[maxLen];omega) (xA _)
 have zO:z.cells.size=ks.length:=by rw[<-cg bT d,d2,cW]
 have yx:ag agg ks (replicate m d)=(madeCells z.cells (m*ks.length)).toList:=by rw[sm bT i8 d2 m];unfold Builtin.zeroCells madeCells;rw[zO]
 have hD:((Ex.o .Bp ze e).ev c.ρ).er= .l (dP (replicate m d)):=by show(Sc.l (replicate (e.ev c.ρ).int.toNat (ze.ev c.ρ))).er=_;rw[gh,hm,om];simp only[oY,map_replicate,d1]
 have gg:=g.newRow (w':=w') (g.below.grown hg g.hB (nofun)) hg.size (fun n hn=>hg.block n hn (by simp)) gV (k:=⟨el,ks,agg,.o .Bp ze e,true,none⟩) rfl (D:=replicate m d) (ad:=some ⟨w.heap.size,0,none⟩) (n:=m) (cap:=m)
  hD (by simp) (aX _) (by simp only[maxLen];omega) (fun _=> .inr ⟨by simp only;rw[yx];exact bj,fun p hp=>by have:=ju hp;simp[Value.ownBlock]at this;omega⟩) (nofun) (fun x hx i k hk=>by rw[eq_of_mem_replicate hx];exact d3 _ _ i k hk)
 refine⟨_,w',.slice (some ⟨w.heap.size,0,none⟩) m m,{c with R:=fun i=>if i=rd.nr then some (.slice (some ⟨w.heap.size,0,none⟩) m m)else c.R i},by simp[execOp,ho,vx,vy,hr],.inl rfl,?_,fun _ _=>rfl,fun i hi=>by simp at hi;simp[hi],⟨by simp,_,_,_,rfl⟩,gg⟩
 exact⟨rfl,rfl,fun _ _ e=>e,fun i u e=>by
  by_cases h:i=rd.nr
  ·subst h;rw[gV]at e;cases e
  ·simp[h,e]⟩
def ME(g:av P B w0 σ c a w)(cS:xz σ c a rd){ty:TypeId}{x y:Operand}(ho:o.op= .makeSlice ty x y){r:dl}(gV:∀i∈r.nr,c.R i=none)(h:je P pl o rd=some r)(hn:∀e∈r.eZ,(e.ev c.ρ).bool=true):cd P B w0 σ c a w o r:=by
 unfold je at h;simp only[ho]at h;split at h;rotate_left
 ·cases h
 rename_i el k1 e k2 f hu hx hy;split at h;rotate_left
 ·
  rename_i i hi hz;split at h;rotate_left
  ·have vx:=cS.ev x;have vy:=cS.ev y;rw[hx]at vx;rw[hy]at vy;exact MF g ho hu vx vy hi gV h hn
  rename_i agg ks KN;split at h;rotate_left
  ·cases h
  rename_i eQ;obtain⟨eT,qv,asU⟩:=eQ;cases h
  have gV:=gV rd.nr (by simp);have vx:=cS.ev x;have vy:=cS.ev y;rw[hx]at vx;rw[hy]at vy;have vx:a.eval x= .int k1 0:=vx;have vy:a.eval y= .int k2 (f.ev c.ρ).int:=vy;have n2:=hn (di .le (.i 0) f) (by simp);have n3:=hn (di .le f (.i 16777216)) (by simp);rw[aR]at n2 n3;have n2:(0:Int)<=(f.ev c.ρ).int:=fv n2;have n3:(f.ev c.ρ).int<=16777216:=fv n3;obtain⟨z,ux,zO⟩:=Bt KN hi;have dL:(i.bytes:Int)*(f.ev c.ρ).int<=281474976710656:=by have:(i.bytes:Int)*(f.ev c.ρ).int<=4096*16777216:=Int.mul_le_mul (by omega) n3 (by omega) (by omega);omega
  have dD:=run_make (P:=P) w ty el i z hu hi ux k1 k2 0 (f.ev c.ρ).int (by omega) n2 dL (by omega);generalize hC:(f.ev c.ρ).int.toNat=cap at*;have oD:cap<=maxLen:=by simp only[maxLen];omega
  simp only[toNat_zero]at dD;have gg:=g.newRow (w':=w.alloc (.cells (madeCells z.cells (cap*i.size)) el)) (g.below.alloc g.hB _) (by simp) (fun m hm=>Below.heap_alloc w _ m hm) gV (k:=⟨el,ks,agg,.nil,true,none⟩) rfl (D:=[]) (ad:=some ⟨w.heap.size,0,none⟩) (n:=0) (cap:=cap)
   (by simp[Ex.ev,Sc.er]) rfl (xA _) oD
   (fun _=> .inr ⟨⟨by simp[ag],.inr ⟨_,cap,_,rfl,xA _,heap_alloc_new w _,xA _,oD,by simp[size_madeCells,eT],by simp[ag]⟩⟩,fun p hp=>by have:=ju hp;simp[Value.ownBlock]at this;omega⟩) (nofun) (nofun)
  refine⟨_,_,.slice (some ⟨w.heap.size,0,none⟩) 0 cap,{c with R:=fun i=>if i=rd.nr then some (.slice (some ⟨w.heap.size,0,none⟩) 0 cap)else c.R i},by simp[execOp,ho,vx,vy,dD],.inl rfl,?_,fun _ _=>rfl,fun i hi=>by simp at hi;simp[hi],⟨by simp,_,_,_,rfl⟩,gg⟩;exact⟨rfl,rfl,fun _ _ e=>e,fun i u e=>by
   by_cases h:i=rd.nr
   ·subst h;rw[gV]at e;cases e
   ·simp[h,e]⟩
 ·cases h
 rename_i i k z hi hz;have vx:=cS.ev x;have vy:=cS.ev y;rw[hx]at vx;rw[hy]at vy;have vx:a.eval x= .int k1 (e.ev c.ρ).int:=vx;have vy:a.eval y= .int k2 (f.ev c.ρ).int:=vy;split at h;rotate_left
 ·cases h
 rename_i eQ;obtain⟨Wo,asU⟩:=eQ;cases h
 have gV:=gV rd.nr (by simp);have n1:=hn (di .le (.i 0) e) (by simp);have n2:=hn (di .le e f) (by simp);have n3:=hn (di .le f (.i 16777216)) (by simp);rw[aR]at n1 n2 n3;have n1:(0:Int)<=(e.ev c.ρ).int:=fv n1;have n2:(e.ev c.ρ).int<=(f.ev c.ρ).int:=fv n2;have n3:(f.ev c.ρ).int<=16777216:=fv n3;obtain⟨zv,ux,nQ⟩:=AL.1 hz;have ux:i.zero=some zv:=by unfold lH at ux;rw[hi]at ux;exact ux
 have Bc:=PX nQ c.ρ;have dL:(i.bytes:Int)*(f.ev c.ρ).int<=281474976710656:=by have:(i.bytes:Int)*(f.ev c.ρ).int<=16*16777216:=Int.mul_le_mul (by omega) n3 (by omega) (by omega);omega
 have dD:=run_make (P:=P) w ty el i zv hu hi ux k1 k2 (e.ev c.ρ).int (f.ev c.ρ).int n1 n2 dL (by omega);rw[Wo,Nat.mul_one,Bc]at dD;generalize hL:(e.ev c.ρ).int.toNat=len at*;generalize hC:(f.ev c.ρ).int.toNat=cap at*;have hlc:len<=cap:=by omega
 have oD:cap<=maxLen:=by simp only[maxLen];omega
 have mf:((Ex.o .Bp z e).ev c.ρ).list=replicate len (z.ev c.ρ):=by show replicate (e.ev c.ρ).int.toNat (z.ev c.ρ)=_;rw[hL]
 have gg:=g.newRow (w':=w.alloc (.cells (madeCells #[k.val (z.ev c.ρ)] cap) el)) (g.below.alloc g.hB _) (by simp) (fun m hm=>Below.heap_alloc w _ m hm) gV (k:=⟨el,[k],false,.o .Bp z e,true,none⟩) rfl (D:=replicate len (z.ev c.ρ)) (ad:=some ⟨w.heap.size,0,none⟩) (n:=len) (cap:=cap)
  (by simp only;rw[<-mf];exact ER _) (by rw[Ny]) hlc oD
  (fun _=> .inr ⟨⟨by simp only;rw[Hr,Ny];simp,.inr ⟨_,cap,_,rfl,xA _,heap_alloc_new w _,hlc,oD,by simp[size_madeCells],by
    simp only;rw[Hr,Zi,take_replicate];simp;omega⟩⟩,fun p hp=>by have:=ju hp;simp[Value.ownBlock]at this;omega⟩) (nofun) (fun x _=>Hq _ (PW nQ) x)
 refine⟨_,_,.slice (some ⟨w.heap.size,0,none⟩) len cap,{c with R:=fun i=>if i=rd.nr then some (.slice (some ⟨w.heap.size,0,none⟩) len cap)else c.R i},by simp[execOp,ho,vx,vy,dD],.inl rfl,?_,fun _ _=>rfl,fun i hi=>by simp at hi;simp[hi],⟨by simp,_,_,_,rfl⟩,gg⟩;exact⟨rfl,rfl,fun _ _ e=>e,fun i u e=>by
  by_cases h:i=rd.nr
  ·subst h;rw[gV]at e;cases e
  ·simp[h,e]⟩
end
section
variable{P:Program}{w:World}
def NV{x y:ByteArray}:(x.toList==y.toList)=true↔x=y:=by
 rw[AO];constructor
 ·intro h;have:x.data.toList=y.data.toList:=by simpa[ByteArray.toList_eq]using h
  cases x;cases y
  simp at this;rw[this]
 ·intro h;rw[h]
def Ko{a b:ByteArray}:(a==b)=true↔a=b:=MapKept.bytes_beq a b
def O2(a b:ByteArray):(a.toList==b.toList)=(a==b):=by rw[Bool.eq_iff_iff,NV,Ko]
def DX(s:Bool)(x:Sc):Value:=cond s (.int .i64 x.int) (.string x.str)
def YV(s:Bool):TypeDesc:=cond s (.int .i64) .string
def Yo(s:Bool)(x y:Sc):Bool:=cond s (x.int==y.int) (x.str.toList==y.str.toList)
def Mv(s:Bool)(x y:Sc):Yo s x y=true↔DX s x=DX s y:=by
 cases s
 ·show(x.str.toList==y.str.toList)=true↔Value.string x.str=Value.string y.str;rw[NV,Value.string.injEq]
 ·show(x.int==y.int)=true↔Value.int .i64 x.int=Value.int .i64 y.int;rw[AO,Value.int.injEq];simp
def YW(s:Bool)(x:Sc):MapKept.IsKey (YV s) (DX s x):=by cases s<;>simp[YV,DX,MapKept.IsKey]
abbrev KOk(n:Nat):Prop:=(n=0\/n=1)\/n=2\/n=3
def vr{n:Nat}(hn:n=0\/n=1)(x:Sc):gp n x=DX (n==1) x:=by rcases hn with rfl|rfl<;>rfl
def OV{n:Nat}(hn:n=0\/n=1)(x y:Sc):ef n x y=Yo (n==1) x y:=by rcases hn with rfl|rfl<;>rfl
def vt{n:Nat}(hn:n=2\/n=3)(x:Sc):gp n x= .agg #[DX (n==3) (x.list.getD 0 (.i 0)),DX (n==3) (x.list.getD 1 (.i 0))]:=by rcases hn with rfl|rfl<;>rfl
def OW{n:Nat}(hn:n=2\/n=3)(x y:Sc):ef n x y=(Yo (n==3) (x.list.getD 0 (.i 0)) (y.list.getD 0 (.i 0))&&Yo (n==3) (x.list.getD 1 (.i 0)) (y.list.getD 1 (.i 0))):=by
 have hr:range 2=[0,1]:=rfl;rcases hn with rfl|rfl
 ·unfold ef;rw[aE (by omega),aE (by omega),aE (by omega),hr];simp only[wZ,all_nil,Bool.and_true];rfl
 ·unfold ef;rw[aE (by omega),aE (by omega),aA rfl,hr];simp only[wZ,all_nil,Bool.and_true];rfl
def My{n:Nat}(hn:KOk n)(x y:Sc):ef n x y=true↔gp n x=gp n y:=by
 rcases hn with hn|hn
 ·rw[OV hn,vr hn,vr hn,Mv]
 ·rw[OW hn,vt hn,vt hn,aL,Mv,Mv];constructor
  ·rintro⟨h1,h2⟩;rw[h1,h2]
  ·intro h;simp at h;exact h
def Cd:∀(vs:aW)(j q:Nat)(v:Value),vs[q]? =some v->(iA j vs)[q]? =some ⟨v,.bool true,j+q⟩
 |[],_,_,_,h=>by simp at h
 |x::vs,j,0,v,h=>by simp at h;subst h;rfl
 |x::vs,j,q+1,v,h=>by simp only[iA,getElem?_cons_succ]at h⊢;rw[Cd vs (j+1) q v h,show j+1+q=j+(q+1)by omega]
def Ar:∀(vs:aW)(j:Nat)(v:Value),iA j (vs++[v])=iA j vs++[⟨v,.bool true,j+vs.length⟩]
 |[],_,_=>rfl|x::vs,j,v=>by simp[iA,Ar vs,Nat.add_comm,Nat.add_left_comm]
structure Gy(P:Program)(key:TypeId)(n:Nat):Prop where
 hn:KOk n
 hs:n=0\/n=1->P.underlying key=some (YV (n==1))
 ha:n=2\/n=3->∃el,P.underlying key=some (.array 2 el)/\P.underlying el=some (YV (n==3))/\gO P el=some 1
def YY{key:TypeId}{n:Nat}(h:YX P key=some n):Gy P key n:=by
 unfold YX at h;split at h
 ·rename_i hu;cases h
  exact⟨.inl (.inl rfl),fun _=>hu,fun h=>by omega⟩
 ·rename_i hu;cases h
  exact⟨.inl (.inr rfl),fun _=>hu,fun h=>by omega⟩
 ·rename_i m el hu;split at h
  ·rename_i h1 h2;split at h
   ·rename_i hm;have hm:=fh hm;subst hm;cases h
    exact⟨.inr (.inl rfl),fun h=>by omega,fun _=>⟨el,hu,h1,h2⟩⟩
   ·cases h
  ·rename_i h1 h2;split at h
   ·rename_i hm;have hm:=fh hm;subst hm;cases h
    exact⟨.inr (.inr rfl),fun h=>by omega,fun _=>⟨el,hu,h1,h2⟩⟩
   ·cases h
  ·cases h
 ·cases h
def O7{ty:TypeId}{n:Nat}{key:TypeId}(h:O6 P ty=some (n,key)):∃elem,P.underlying ty=some (.map key elem)/\Gy P key n/\lH P elem=some (.bool false):=by
 unfold O6 at h;split at h
 ·rename_i k elem hu;split at h
  ·rename_i m h1 h2 h3;cases h
   exact⟨elem,hu,YY h2,h3⟩
  ·cases h
 ·cases h
def Gi{s:Bool}{el:TypeId}(hu:P.underlying el=some (YV s))(hs:gO P el=some 1)(cs:Array Value)(i:Nat)(v:Value)(hv:cs[i]? =some v):(part el cs (i*1)).run P w= .ok v w:=by
 have ha:i9 P el=some false:=by unfold i9;rw[hu];cases s<;>rfl
 simp[part,jd ha,hv]
def Lb{key:TypeId}{n:Nat}(hk:Gy P key n)(em:Bool)(y:Sc):(Instr.checkKey em 10000 key (gp n y)).run P w= .ok () w:=by
 rcases hk.hn with hn|hn
 ·rw[vr hn];exact MapKept.run_checkKey (d:=YV (n==1)) (hk.hs hn) (YW _ _) em 9999
 ·obtain⟨el,h1,h2,h3⟩:=hk.ha hn;rw[vt hn];have c0:∀x:Sc,(Instr.checkKey em 9999 el (DX (n==3) x)).run P w= .ok () w:=fun x=>MapKept.run_checkKey h2 (YW _ _) em 9998;have p0:=Gi (w:=w) h2 h3 #[DX (n==3) (y.list.getD 0 (.i 0)),DX (n==3) (y.list.getD 1 (.i 0))] 0 _ rfl;have p1:=Gi (w:=w) h2 h3 #[DX (n==3) (y.list.getD 0 (.i 0)),DX (n==3) (y.list.getD 1 (.i 0))] 1 _ rfl;have eT:=cj (w:=w) h3;have c1:=c0 (y.list.getD 0 (.i 0));have c2:=c0 (y.list.getD 1 (.i 0));generalize DX (n==3) (y.list.getD 0 (.i 0))=s0 at*;generalize DX (n==3) (y.list.getD 1 (.i 0))=s1 at*;rw[show(10000:Nat)=9999+1 from rfl,Instr.checkKey];simp only[Nz,Nat.one_mul]at p0 p1;simp[run_underlying h1,Std.Legacy.Range.forIn_eq_forIn_range',range',eT,p0,p1,c1,c2]
def RG{key el:TypeId}{n:Nat}(hn:n=2\/n=3)(h1:P.underlying key=some (.array 2 el))(h2:P.underlying el=some (YV (n==3)))(h3:gO P el=some 1)(x y:Sc):(Op.equal key (gp n x) (gp n y)).run P w= .ok (ef n x y) w:=by
 rw[vt hn,vt hn,OW hn];have p:∀(a b:Value),(part el #[a,b] 0).run P w= .ok a w/\(part el #[a,b] 1).run P w= .ok b w:=fun a b=>⟨by simpa using Gi (w:=w) h2 h3 #[a,b] 0 a rfl,by simpa using Gi (w:=w) h2 h3 #[a,b] 1 b rfl⟩;have eT:=cj (w:=w) h3;have e0:∀a b:Sc,(Op.equalIn 9999 el (DX (n==3) a) (DX (n==3) b)).run P w= .ok (Yo (n==3) a b) w:=fun a b=>by
  rw[show(9999:Nat)=9998+1 from rfl,Op.equalIn];generalize(n==3)=s at*;cases s
  ·have h2:P.underlying el=some .string:=h2;simp[run_underlying h2,DX,Yo,O2]
  ·have h2:P.underlying el=some (.int .i64):=h2;simp[run_underlying h2,DX,Yo]
 have q0:=e0 (x.list.getD 0 (.i 0)) (y.list.getD 0 (.i 0));have q1:=e0 (x.list.getD 1 (.i 0)) (y.list.getD 1 (.i 0));generalize Yo (n==3) (x.list.getD 0 (.i 0)) (y.list.getD 0 (.i 0))=A at*;generalize Yo (n==3) (x.list.getD 1 (.i 0)) (y.list.getD 1 (.i 0))=C at*;generalize DX (n==3) (x.list.getD 0 (.i 0))=s0 at*;generalize DX (n==3) (x.list.getD 1 (.i 0))=s1 at*;generalize DX (n==3) (y.list.getD 0 (.i 0))=t0 at*;generalize DX (n==3) (y.list.getD 1 (.i 0))=t1 at*;unfold Op.equal Op.maxDepth;rw[show(10000:Nat)=9999+1 from rfl,Op.equalIn];cases A
 ·simp[run_underlying h1,Std.Legacy.Range.forIn_eq_forIn_range',range',eT,(p s0 s1).1,(p t0 t1).1,q0]
 ·cases C<;>simp[run_underlying h1,Std.Legacy.Range.forIn_eq_forIn_range',range',eT,(p s0 s1).1,(p t0 t1).1,(p s0 s1).2,(p t0 t1).2,q0,q1]
def H4{n:Nat}(hn:KOk n)(x y:Sc):ef n x y=ef n y x:=by rw[Bool.eq_iff_iff,My hn,My hn];exact eq_comm
def Oj{n:Nat}(hn:n=0\/n=1)(y:Sc):∀(ks:ab)(i j:Nat),Instr.findNow (YV (n==1)) (gp n y) (iA j (ks.map (gp n))) i=some ((ks.findIdx? fun k=>ef n k y).map fun q=>(i+q,.bool true))
 |[],_,_=>rfl|k::ks,i,j=>by
  have ih:=Oj hn y ks (i+1) (j+1);simp only[jQ,iA,Instr.findNow];have hs:Instr.sameNow (YV (n==1)) (gp n y) (gp n k)=some (ef n k y):=by
   rw[H4 (.inl hn),vr hn,vr hn,OV hn];generalize(n==1)=s;cases s
   ·show some _=some _;simp only[Yo,cond_false,O2]
   ·show(if(IntKind.i64:IntKind)= .i64 then some (y.int==k.int)else none)=_;rw[aA rfl];rfl
  rw[hs];simp only[findIdx?_cons];cases ef n k y
  ·simp only[qM,na,ih,Option.map_map];congr 1;cases ks.findIdx? fun k=>ef n k y with
   |none=>rfl|some q=>simp;omega
  ·simp
def EF{key el:TypeId}{n:Nat}(hn:n=2\/n=3)(h1:P.underlying key=some (.array 2 el))(h2:P.underlying el=some (YV (n==3)))(h3:gO P el=some 1)(y:Sc):∀(ks:ab)(i j:Nat),(Instr.findAsking key (gp n y) (iA j (ks.map (gp n))) i).run P w= .ok ((ks.findIdx? fun k=>ef n k y).map fun q=>(i+q,.bool true)) w
 |[],_,_=>rfl|k::ks,i,j=>by
  have ih:=EF hn h1 h2 h3 y ks (i+1) (j+1);have hq:=RG (w:=w) hn h1 h2 h3 y k;rw[H4 (.inr hn)]at hq;simp only[jQ,iA,Instr.findAsking,Sem.run_bind,hq,Result.andThen_ok,findIdx?_cons];cases ef n k y
  ·simp only[qM,na,ih,Option.map_map];congr 1;cases ks.findIdx? fun k=>ef n k y with
   |none=>rfl|some q=>simp;omega
  ·simp
def Px{key:TypeId}{n:Nat}(hk:Gy P key n)(y:Sc)(ks:ab):(Instr.findKey key (gp n y) (iA 0 (ks.map (gp n)))).run P w= .ok ((ks.findIdx? fun k=>ef n k y).map fun q=>(q,.bool true)) w:=by
 rcases hk.hn with hn|hn
 ·have:=Oj hn y ks 0 0;simp only[eG]at this;exact MapKept.run_findKey (d:=YV (n==1)) (hk.hs hn) this
 ·obtain⟨el,h1,h2,h3⟩:=hk.ha hn;rw[run_findKey_eq w (by rw[h1])];have:=EF (w:=w) hn h1 h2 h3 y ks 0 0;simpa using this
def GL{α:Type}(p:α->Bool):∀(l:List α),l.any p=(l.findIdx? p).isSome
 |[]=>rfl|x::l=>by rw[any_cons,findIdx?_cons,GL p l];cases p x<;>simp
def XE{α:Type}{p:α->Bool}{l:List α}{q:Nat}(h:l.findIdx? p=some q):∃x,l[q]? =some x/\p x=true:=by rw[findIdx?_eq_some_iff_getElem]at h;obtain⟨h1,h2,_⟩:=h;exact⟨_,cB h1,h2⟩
def RH{ty key elem:TypeId}{n:Nat}(hm:P.underlying ty=some (.map key elem))(hk:Gy P key n)(hz:lH P elem=some (.bool false)){r:Nat}{ks:ab}(hb:w.heap[r]? =some (.map (eY (ks.map (gp n))) ks.length))(y:Sc)(ok:Bool):
 (Instr.lookup ty (.map (some r)) (gp n y) ok).run P w= .ok (if ok=true then .tuple #[.bool (ks.any fun k=>ef n k y),.bool (ks.any fun k=>ef n k y)]else .bool (ks.any fun k=>ef n k y)) w:=by
 have hf:=Px (w:=w) hk y ks
 have hc:=fun em=>Lb (w:=w) hk em y
 have hzr:=Jg hz w
 rw[GL]
 cases hq:ks.findIdx? fun k=>ef n k y with
 |none=>
  rw[hq]at hf;cases ok<;>simp[Instr.lookup,run_underlying hm,MapKept.run_getObj_map hb,hc,eY,hf,hzr]
 |some q=>
  rw[hq]at hf;cases ok<;>simp[Instr.lookup,run_underlying hm,MapKept.run_getObj_map hb,hc,eY,hf]
def VV{key:TypeId}{n:Nat}(hk:Gy P key n)(y:Sc):(Instr.keyThatStays (gp n y) (gp n y)).run P w= .ok (gp n y) w:=by
 have h0:∀(s:Bool)(x:Sc)(d:Nat),Instr.sameBits (d+1) (DX s x) (DX s x)=true:=fun s x d=>by cases s<;>simp[DX,Instr.sameBits,Ko]
 have:Instr.sameBits 10000 (gp n y) (gp n y)=true:=by
  rcases hk.hn with hn|hn
  ·rw[vr hn];exact h0 _ _ 9999
  ·rw[vt hn];have a:=h0 (n==3) (y.list.getD 0 (.i 0)) 9998;have b:=h0 (n==3) (y.list.getD 1 (.i 0)) 9998;generalize DX (n==3) (y.list.getD 0 (.i 0))=s0 at*;generalize DX (n==3) (y.list.getD 1 (.i 0))=s1 at*;rw[show(10000:Nat)=9999+1 from rfl,Instr.sameBits];simp[a,b]
 simp[Instr.keyThatStays,this]
def RI{ty key elem:TypeId}{n:Nat}(hm:P.underlying ty=some (.map key elem))(hk:Gy P key n){r:Nat}{ks:ab}(hb:w.heap[r]? =some (.map (eY (ks.map (gp n))) ks.length))(y:Sc):
 (Instr.mapUpdate ty (.map (some r)) (gp n y) (.bool true)).run P w= .ok () {w with heap:=w.heap.setIfInBounds r (.map (eY ((if ks.any fun k=>ef n k y then ks else ks++[y]).map (gp n))) (if ks.any fun k=>ef n k y then ks else ks++[y]).length)}:=by
 have hf:=Px (w:=w) hk y ks
 have hc:=fun em=>Lb (w:=w) hk em y
 rw[GL]
 cases hq:ks.findIdx? fun k=>ef n k y with
 |none=>
  rw[hq]at hf;have e:eY ((ks++[y]).map (gp n))=(eY (ks.map (gp n))).push ⟨gp n y,.bool true,ks.length⟩:=by unfold eY;rw[BP,jQ,map_nil,Ar];simp
  simp only[Option.isSome_none,qM,na];rw[e];simp[Instr.mapUpdate,run_underlying hm,MapKept.run_getObj_map hb,hc,eY,hf,MapKept.run_setObj_map _ hb]
 |some q=>
  rw[hq]at hf;obtain⟨k,Tc,m5⟩:=XE hq;have hkv:=(My hk.hn k y).1 m5;have alR:(eY (ks.map (gp n)))[q]? =some ⟨gp n y,.bool true,q⟩:=by have:=Cd (ks.map (gp n)) 0 q (gp n k) (by rw[vR,Tc];rfl);rw[eG,hkv]at this;unfold eY;rw[getElem?_toArray];exact this
  have fC:=VV (w:=w) hk y;have atv:(eY (ks.map (gp n))).modify q (fun e=>{e with key:=gp n y,val:= .bool true})=eY (ks.map (gp n)):=by
   apply Array.ext_getElem?;intro i;rw[Array.getElem?_modify];by_cases hi:q=i
   ·subst hi;rw[aA rfl,alR];rfl
   ·rw[aE hi]
  simp only[Option.isSome_some,qO];have JN:(Instr.findKey key (gp n y) (eY (ks.map (gp n))).toList).run P w= .ok (some (q,.bool true)) w:=by simpa[eY]using hf
  generalize eY (ks.map (gp n))=es at*;simp[Instr.mapUpdate,run_underlying hm,MapKept.run_getObj_map hb,hc,JN,alR,fC,atv,MapKept.run_setObj_map _ hb]
end
section
variable{P:Program}{B:fZ}{w0:World}{σ:St}{c:Ct}{a:Act}{w:World}{o:Oper}{rd:Rd}
def IY:∀{xs:eO}{q:Ex}{vs:aW},PH xs=some q->cm c xs vs->vs=(q.ev c.ρ).list.map (fun x=>Value.string x.str)/\(q.ev c.ρ).list.length=xs.length
 |[],q,[],h,_=>by simp[PH]at h;subst h;exact⟨rfl,rfl⟩
 |[],_,_::_,_,hr=>hr.elim|_::_,_,[],_,hr=>hr.elim|x::xs,q,v::vs,h,hr=>by
  unfold PH at h;split at h
  ·rename_i h1;cases h1
  ·rename_i e r h1;cases h1
   obtain⟨q',h2,rfl⟩:=nW.1 h;obtain⟨i1,i2⟩:=IY h2 hr.2;have h0:v= .string (e.ev c.ρ).str:=hr.1;have hL:((Ex.o .cons e q').ev c.ρ).list=e.ev c.ρ::(q'.ev c.ρ).list:=rfl;rw[hL];exact⟨by rw[h0,i1];rfl,by simp[i2]⟩
  ·cases h
def HX:∀{xs:eO}{q:Ex}{vs:aW},ON xs=some q->cm c xs vs->vs=(q.ev c.ρ).list.map (fun x=>Value.int .i64 x.int)/\(q.ev c.ρ).list.length=xs.length
 |[],q,[],h,_=>by simp[ON]at h;subst h;exact⟨rfl,rfl⟩
 |[],_,_::_,_,hr=>hr.elim|_::_,_,[],_,hr=>hr.elim|x::xs,q,v::vs,h,hr=>by
  unfold ON at h;split at h
  ·rename_i h1;cases h1
  ·rename_i e r h1;cases h1
   obtain⟨q',h2,rfl⟩:=nW.1 h;obtain⟨i1,i2⟩:=HX h2 hr.2;have h0:v= .int .i64 (e.ev c.ρ).int:=hr.1;have hL:((Ex.o .cons e q').ev c.ρ).list=e.ev c.ρ::(q'.ev c.ρ).list:=rfl;rw[hL];exact⟨by rw[h0,i1];rfl,by simp[i2]⟩
  ·cases h
def KU{n:Nat}{sv:SV}{q:Ex}(h:acv n sv=some q){v:Value}(hv:sv.rel c v):v=gp n (q.ev c.ρ):=by
 unfold acv at h;split at h
 ·cases h
  exact hv
 ·cases h
  exact hv
 ·split at h
  ·rename_i hl;obtain⟨vs,rfl,hr⟩:=hv;obtain⟨i1,i2⟩:=IY h hr;rw[i1,hl]at*;unfold gp;rw[aE (by omega),aE (by omega),aE (by omega)];congr 2
   match hL:(q.ev c.ρ).list,i2 with
   |[x,y],_=>rfl
  ·cases h
 ·split at h
  ·rename_i hl;obtain⟨vs,rfl,hr⟩:=hv;obtain⟨i1,i2⟩:=HX h hr;rw[i1,hl]at*;unfold gp;rw[aE (by omega),aE (by omega),aA rfl];congr 2
   match hL:(q.ev c.ρ).list,i2 with
   |[x,y],_=>rfl
  ·cases h
 ·cases h
def Ih(g:av P B w0 σ c a w)(cS:xz σ c a rd){ty:TypeId}{n:Nat}{sv:SV}{b:Nat}{e:Ex}(h:TQ rd ty n sv=some (b,e)){v:Value}(hv:sv.rel c v):
 σ.blk b=some ⟨[.keys n e],ty,1⟩/\∃r,v= .map (some r)/\c.β b=some r/\(B.n<=r\/B.X r)/\w.heap[r]? =some (.map (eY ((e.ev c.ρ).list.map (gp n))) (e.ev c.ρ).list.length):=by
 unfold TQ at h
 split at h
 ·rename_i b';split at h
  ·rename_i m e' t hb;split at h
   ·rename_i hc;simp only[aL]at hc;have h1:=fh hc.1;have h2:=fh hc.2;subst h1;subst h2;cases h
    obtain⟨r,hr,hv⟩:=hv;have hblk:=cS.blk _ _ hb;obtain⟨r',cs,e1,e2,e3,e4⟩:=g.au _ _ hblk;rw[hr]at e1;cases e1
    match cs,e4 with
    |[u],e4=>
     have e4:u=_:=e4.1;subst e4;refine⟨hblk,r,hv,hr,e2,?_⟩;rw[e3];simp[np]
    |[],e4=>exact e4.elim|_::_::_,e4=>exact e4.2.elim
   ·cases h
  ·cases h
 ·cases h
end
end Go.Proofs.YtnfambhakdnncaaGreatDoor
