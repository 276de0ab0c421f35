/-
  A symbolic run of a function's operations: expressions, trees, states, and the run itself (definitions alone).
-/
import Derived.WalkKit
import Derived.ProofKit
import Derived.Below
namespace Go.Proofs.YtkjgcalkkfgmlaaDoor

/-- Plain data. -/
inductive Sc where
  | i (z : Int) | b (x : Bool) | s (x : ByteArray) | l (xs : List Sc)
  deriving Inhabited
def Sc.int : Sc → Int | .i z => z | _ => 0
def Sc.bool : Sc → Bool | .b x => x | _ => false
def Sc.str : Sc → ByteArray | .s x => x | _ => ByteArray.empty
def Sc.list : Sc → List Sc | .l x => x | _ => []
@[simp] theorem Sc.int_i (z : Int) : (Sc.i z).int = z := rfl
@[simp] theorem Sc.bool_b (x : Bool) : (Sc.b x).bool = x := rfl
@[simp] theorem Sc.str_s (x : ByteArray) : (Sc.s x).str = x := rfl
@[simp] theorem Sc.list_l (x : List Sc) : (Sc.l x).list = x := rfl

inductive U1 where
  | conv (k : IntKind) | not | len | slen | cell (i : Nat) | bytes | ofb | isb
  deriving DecidableEq
inductive U2 where
  | add (k : IntKind) | sub (k : IntKind) | mul (k : IntKind) | quo (k : IntKind) | rem (k : IntKind)
  | band (k : IntKind) | bor (k : IntKind) | bxor (k : IntKind) | bandn (k : IntKind) | shl (k : IntKind) | shr (k : IntKind)
  | max | min | eq | ne | lt | le | beq | bne | and | or | seq | cat | sidx | snoc | app | idx | cons | rep
  deriving DecidableEq
inductive U3 where
  | ite | lsub | ssub | upd
  deriving DecidableEq

/-- An expression over the variables of a list. -/
inductive Ex where
  | v (n : Nat) | i (z : Int) | b (x : Bool) | s (x : List Nat) | nil
  | u (f : U1) (x : Ex) | o (f : U2) (x y : Ex) | t (f : U3) (x y z : Ex)
  deriving Inhabited

def Ex.same : Ex → Ex → Bool
  | .v p, .v q => p == q
  | .i p, .i q => p == q
  | .b p, .b q => p == q
  | .s p, .s q => p == q
  | .nil, .nil => true
  | .u f x, .u g y => decide (f = g) && x.same y
  | .o f x y, .o g x' y' => decide (f = g) && x.same x' && y.same y'
  | .t f x y z, .t g x' y' z' => decide (f = g) && x.same x' && y.same y' && z.same z'
  | _, _ => false

/-- All variables are below n. -/
def Ex.under (n : Nat) : Ex → Bool
  | .v a => Nat.blt a n
  | .u _ x => x.under n
  | .o _ x y => x.under n && y.under n
  | .t _ x y z => x.under n && y.under n && z.under n
  | _ => true

/-- A string's bytes, as data. -/
def bytesL (s : ByteArray) : List Sc := s.data.toList.map fun b => Sc.i (b.toNat : Int)
def isByte : Sc → Bool | .i z => decide (0 ≤ z) && decide (z < 256) | _ => false
def U1.ev : U1 → Sc → Sc
  | .conv k, x => .i (k.wrap x.int)
  | .not, x => .b (!x.bool)
  | .len, x => .i x.list.length
  | .slen, x => .i x.str.size
  | .cell n, x => x.list.getD n (.i 0)
  | .bytes, x => .l (bytesL x.str)
  | .ofb, x => .s ⟨(x.list.map fun y => UInt8.ofNat y.int.toNat).toArray⟩
  | .isb, x => .b (!x.list.isEmpty && x.list.all isByte)
def U2.ev : U2 → Sc → Sc → Sc
  | .add k, x, y => .i (k.wrap (x.int + y.int))
  | .sub k, x, y => .i (k.wrap (x.int - y.int))
  | .mul k, x, y => .i (k.wrap (x.int * y.int))
  | .quo k, x, y => .i (k.wrap (x.int.tdiv y.int))
  | .rem _, x, y => .i (x.int.tmod y.int)
  | .band k, x, y => .i (k.wrap (BitVec.ofInt k.bits x.int &&& BitVec.ofInt k.bits y.int).toNat)
  | .bor k, x, y => .i (k.wrap (BitVec.ofInt k.bits x.int ||| BitVec.ofInt k.bits y.int).toNat)
  | .bxor k, x, y => .i (k.wrap (BitVec.ofInt k.bits x.int ^^^ BitVec.ofInt k.bits y.int).toNat)
  | .bandn k, x, y => .i (k.wrap (BitVec.ofInt k.bits x.int &&& ~~~BitVec.ofInt k.bits y.int).toNat)
  | .shl k, x, y => .i (k.wrap (x.int * 2 ^ (Min.min y.int.toNat k.bits)))
  | .shr k, x, y => .i (x.int.fdiv (2 ^ (Min.min y.int.toNat k.bits)))
  | .max, x, y => .i (if y.int > x.int then y.int else x.int)
  | .min, x, y => .i (if y.int < x.int then y.int else x.int)
  | .eq, x, y => .b (x.int == y.int)
  | .ne, x, y => .b (x.int != y.int)
  | .lt, x, y => .b (decide (x.int < y.int))
  | .le, x, y => .b (decide (x.int ≤ y.int))
  | .beq, x, y => .b (x.bool == y.bool)
  | .bne, x, y => .b (x.bool != y.bool)
  | .and, x, y => .b (x.bool && y.bool)
  | .or, x, y => .b (x.bool || y.bool)
  | .seq, x, y => .b (x.str.toList == y.str.toList)
  | .cat, x, y => .s (x.str ++ y.str)
  | .sidx, x, y => .i ((x.str.data.toList.getD y.int.toNat 0).toNat)
  | .snoc, x, y => .l (x.list ++ [y])
  | .app, x, y => .l (x.list ++ y.list)
  | .idx, x, y => x.list.getD y.int.toNat (.i 0)
  | .cons, x, y => .l (x :: y.list)
  | .rep, x, y => .l (List.replicate y.int.toNat x)
def U3.ev : U3 → Sc → Sc → Sc → Sc
  | .ite, x, y, z => if x.bool then y else z
  | .lsub, x, y, z => .l ((x.list.take z.int.toNat).drop y.int.toNat)
  | .ssub, x, y, z => .s (x.str.extract y.int.toNat z.int.toNat)
  | .upd, x, y, z => .l (x.list.set y.int.toNat z)
def Ex.ev (ρ : List Sc) : Ex → Sc
  | .v n => ρ.getD n (.i 0)
  | .i z => .i z
  | .b x => .b x
  | .s x => .s ⟨(x.map UInt8.ofNat).toArray⟩
  | .nil => .l []
  | .u f x => f.ev (x.ev ρ)
  | .o f x y => f.ev (x.ev ρ) (y.ev ρ)
  | .t f x y z => f.ev (x.ev ρ) (y.ev ρ) (z.ev ρ)

/-- Literals are reckoned at once. -/
def mk1 (f : U1) (x : Ex) : Ex :=
  match f, x with
  | .conv k, .i a => .i (k.wrap a)
  | .not, .b a => .b (!a)
  | .len, .nil => .i 0
  | .cell 0, .o .cons a _ => a
  | .cell (n + 1), .o .cons _ r => match n, r with
    | 0, .o .cons a _ => a
    | _, _ => .u (.cell (n + 1)) x
  | f, x => .u f x
def mk2 (f : U2) (x y : Ex) : Ex :=
  match x, y with
  | .i a, .i b => match f with
    | .add k => .i (k.wrap (a + b))
    | .sub k => .i (k.wrap (a - b))
    | .mul k => .i (k.wrap (a * b))
    | .eq => .b (a == b)
    | .ne => .b (a != b)
    | .lt => .b (decide (a < b))
    | .le => .b (decide (a ≤ b))
    | f => .o f x y
  | .b a, y => match f with
    | .and => match a with | true => (match y with | .b c => .b c | y => .o .and x y) | false => .b false
    | .or => match a with | true => .b true | false => (match y with | .b c => .b c | y => .o .or x y)
    | f => .o f x y
  | x, y => .o f x y
def mk3 (f : U3) (x y z : Ex) : Ex := .t f x y z

/-- The form of a cell. -/
inductive CK where
  | int (k : IntKind) | bool | str
  deriving DecidableEq
def CK.val : CK → Sc → Value
  | .int k, x => .int k x.int
  | .bool, x => .bool x.bool
  | .str, x => .string x.str

/-- A single cell, as the run knows it. -/
inductive At where
  | top | int (k : IntKind) (e : Ex) | bool (e : Ex) | str (e : Ex)
  | ptr (b off : Nat) | pel (r es : Nat) (ix : Ex) (off : Nat) | nilp
  | vec (r : Nat) | sl (r es : Nat) (lo len : Ex) | nils
  | fn (f : Nat) (caps : List Nat)
  deriving Inhabited
inductive SC where
  | a (x : At) | g (cs : List At)
  deriving Inhabited
inductive SV where
  | c (x : SC) | t (xs : List SC)
  deriving Inhabited
abbrev SV.at (x : At) : SV := .c (.a x)
abbrev SV.top : SV := .c (.a .top)

def At.same : At → At → Bool
  | .top, .top => true
  | .int k e, .int k' e' => decide (k = k') && e.same e'
  | .bool e, .bool e' => e.same e'
  | .str e, .str e' => e.same e'
  | .ptr b o, .ptr b' o' => b == b' && o == o'
  | .pel r s i o, .pel r' s' i' o' => r == r' && s == s' && i.same i' && o == o'
  | .nilp, .nilp => true
  | .vec r, .vec r' => r == r'
  | .sl r s x y, .sl r' s' x' y' => r == r' && s == s' && x.same x' && y.same y'
  | .nils, .nils => true
  | .fn f c, .fn f' c' => f == f' && c == c'
  | _, _ => false
def At.under (n : Nat) : At → Bool
  | .int _ e | .bool e | .str e | .pel _ _ e _ => e.under n
  | .sl _ _ x y => x.under n && y.under n
  | _ => true
def SC.under (n : Nat) : SC → Bool | .a x => x.under n | .g cs => cs.all (·.under n)
def SV.under (n : Nat) : SV → Bool | .c x => x.under n | .t xs => xs.all (·.under n)
/-- The left one says no more than the right one. -/
def At.le (x y : At) : Bool := (match x with | .top => true | _ => false) || x.same y
def leL : List At → List At → Bool
  | [], [] => true
  | x :: xs, y :: ys => x.le y && leL xs ys
  | _, _ => false
def SC.le : SC → SC → Bool
  | .a .top, _ => true
  | .a x, .a y => x.le y
  | .g x, .g y => leL x y
  | _, _ => false
def leC : List SC → List SC → Bool
  | [], [] => true
  | x :: xs, y :: ys => x.le y && leC xs ys
  | _, _ => false
def SV.le : SV → SV → Bool
  | .c (.a .top), _ => true
  | .c x, .c y => x.le y
  | .t x, .t y => leC x y
  | _, _ => false

structure Bk where
  cells : List At
  ty : TypeId
/-- A row of elements: the element's type, its cells' forms (agg: a struct), the content; own: a block of the call's own, at whose end may be appended. -/
structure Rw where
  el : TypeId
  ks : List CK
  agg : Bool
  cont : Ex
  own : Bool
def Rw.same (a b : Rw) : Bool := a.el == b.el && decide (a.ks = b.ks) && a.agg == b.agg && a.cont.same b.cont && a.own == b.own

/-- The tree of a run. -/
inductive T (L : Type) where
  | leaf (x : L)
  | fail (why : String)
  | ite (c : Ex) (a b : T L)
  | need (c : Ex) (k : T L)
  | call (f : Nat) (args : List Ex) (n : Nat) (k : T L)
  | loop (ini : List Ex) (body : T L)
  | next (lvl : Nat) (vals : List Ex)
def T.bind {L M : Type} : T L → (L → T M) → T M
  | .leaf x, f => f x
  | .fail w, _ => .fail w
  | .ite c a b, f => .ite c (a.bind f) (b.bind f)
  | .need c k, f => .need c (k.bind f)
  | .call g as n k, f => .call g as n (k.bind f)
  | .loop i k, f => .loop i (k.bind f)
  | .next l vs, _ => .next l vs

structure St where
  nv : Nat
  lv : Nat
  slots : List SV
  blks : List (Option Bk)
  rows : List (Option Rw)
def St.slot (σ : St) (t : Nat) : SV := σ.slots.getD t .top
def St.blk (σ : St) (b : Nat) : Option Bk := σ.blks.getD b none
def St.row (σ : St) (r : Nat) : Option Rw := σ.rows.getD r none

/-- The form of a value in a contract: a cell, or a row of elements. -/
inductive AS where
  | ck (k : CK) | row (el : TypeId) (ks : List CK) (agg : Bool)
inductive CS where
  | a (x : AS) | g (xs : List AS)
inductive RS where
  | c (x : CS) | t (xs : List CS)
structure Con where
  f : FuncId
  args : List CS
  res : RS

/-- What an operation does. -/
structure OpR where
  needs : List Ex
  call : Option (Nat × List Ex × Nat)
  val : SV
  blks : List (Nat × Option Bk)
  rows : List (Nat × Option Rw)
  nb : List Nat
  nr : List Nat
def OpR.pure (v : SV) : OpR := ⟨[], none, v, [], [], [], []⟩

/-- A literal value. -/
def atOf : Value → Option At
  | .int k n => some (.int k (.i n))
  | .bool b => some (.bool (.b b))
  | .string s => some (.str (.s (s.data.toList.map UInt8.toNat)))
  | .pointer none => some .nilp
  | .slice none 0 0 => some .nils
  | _ => none
def atsOf : List Value → Option (List At)
  | [] => some []
  | v :: vs => match atOf v, atsOf vs with
    | some x, some xs => some (x :: xs)
    | _, _ => none
def svOf : Value → Option SV
  | .agg cs => (atsOf cs.toList).map fun x => .c (.g x)
  | .tuple vs => match vs.toList with | [] => some (.t []) | _ => none
  | v => (atOf v).map .at
end Go.Proofs.YtkjgcalkkfgmlaaDoor
