/-
  A symbolic run: what a single operation does.
-/
import Derived.Test.YtkjgcalkkfgmlaaDoorSymA
namespace Go.Proofs.YtkjgcalkkfgmlaaDoor

def Operand.tmp? : Operand → Option Tmp | .tmp t => some t | _ => none
/-- The slots that an operation looks at. -/
def oTmps (ops : List Oper) (o : Oper) : List Tmp :=
  (o.op.operands.toList.filterMap Operand.tmp?) ++ (match o.guard with | some (g, _) => ((ops[g]?).bind (·.dst)).toList | none => [])

def At.bid : At → Option Nat | .ptr p _ => some p | _ => none
def At.rid : At → Option Nat | .pel r _ _ _ | .vec r | .sl r _ _ _ => some r | _ => none
def SC.atoms : SC → List At | .a x => [x] | .g cs => cs
def SV.atoms : SV → List At | .c x => x.atoms | .t xs => xs.flatMap SC.atoms
def SV.bids (x : SV) : List Nat := x.atoms.filterMap At.bid
def SV.rids (x : SV) : List Nat := x.atoms.filterMap At.rid

/-- What an operation may read. -/
structure Rd where
  ev : Operand → SV
  blk : Nat → Option Bk
  row : Nat → Option Rw
  nv : Nat
  nb : Nat
  nr : Nat
def evS (slot : Nat → SV) : Operand → SV
  | .tmp t => slot t
  | .const v => (svOf v).getD .top
  | .func f => .at (.fn f [])
  | .global _ => .top
def hasN (l : List Nat) (n : Nat) : Bool := l.any (Nat.beq n)
/-- The slots whose blocks and rows an operation looks into: a copy looks into none. -/
def oDeep (ops : List Oper) (o : Oper) : List Tmp := match o.op with | .move _ => [] | .assign _ => [] | _ => oTmps ops o
/-- The view of an operation: its own slots, and the blocks and rows that these name. -/
def rdOf (slot : Nat → SV) (blk : Nat → Option Bk) (row : Nat → Option Rw) (ts ds : List Tmp) (nv nb nr : Nat) : Rd :=
  { ev := evS fun t => cond (hasN ts t) (slot t) .top
    blk := fun p => cond (hasN (ds.flatMap fun t => (slot t).bids) p) (blk p) none
    row := fun r => cond (hasN (ds.flatMap fun t => (slot t).rids) r) (row r) none
    nv, nb, nr }

section
variable (P : Program)

/-- The cells' forms of a type, off its zero value. -/
def ckOf : Value → Option CK
  | .int k _ => some (.int k) | .bool _ => some .bool | .string _ => some .str | _ => none
def cksOf : List Value → Option (List CK)
  | [] => some []
  | v :: vs => match ckOf v, cksOf vs with
    | some x, some xs => some (x :: xs)
    | _, _ => none
def zeroOf (ty : TypeId) : Option Value := (P.info? ty).bind (·.zero)
def rowTy (el : TypeId) : Option (Bool × List CK) :=
  match zeroOf P el with
  | some (.agg cs) => (cksOf cs.toList).map fun x => (true, x)
  | some v => (ckOf v).map fun x => (false, [x])
  | none => none
def isAggB (ty : TypeId) : Option Bool :=
  match P.underlying ty with
  | some (.struct _) | some (.array _ _) => some true
  | some _ => some false
  | none => none
def sizeB (ty : TypeId) : Option Nat := (P.info? ty).map (·.size)
def fieldB (ty : TypeId) (f : Nat) : Option Field :=
  match P.underlying ty with
  | some (.struct fs) => fs[f]?
  | _ => none

def ckAt : CK → Ex → At | .int k, e => .int k e | .bool, e => .bool e | .str, e => .str e
def atCk : CK → At → Option Ex
  | .int k, .int k' e => if k = k' then some e else none
  | .bool, .bool e => some e
  | .str, .str e => some e
  | _, _ => none
def atCks : List CK → List At → Option Ex
  | [], [] => some .nil
  | k :: ks, x :: xs => match atCk k x, atCks ks xs with
    | some e, some es => some (.o .cons e es)
    | _, _ => none
  | _, _ => none
/-- An element as an expression. -/
def elemOf (agg : Bool) (ks : List CK) : SC → Option Ex
  | .a x => match agg, ks with | false, [k] => atCk k x | _, _ => none
  | .g xs => match agg with | true => atCks ks xs | false => none
def ckAts (e : Ex) : List CK → Nat → List At
  | [], _ => []
  | k :: ks, n => ckAt k (mk1 (.cell n) e) :: ckAts e ks (n + 1)
/-- An element's cells. -/
def cellsOf (agg : Bool) (ks : List CK) (e : Ex) : List At :=
  match agg, ks with
  | true, ks => ckAts e ks 0
  | false, [k] => [ckAt k e]
  | false, _ => []
def Rw.elem (w : Rw) (ix : Ex) : Ex := mk2 .idx w.cont ix

def SV.sc : SV → Option SC | .c x => some x | _ => none
def SV.cells : SV → Option (List At)
  | .c (.a x) => some [x]
  | .c (.g cs) => some cs
  | .t _ => none
def SV.bool? : SV → Option Ex | .c (.a (.bool e)) => some e | _ => none
def SV.int? : SV → Option (IntKind × Ex) | .c (.a (.int k e)) => some (k, e) | _ => none
def SV.at? : SV → Option At | .c (.a x) => some x | _ => none
def SV.lit? : SV → Option Bool | .c (.a (.bool (.b x))) => some x | _ => none

def At.known : At → Bool | .top => false | _ => true
def spliceL : List At → Nat → List At → Option (List At)
  | cs, 0, [] => some cs
  | _ :: cs, 0, x :: xs => (spliceL cs 0 xs).map (x :: ·)
  | c :: cs, n + 1, xs => (spliceL cs n xs).map (c :: ·)
  | [], _, _ => none
def takeL : List At → Nat → Nat → Option (List At)
  | _, 0, 0 => some []
  | c :: cs, 0, n + 1 => (takeL cs 0 n).map (c :: ·)
  | _ :: cs, o + 1, n => takeL cs o n
  | [], _, _ => none
def part? (ty : TypeId) (cs : List At) (off : Nat) : Option SV :=
  match isAggB P ty, sizeB P ty with
  | some true, some n => (takeL cs off n).map fun x => .c (.g x)
  | some false, _ => cs[off]?.map .at
  | _, _ => none

/-- Equality at a type. -/
def eqSC (pl : List TypeId) : Nat → TypeId → SC → SC → Option Ex
  | 0, _, _, _ => none
  | d + 1, ty, x, y =>
    match P.underlying ty, x, y with
    | some (.int _), .a (.int k x), .a (.int k' y) => if k = k' then some (mk2 .eq x y) else none
    | some .bool, .a (.bool x), .a (.bool y) => some (mk2 .beq x y)
    | some .string, .a (.str x), .a (.str y) => some (mk2 .seq x y)
    | some (.struct fs), .g xs, .g ys =>
      if !hasN pl ty then none else
      fs.toList.foldr (fun f acc =>
        if f.name = "_" then none else
        match acc, (part? P f.type xs f.offset).bind SV.sc, (part? P f.type ys f.offset).bind SV.sc with
        | some r, some p, some q => match eqSC pl d f.type p q with
          | some e => some (mk2 .and e r)
          | none => none
        | _, _, _ => none) (some (.b true))
    | _, _, _ => none

def symBin (pl : List TypeId) (op : BinOp) (ty : TypeId) (x y : SV) : Option OpR :=
  let fin (k : IntKind) (f : U2) (a b : Ex) := some (OpR.pure (.at (.int k (mk2 f a b))))
  let bin (f : U2) (a b : Ex) := some (OpR.pure (.at (.bool (mk2 f a b))))
  match x, y with
  | .c (.a (.int k a)), .c (.a (.int k' b)) =>
    match op with
    | .shl => some { OpR.pure (.at (.int k (mk2 (.shl k) a b))) with needs := [mk2 .le (.i 0) b] }
    | .shr => some { OpR.pure (.at (.int k (mk2 (.shr k) a b))) with needs := [mk2 .le (.i 0) b] }
    | op =>
      if k = k' then match op with
        | .add => fin k (.add k) a b
        | .sub => fin k (.sub k) a b
        | .mul => fin k (.mul k) a b
        | .quo => some { OpR.pure (.at (.int k (mk2 (.quo k) a b))) with needs := [mk2 .ne b (.i 0)] }
        | .rem => some { OpR.pure (.at (.int k (mk2 (.rem k) a b))) with needs := [mk2 .ne b (.i 0)] }
        | .and => fin k (.band k) a b
        | .or => fin k (.bor k) a b
        | .xor => fin k (.bxor k) a b
        | .andNot => fin k (.bandn k) a b
        | .eql => bin .eq a b
        | .neq => bin .ne a b
        | .lss => bin .lt a b
        | .leq => bin .le a b
        | .gtr => bin .lt b a
        | .geq => bin .le b a
        | _ => none
      else none
  | .c (.a (.str a)), .c (.a (.str b)) =>
    match op with
    | .add => some { OpR.pure (.at (.str (mk2 .cat a b))) with needs := [mk2 .le (.u .slen (mk2 .cat a b)) (.i 9223372036854775807)] }
    | .eql => bin .seq a b
    | .neq => some (OpR.pure (.at (.bool (mk1 .not (mk2 .seq a b)))))
    | _ => none
  | .c (.a (.bool a)), .c (.a (.bool b)) =>
    match op, P.underlying ty with
    | .eql, some .bool => bin .beq a b
    | .neq, some .bool => some (OpR.pure (.at (.bool (mk1 .not (mk2 .beq a b)))))
    | _, _ => none
  | .c (.g a), .c (.g b) =>
    if !hasN pl ty then none else
    match op, eqSC P pl 4 ty (.g a) (.g b) with
    | .eql, some e => some (OpR.pure (.at (.bool e)))
    | .neq, some e => some (OpR.pure (.at (.bool (mk1 .not e))))
    | _, _ => none
  | _, _ => none

/-- Each element has its cells. -/
def okFormB (agg : Bool) (ks : List CK) : Bool := match ks with | [] => false | [_] => true | _ => agg
/-- A slice as the run knows it: the row, where it begins, its length. -/
def sliceOf (row : Nat → Option Rw) : SV → Option (Option (Nat × Rw) × Ex × Ex)
  | .c (.a (.vec r)) => match row r with | some w => if okFormB w.agg w.ks then some (some (r, w), .i 0, mk1 .len w.cont) else none | none => none
  | .c (.a (.sl r es lo len)) => match row r with | some w => if es = w.ks.length ∧ okFormB w.agg w.ks then some (some (r, w), lo, len) else none | none => none
  | .c (.a .nils) => some (none, .i 0, .i 0)
  | _ => none
/-- Its content. -/
def contOf : SV → Option (Nat × Rw) → Ex → Ex → Ex
  | .c (.a (.vec _)), some (_, w), _, _ => w.cont
  | _, some (_, w), lo, len => mk3 .lsub w.cont lo (mk2 (.add .i64) lo len)
  | _, none, _, _ => .nil

/-- An argument of a contract. -/
def argOf (row : Nat → Option Rw) : AS → At → Option (Ex × List (Nat × Option Rw))
  | .ck k, x => (atCk k x).map fun e => (e, [])
  | .row el ks agg, x =>
    match sliceOf row (.at x) with
    | some (some (r, w), lo, len) =>
      if w.el = el ∧ w.ks = ks ∧ w.agg = agg then some (contOf (.at x) (some (r, w)) lo len, if w.own then [(r, some { w with own := false })] else []) else none
    | some (none, _, _) => some (.nil, [])
    | none => none
def argsOf (row : Nat → Option Rw) : List AS → List At → Option (List Ex × List (Nat × Option Rw))
  | [], [] => some ([], [])
  | s :: ss, x :: xs => match argOf row s x, argsOf row ss xs with
    | some (e, r), some (es, rs) => some (e :: es, r ++ rs)
    | _, _ => none
  | _, _ => none
def argC (row : Nat → Option Rw) : CS → SV → Option (List Ex × List (Nat × Option Rw))
  | .a s, .c (.a x) => (argOf row s x).map fun (e, r) => ([e], r)
  | .g ss, .c (.g xs) => argsOf row ss xs
  | _, _ => none
def argsC (row : Nat → Option Rw) : List CS → List SV → Option (List Ex × List (Nat × Option Rw))
  | [], [] => some ([], [])
  | s :: ss, x :: xs => match argC row s x, argsC row ss xs with
    | some (e, r), some (es, rs) => some (e ++ es, r ++ rs)
    | _, _ => none
  | _, _ => none
/-- A result of a contract: the atoms, the new rows; next variable, next row. -/
def resA (nv nr : Nat) : AS → At × List (Nat × Option Rw) × Nat
  | .ck k => (ckAt k (.v nv), [], nr)
  | .row el ks agg => (.vec nr, [(nr, some ⟨el, ks, agg, .v nv, false⟩)], nr + 1)
def resAs (nv nr : Nat) : List AS → List At × List (Nat × Option Rw) × Nat × Nat
  | [] => ([], [], nv, nr)
  | s :: ss =>
    let (x, r, nr1) := resA nv nr s
    let (xs, rs, nv2, nr2) := resAs (nv + 1) nr1 ss
    (x :: xs, r ++ rs, nv2, nr2)
def resC (nv nr : Nat) : CS → SC × List (Nat × Option Rw) × Nat × Nat
  | .a s => let (x, r, nr1) := resA nv nr s; (.a x, r, nv + 1, nr1)
  | .g ss => let (xs, r, nv1, nr1) := resAs nv nr ss; (.g xs, r, nv1, nr1)
def resCs (nv nr : Nat) : List CS → List SC × List (Nat × Option Rw) × Nat × Nat
  | [] => ([], [], nv, nr)
  | s :: ss =>
    let (x, r, nv1, nr1) := resC nv nr s
    let (xs, rs, nv2, nr2) := resCs nv1 nr1 ss
    (x :: xs, r ++ rs, nv2, nr2)
def resR (nv nr : Nat) : RS → SV × List (Nat × Option Rw) × Nat × Nat
  | .c s => let (x, r, a, b) := resC nv nr s; (.c x, r, a, b)
  | .t ss => let (xs, r, a, b) := resCs nv nr ss; (.t xs, r, a, b)

def litNat : Ex → Option Nat | .i z => if 0 ≤ z then some z.toNat else none | _ => none
def elemsOf (agg : Bool) (ks : List CK) : Nat → List (Nat × SV) → Option Ex
  | _, [] => some .nil
  | n, (i, x) :: rest => if i = n then match x.sc.bind (elemOf agg ks), elemsOf agg ks (n + 1) rest with
      | some e, some es => some (.o .cons e es)
      | _, _ => none
    else none
def fillL (place : Nat → Option (Nat × Nat)) (cs : List At) : List (Nat × SV) → Option (List At)
  | [] => some cs
  | (i, x) :: rest => match place i, x.cells with
    | some (off, size), some xs => if xs.length = size ∧ xs.all At.known then match spliceL cs off xs with
        | some cs' => fillL place cs' rest
        | none => none
      else none
    | _, _ => none
def room (cont : Ex) (bytes : Nat) : Ex := mk2 .le (mk1 .len cont) (.i ((140737488355328 / bytes : Nat) : Int))
/-- A list that is appended: element for element where it is written out. -/
def appE (x : Ex) : Ex → Ex
  | .nil => x
  | .o .cons e r => appE (mk2 .snoc x e) r
  | y => match x with | .nil => y | x => mk2 .app x y

/-- A source of such elements. -/
def srcFits (el : TypeId) (ks : List CK) (agg : Bool) : Option (Nat × Rw) → Bool
  | some (_, w) => w.el == el && decide (w.ks = ks) && w.agg == agg
  | none => true
def notRow (r : Nat) : Option (Nat × Rw) → Bool
  | some (q, _) => !(Nat.beq q r)
  | none => true
def mmL (f : U2) : Ex → List SV → Option Ex
  | e, [] => some e
  | e, .c (.a (.int _ q)) :: r => mmL f (mk2 f e q) r
  | _, _ => none
def zero8 : Option Value → Bool | some (.int k z) => decide (k = .u8) && decide (z = 0) | _ => false
/-- The bytes of a string at the end of a row. -/
def appStr (rd : Rd) (s x : Operand) (t t' : TypeId) : Option OpR :=
  match P.underlying t, P.underlying t' with
  | some (.slice el), some .string =>
    match P.info? el, rd.ev x with
    | some i, .c (.a (.str e)) =>
      if Nat.beq i.bytes 1 && Nat.beq i.size 1 && zero8 i.zero then
        match rd.ev s with
        | .c (.a (.vec r)) => match rd.row r with
          | some w => if w.own && srcFits el [.int .u8] false (some (r, w)) then
              let c := appE w.cont (mk1 .bytes e)
              some ⟨[room c 1], none, .at (.vec rd.nr), [], [(r, none), (rd.nr, some { w with cont := c })], [], [rd.nr]⟩
            else none
          | none => none
        | .c (.a .nils) =>
          let c := appE .nil (mk1 .bytes e)
          some ⟨[room c 1], none, .at (.vec rd.nr), [], [(rd.nr, some ⟨el, [.int .u8], false, c, true⟩)], [], [rd.nr]⟩
        | _ => none
      else none
    | _, _ => none
  | _, _ => none
def symCall (cons : List Con) (rd : Rd) (c : Call) : Option OpR :=
  match c.callee with
  | .builtin .len =>
    match c.args.toList, c.argTypes.toList with
    | [x], t :: _ => match P.underlying t, rd.ev x with
      | some .string, .c (.a (.str e)) => some (OpR.pure (.at (.int .i64 (mk1 .slen e))))
      | some (.slice _), x => (sliceOf rd.row x).map fun (_, _, len) => OpR.pure (.at (.int .i64 len))
      | some (.array n _), _ => some (OpR.pure (.at (.int .i64 (.i n))))
      | _, _ => none
    | _, _ => none
  | .builtin .max =>
    match c.args.toList with
    | x :: rest => match rd.ev x with
      | .c (.a (.int k e)) => (mmL .max e (rest.map rd.ev)).map fun e => OpR.pure (.at (.int k e))
      | _ => none
    | _ => none
  | .builtin .min =>
    match c.args.toList with
    | x :: rest => match rd.ev x with
      | .c (.a (.int k e)) => (mmL .min e (rest.map rd.ev)).map fun e => OpR.pure (.at (.int k e))
      | _ => none
    | _ => none
  | .builtin .append =>
    match c.args.toList, c.argTypes.toList with
    | [s, x], [t, t'] =>
      if t = t' then match P.underlying t with
        | some (.slice el) => match rowTy P el, P.info? el, sliceOf rd.row (rd.ev x) with
          | some (agg, ks), some i, some (src, lo, len) =>
            if srcFits el ks agg src && okFormB agg ks && Nat.blt 0 i.bytes && Nat.beq i.size ks.length then
              let y := contOf (rd.ev x) src lo len
              match rd.ev s with
              | .c (.a (.vec r)) => match rd.row r with
                | some w => if w.own && srcFits el ks agg (some (r, w)) && notRow r src then
                    let c := appE w.cont y
                    some ⟨[room c i.bytes], none, .at (.vec rd.nr), [], [(r, none), (rd.nr, some { w with cont := c })], [], [rd.nr]⟩
                  else none
                | none => none
              | .c (.a .nils) =>
                let c := appE .nil y
                some ⟨[room c i.bytes], none, .at (.vec rd.nr), [], [(rd.nr, some ⟨el, ks, agg, c, true⟩)], [], [rd.nr]⟩
              | _ => none
            else none
          | _, _, _ => none
        | _ => none
      else appStr P rd s x t t'
    | _, _ => none
  | .value f =>
    match rd.ev f with
    | .c (.a (.fn g [])) => match cons.find? fun x => Nat.beq x.f g with
      | some con => match argsC rd.row con.args (c.args.toList.map rd.ev) with
        | some (es, rs) => let (v, rs', nv', _) := resR rd.nv rd.nr con.res; some ⟨[], some (g, es, nv' - rd.nv), v, [], rs ++ rs', [], rs'.map (·.1)⟩
        | none => none
      | none => none
    | _ => none
  | _ => none

def lowOf (rd : Rd) : Option Operand → Option Ex
  | some l => (rd.ev l).int?.map (·.2)
  | none => some (.i 0)
def highOf (rd : Rd) (hi : Option Operand) (d : Ex) : Option Ex :=
  match hi with
  | some h => (rd.ev h).int?.map (·.2)
  | none => some d
/-- A place in a slice, as a place in its row. -/
def idxE (v : SV) (lo e : Ex) : Ex := match v with | .c (.a (.vec _)) => e | _ => mk2 (.add .i64) lo e
/-- A zero value of one cell. -/
def zeroEx : Value → Option (CK × Ex)
  | .int k n => if n = 0 then some (.int k, .i 0) else none
  | .bool b => if b = false then some (.bool, .b false) else none
  | _ => none
def symBase (pl : List TypeId) (o : Oper) (rd : Rd) : Option OpR :=
  match o.op with
  | .move x | .assign x => some (OpR.pure (rd.ev x))
  | .pick c x y => match rd.ev c with
    | .c (.a (.bool (.b true))) => some (OpR.pure (rd.ev x))
    | .c (.a (.bool (.b false))) => some (OpR.pure (rd.ev y))
    | .c (.a (.bool e)) => match rd.ev x, rd.ev y with
      | .c (.a (.bool p)), .c (.a (.bool q)) => some (OpR.pure (.at (.bool (mk3 .ite e p q))))
      | .c (.a (.int k p)), .c (.a (.int k' q)) => if k = k' then some (OpR.pure (.at (.int k (mk3 .ite e p q)))) else none
      | _, _ => none
    | _ => none
  | .alloc ty => match (zeroOf P ty).bind svOf with
    | some v => match v.cells with
      | some cs => if cs.all At.known then some ⟨[], none, .at (.ptr rd.nb 0), [(rd.nb, some ⟨cs, ty⟩)], [], [rd.nb], []⟩ else none
      | none => none
    | none => none
  | .box ty x => match (rd.ev x).cells with
    | some cs => if cs.all At.known then some ⟨[], none, .at (.ptr rd.nb 0), [(rd.nb, some ⟨cs, ty⟩)], [], [rd.nb], []⟩ else none
    | none => none
  | .load ty x => match rd.ev x with
    | .c (.a (.ptr b off)) => match rd.blk b with
      | some k => (part? P ty k.cells off).map OpR.pure
      | none => none
    | .c (.a (.pel r es ix off)) => match rd.row r with
      | some w => if es = w.ks.length ∧ okFormB w.agg w.ks then (part? P ty (cellsOf w.agg w.ks (w.elem ix)) off).map OpR.pure else none
      | none => none
    | _ => none
  | .store ty x y => match o.dst, rd.ev x, (rd.ev y).cells with
    | none, .c (.a (.ptr b off)), some xs => match rd.blk b, sizeB P ty with
      | some k, some n => if xs.length = n ∧ xs.all At.known then (spliceL k.cells off xs).map fun cs => ⟨[], none, .t [], [(b, some ⟨cs, k.ty⟩)], [], [], []⟩ else none
      | _, _ => none
    | none, .c (.a (.pel r es ix 0)), some _ => match rd.row r, sizeB P ty with
      | some w, some n => if w.own && Nat.beq n w.ks.length && Nat.beq es n && okFormB w.agg w.ks then match (rd.ev y).sc.bind (elemOf w.agg w.ks) with
          | some e => some ⟨[], none, .t [], [], [(r, some { w with cont := mk3 .upd w.cont ix e })], [], []⟩
          | none => none
        else none
      | _, _ => none
    | _, _, _ => none
  | .nilCheck x => match rd.ev x with
    | .c (.a (.ptr b off)) => some (OpR.pure (.at (.ptr b off)))
    | .c (.a (.fn f c)) => some (OpR.pure (.at (.fn f c)))
    | _ => none
  | .binOp op ty x y _ => symBin P pl op ty (rd.ev x) (rd.ev y)
  | .unOp op _ x => match op, rd.ev x with
    | .neg, .c (.a (.int k e)) => some (OpR.pure (.at (.int k (mk2 (.sub k) (.i 0) e))))
    | .xor, .c (.a (.int k e)) => some (OpR.pure (.at (.int k (mk2 (.bxor k) (.i (if k.signed then -1 else k.max)) e))))
    | .not, .c (.a (.bool e)) => some (OpR.pure (.at (.bool (mk1 .not e))))
    | _, _ => none
  | .convert src dst x => match P.underlying src, P.underlying dst, rd.ev x with
    | some _, some (.int k), .c (.a (.int _ e)) => some (OpR.pure (.at (.int k (mk1 (.conv k) e))))
    | some _, some .string, .c (.a (.str e)) => some (OpR.pure (.at (.str e)))
    | _, _, _ => none
  | .fieldAddr ty x f => match fieldB P ty f, rd.ev x with
    | some fd, .c (.a (.ptr b off)) => match sizeB P fd.type with
      | some (_ + 1) => some (OpR.pure (.at (.ptr b (off + fd.offset))))
      | _ => none
    | some fd, .c (.a (.pel r es ix off)) => match sizeB P fd.type with
      | some (_ + 1) => some (OpR.pure (.at (.pel r es ix (off + fd.offset))))
      | _ => none
    | _, _ => none
  | .field ty x f => match fieldB P ty f, rd.ev x with
    | some fd, .c (.g cs) => (part? P fd.type cs fd.offset).map OpR.pure
    | _, _ => none
  | .indexAddr ty x i => match P.underlying ty, rd.ev i with
    | some (.slice el), .c (.a (.int _ e)) => match sliceOf rd.row (rd.ev x), sizeB P el with
      | some (some (r, w), lo, len), some n => if n = w.ks.length then
          some { OpR.pure (.at (.pel r n (idxE (rd.ev x) lo e) 0)) with needs := [mk2 .le (.i 0) e, mk2 .lt e len] } else none
      | some (none, _, _), _ => some { OpR.pure .top with needs := [.b false] }
      | _, _ => none
    | some (.array len el), .c (.a (.int _ (.i z))) => match rd.ev x, sizeB P el with
      | .c (.a (.ptr b off)), some n => if 0 ≤ z ∧ z < (len : Int) then some (OpR.pure (.at (.ptr b (off + z.toNat * n)))) else none
      | _, _ => none
    | _, _ => none
  | .index ty x i => match P.underlying ty, rd.ev i, rd.ev x with
    | some (.array len el), .c (.a (.int _ (.i z))), .c (.g cs) => match sizeB P el with
      | some n => if 0 ≤ z ∧ z < (len : Int) then (part? P el cs (z.toNat * n)).map OpR.pure else none
      | none => none
    | some .string, .c (.a (.int _ e)), .c (.a (.str s)) => some { OpR.pure (.at (.int .u8 (mk2 .sidx s e))) with needs := [mk2 .le (.i 0) e, mk2 .lt e (mk1 .slen s)] }
    | _, _, _ => none
  | .extract x i => match rd.ev x with
    | .t xs => (xs[i]?).map fun s => OpR.pure (.c s)
    | _ => none
  | .build ty parts => match zeroOf P ty, P.underlying ty with
    | some z, some (.struct fs) => match (svOf z).bind SV.cells, fs.toList.mapM (fun f => (P.info? f.type).map fun i => (f.offset, i.size)) with
      | some zs, some places => if zs.all At.known then (fillL (places.toArray[·]?) zs (parts.toList.map fun (i, x) => (i, rd.ev x))).map fun cs => OpR.pure (.c (.g cs)) else none
      | _, _ => none
    | some z, some (.array _ el) => match (svOf z).bind SV.cells, P.info? el with
      | some zs, some ie => if zs.all At.known then (fillL (fun i => some (i * ie.size, ie.size)) zs (parts.toList.map fun (i, x) => (i, rd.ev x))).map fun cs => OpR.pure (.c (.g cs)) else none
      | _, _ => none
    | _, _ => none
  | .buildSlice ty len parts => match P.underlying ty with
    | some (.slice el) => match rowTy P el, sizeB P el with
      | some (agg, ks), some n => if n = ks.length ∧ parts.size = len ∧ len * n ≤ 16777216 ∧ okFormB agg ks then
          (elemsOf agg ks 0 (parts.toList.map fun (i, x) => (i, rd.ev x))).map fun c => ⟨[], none, .at (.vec rd.nr), [], [(rd.nr, some ⟨el, ks, agg, c, true⟩)], [], [rd.nr]⟩
        else none
      | _, _ => none
    | _ => none
  | .slice ty x lo hi mx => match mx with
    | some _ => none
    | none => match P.underlying ty with
      | some .string => match rd.ev x with
        | .c (.a (.str s)) => match lowOf rd lo, highOf rd hi (mk1 .slen s) with
          | some l, some h => some { OpR.pure (.at (.str (mk3 .ssub s l h))) with needs := [mk2 .le (.i 0) l, mk2 .le l h, mk2 .le h (mk1 .slen s)] }
          | _, _ => none
        | _ => none
      | some (.slice el) => match sliceOf rd.row (rd.ev x) with
        | some (some (r, w), b, n) => match lowOf rd lo, highOf rd hi n, sizeB P el with
          | some l, some h, some k => if k = w.ks.length then
              some { OpR.pure (.at (.sl r k (idxE (rd.ev x) b l) (mk2 (.sub .i64) h l))) with needs := [mk2 .le (.i 0) l, mk2 .le l h, mk2 .le h n] } else none
          | _, _, _ => none
        | _ => none
      | _ => none
  | .makeFunc (.func f) first caps => match first.toList, (caps.toList.map rd.ev).mapM (fun | .c (.a (.ptr b 0)) => some b | _ => none) with
    | [], some bs => some (OpR.pure (.at (.fn f bs)))
    | _, _ => none
  | .makeSlice ty x y => match P.underlying ty, rd.ev x, rd.ev y with
    | some (.slice el), .c (.a (.int _ e)), .c (.a (.int _ f)) => match P.info? el, (zeroOf P el).bind zeroEx with
      | some i, some (k, z) => if i.size = 1 ∧ i.bytes ≤ 16 then
          some ⟨[mk2 .le (.i 0) e, mk2 .le e f, mk2 .le f (.i 16777216)], none, .at (.vec rd.nr), [], [(rd.nr, some ⟨el, [k], false, .o .rep z e, true⟩)], [], [rd.nr]⟩ else none
      | _, _ => none
    | _, _, _ => none
  | _ => none
def symOp (pl : List TypeId) (cons : List Con) (o : Oper) (rd : Rd) : Option OpR :=
  match o.op with
  | .call c => symCall P cons rd c
  | _ => match symBase P pl o rd with
    | some r => match r.call with | none => some r | some _ => none
    | none => none
end
end Go.Proofs.YtkjgcalkkfgmlaaDoor
