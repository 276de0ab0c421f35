/-
  A symbolic run: regions, code, functions.
-/
import Derived.Test.YtkjgcalkkfgmlaaDoorSymB
import Derived.StillTail
namespace Go.Proofs.YtkjgcalkkfgmlaaDoor

def setN {α : Type} (d : α) : List α → Nat → α → List α
  | _ :: xs, 0, v => v :: xs
  | [], 0, v => [v]
  | x :: xs, n + 1, v => x :: setN d xs n v
  | [], n + 1, v => d :: setN d [] n v
def putBlks (l : List (Option Bk)) : List (Nat × Option Bk) → List (Option Bk)
  | [] => l
  | (i, v) :: r => putBlks (setN none l i v) r
def putRows (l : List (Option Rw)) : List (Nat × Option Rw) → List (Option Rw)
  | [] => l
  | (i, v) :: r => putRows (setN none l i v) r
/-- The state behind an operation. -/
def St.after (σ : St) (dst : Option Tmp) (r : OpR) : St :=
  { σ with
    nv := match r.call with | some (_, _, n) => σ.nv + n | none => σ.nv
    slots := match dst with | some d => σ.slots.set d r.val | none => σ.slots
    blks := putBlks σ.blks r.blks, rows := putRows σ.rows r.rows }
def St.under (σ : St) : Bool :=
  σ.slots.all (·.under σ.nv) && σ.blks.all (fun | some k => k.cells.all (·.under σ.nv) | none => true) && σ.rows.all (fun | some w => w.cont.under σ.nv | none => true)
def St.rd (σ : St) (ops : List Oper) (o : Oper) : Rd := rdOf σ.slot σ.blk σ.row (oTmps ops o) (oDeep ops o) σ.nv σ.blks.length σ.rows.length

/-- Is the operation run? none: not known. -/
def wantedS (ops : List Oper) (σ : St) (o : Oper) : Option Bool :=
  match o.guard with
  | none => some true
  | some (g, want) => match (ops[g]?).bind (·.dst) with
    | some t => match σ.slot t with
      | .c (.a (.bool (.b x))) => some (x == want)
      | .t [] => some false
      | _ => none
    | none => none
def skipR : OpR := OpR.pure (.t [])

/-- needs, then a call, then on. -/
def withNeeds {L : Type} : List Ex → T L → T L
  | [], k => k
  | .b true :: cs, k => withNeeds cs k
  | c :: cs, k => .need c (withNeeds cs k)
def withR {L : Type} (r : OpR) (k : T L) : T L :=
  withNeeds r.needs (match r.call with | some (f, es, n) => .call f es n k | none => k)
def isGuard (ops : List Oper) (n : Nat) : Bool := ops.any fun o => match o.guard with | some (g, _) => Nat.beq g n | none => false
/-- A test that guards is decided at once. -/
def splitG {L : Type} (g : Bool) (r : OpR) (k : OpR → T L) : T L :=
  match g, r.val with
  | true, .c (.a (.bool (.b x))) => k { r with val := .at (.bool (.b x)) }
  | true, .c (.a (.bool e)) => .ite e (k { r with val := .at (.bool (.b true)) }) (k { r with val := .at (.bool (.b false)) })
  | _, _ => k r

/-- What a loop's round turns: slots (with the element's type of a nil slice), slots that are dead at the head, cells of blocks, rows whose content is stored into. -/
structure Hint where
  key : Nat
  vars : List (Nat × Nat)
  tops : List Nat
  cells : List (Nat × Nat × Nat)
  rows : List Nat

/-- strings.Builder: its functions copyCheck and String, its type, the type of bytes. -/
structure Bd where
  cc : FuncId
  sf : FuncId
  ty : TypeId
  bt : TypeId
/-- What a run rests on: the program, contracts, the loops' hints, types that compare plainly, functions that may be run in place. -/
structure Cx where
  P : Program
  cons : List Con
  hs : List Hint
  pl : List TypeId
  ins : List FuncId
  bd : Option Bd
  mg : List FuncId

def firstReg : Code → Nat
  | .region id _ _ => id
  | .seq x y => match firstReg x with | 0 => firstReg y | n => n
  | .cond _ x y => match firstReg x with | 0 => firstReg y | n => n
  | .block _ x => firstReg x
  | .loop x => firstReg x
  | .scope x => firstReg x
  | _ => 0

/-- A loop's variable in the place of a cell: the new cell, the values at the start, the rows that it turns. -/
def tmOf (P : Program) (rows : List (Option Rw)) (nv nr : Nat) (el : Nat) : At → Option (At × List Ex × List (Nat × Option Rw))
  | .int k e => some (.int k (.v nv), [e], [])
  | .bool e => some (.bool (.v nv), [e], [])
  | .str e => some (.str (.v nv), [e], [])
  | .vec r => match rows.getD r none with
    | some w => if w.own then some (.vec nr, [w.cont], [(r, none), (nr, some { w with cont := .v nv })]) else if okFormB w.agg w.ks then some (.sl r w.ks.length (.v nv) (.v (nv + 1)), [.i 0, mk1 .len w.cont], []) else none
    | none => none
  | .sl r es lo len => some (.sl r es (.v nv) (.v (nv + 1)), [lo, len], [])
  | .nils => match rowTy P el with
    | some (agg, ks) => some (.vec nr, [.nil], [(nr, some ⟨el, ks, agg, .v nv, true⟩)])
    | none => none
  | _ => none
/-- Behind a round: the values for the next one (from variable m on), and the row that takes the place of a loop's row. nr: the first row of the loop's own. -/
def tmBack (rows rows' : List (Option Rw)) (nr m : Nat) (tm : At) : At → Option (List Ex × List (Nat × Nat))
  | .int k e => match tm with | .int k' (.v j) => if k = k' ∧ j = m then some ([e], []) else none | _ => none
  | .bool e => match tm with | .bool (.v j) => if j = m then some ([e], []) else none | _ => none
  | .str e => match tm with | .str (.v j) => if j = m then some ([e], []) else none | _ => none
  | .vec r => match rows'.getD r none with
    | some w => match tm with
      | .vec q => match rows.getD q none with
        | some w0 => if w.own = true ∧ w0.own = true ∧ w.el = w0.el ∧ w.ks = w0.ks ∧ w.agg = w0.agg ∧ w0.cont.same (.v m) = true ∧ nr ≤ q then some ([w.cont], [(q, r)]) else none
        | none => none
      | .sl q es (.v j) (.v j') => if q = r ∧ es = w.ks.length ∧ okFormB w.agg w.ks = true ∧ j = m ∧ j' = m + 1 ∧ q < nr then some ([.i 0, mk1 .len w.cont], []) else none
      | _ => none
    | none => none
  | .sl r es lo len => match tm with | .sl q es' (.v j) (.v j') => if q = r ∧ es = es' ∧ j = m ∧ j' = m + 1 ∧ q < nr then some ([lo, len], []) else none | _ => none
  | _ => none

def St.setCell (σ : St) (p off : Nat) (x : At) : St :=
  match σ.blk p with
  | some k => { σ with blks := σ.blks.set p (some { k with cells := k.cells.set off x }) }
  | none => σ
def St.cellAt (σ : St) (p off : Nat) : Option At := (σ.blk p).bind (·.cells[off]?)
def tmVars (P : Program) : List (Nat × Nat) → St → Option (St × List Ex)
  | [], σ => some (σ, [])
  | (t, el) :: r, σ => match (σ.slot t).at? with
    | some x => match tmOf P σ.rows σ.nv σ.rows.length el x with
      | some (x', es, rs) => match tmVars P r { σ with nv := σ.nv + es.length, slots := σ.slots.set t (.at x'), rows := putRows σ.rows rs } with
        | some (σ', es') => some (σ', es ++ es')
        | none => none
      | none => none
    | none => none
def tmCells (P : Program) : List (Nat × Nat × Nat) → St → Option (St × List Ex)
  | [], σ => some (σ, [])
  | (p, off, el) :: r, σ => match σ.cellAt p off with
    | some x => match tmOf P σ.rows σ.nv σ.rows.length el x with
      | some (x', es, rs) => match tmCells P r ({ σ with nv := σ.nv + es.length, rows := putRows σ.rows rs }.setCell p off x') with
        | some (σ', es') => some (σ', es ++ es')
        | none => none
      | none => none
    | none => none
def tmRows : List Nat → St → Option (St × List Ex)
  | [], σ => some (σ, [])
  | r :: rs, σ => match σ.row r with
    | some w => if w.own then match tmRows rs { σ with nv := σ.nv + 1, rows := σ.rows.set r (some { w with cont := .v σ.nv }) } with
        | some (σ', es') => some (σ', w.cont :: es')
        | none => none
      else none
    | none => none
def tmTops : List Nat → St → St
  | [], σ => σ
  | t :: r, σ => tmTops r { σ with slots := σ.slots.set t .top }
def template (P : Program) (h : Hint) (σ : St) : Option (St × List Ex) :=
  match tmVars P h.vars (tmTops h.tops σ) with
  | some (σ1, e1) => match tmCells P h.cells σ1 with
    | some (σ2, e2) => match tmRows h.rows σ2 with
      | some (σ3, e3) => some ({ σ3 with lv := σ.lv + 1 }, e1 ++ e2 ++ e3)
      | none => none
    | none => none
  | none => none
def bkVars (tm σ : St) (nr : Nat) : Nat → List (Nat × Nat) → Option (List Ex × List (Nat × Nat))
  | _, [] => some ([], [])
  | m, (t, _) :: r => match (tm.slot t).at?, (σ.slot t).at? with
    | some x, some y => match tmBack tm.rows σ.rows nr m x y with
      | some (e, q) => match bkVars tm σ nr (m + e.length) r with
        | some (es, qs) => some (e ++ es, q ++ qs)
        | none => none
      | none => none
    | _, _ => none
def bkCells (tm σ : St) (nr : Nat) : Nat → List (Nat × Nat × Nat) → Option (List Ex × List (Nat × Nat))
  | _, [] => some ([], [])
  | m, (p, off, _) :: r => match tm.cellAt p off, σ.cellAt p off with
    | some x, some y => match tmBack tm.rows σ.rows nr m x y with
      | some (e, q) => match bkCells tm σ nr (m + e.length) r with
        | some (es, qs) => some (e ++ es, q ++ qs)
        | none => none
      | none => none
    | _, _ => none
def bkRows (tm σ : St) : Nat → List Nat → Option (List Ex)
  | _, [] => some []
  | m, r :: rr => match tm.row r, σ.row r with
    | some w0, some w => if w.own = true ∧ w0.own = true ∧ w.el = w0.el ∧ w.ks = w0.ks ∧ w.agg = w0.agg ∧ w0.cont.same (.v m) = true then match bkRows tm σ (m + 1) rr with
        | some es => some (w.cont :: es)
        | none => none
      else none
    | _, _ => none
def distinctN : List Nat → Bool
  | [] => true
  | x :: xs => !hasN xs x && distinctN xs
def isCell (cells : List (Nat × Nat × Nat)) (p n : Nat) : Bool := cells.any fun x => Nat.beq x.1 p && Nat.beq x.2.1 n
/-- A cell that the loop doesn't turn. -/
def keptAt (nv nb nr : Nat) (x y : At) : Bool := x.le y && x.under nv && (match x.rid with | some r => Nat.blt r nr | none => true) && (match x.bid with | some p => Nat.blt p nb | none => true) && (match x with | .fn _ cs => cs.all (Nat.blt · nb) | _ => true)
def keptSV (nv nb nr : Nat) (x y : SV) : Bool := x.le y && x.under nv && x.atoms.all fun x => (match x.rid with | some r => Nat.blt r nr | none => true) && (match x.bid with | some p => Nat.blt p nb | none => true) && (match x with | .fn _ cs => cs.all (Nat.blt · nb) | _ => true)
def keepCells (cells : List (Nat × Nat × Nat)) (nv nb nr p : Nat) : Nat → List At → List At → Bool
  | _, [], [] => true
  | n, x :: xs, y :: ys => (isCell cells p n || keptAt nv nb nr x y) && keepCells cells nv nb nr p (n + 1) xs ys
  | _, _, _ => false
def keepSlots (h : Hint) (nv nb nr : Nat) : Nat → List SV → List SV → Bool
  | _, [], [] => true
  | t, x :: xs, y :: ys => ((h.vars.any fun v => Nat.beq v.1 t) || keptSV nv nb nr x y) && keepSlots h nv nb nr (t + 1) xs ys
  | _, _, _ => false
def keepBlks (h : Hint) (nv nb nr : Nat) (σ : St) : Nat → List (Option Bk) → Bool
  | _, [] => true
  | p, none :: xs => keepBlks h nv nb nr σ (p + 1) xs
  | p, some k :: xs => (match σ.blk p with | some k' => Nat.beq k.ty k'.ty && keepCells h.cells nv nb nr p 0 k.cells k'.cells | none => false) && keepBlks h nv nb nr σ (p + 1) xs
def keepRows (h : Hint) (nv nr : Nat) (σ : St) (news : List (Nat × Nat)) : Nat → List (Option Rw) → Bool
  | _, [] => true
  | r, none :: xs => keepRows h nv nr σ news (r + 1) xs
  | r, some w :: xs => (if r < nr then hasN h.rows r || (match σ.row r with | some w' => w.same w' && w.cont.under nv | none => false) else news.any fun x => Nat.beq x.1 r) && keepRows h nv nr σ news (r + 1) xs
def ownRows (nr : Nat) : Nat → List (Option Rw) → List Nat
  | _, [] => []
  | r, w :: xs => (match w with | some w => if w.own = true ∧ r < nr then [r] else [] | none => []) ++ ownRows nr (r + 1) xs
/-- What the loop doesn't turn is as at the head. -/
def keeps (h : Hint) (nv nr : Nat) (tm σ : St) (news : List (Nat × Nat)) : Bool :=
  keepSlots h nv tm.blks.length nr 0 tm.slots σ.slots && keepBlks h nv tm.blks.length nr σ 0 tm.blks && keepRows h nv nr σ news 0 tm.rows &&
  distinctN (news.map (·.1)) && distinctN (news.map (·.2) ++ ownRows nr 0 tm.rows)
def back (h : Hint) (nv nr : Nat) (tm σ : St) : Option (List Ex) :=
  match bkVars tm σ nr nv h.vars with
  | some (e1, r1) => match bkCells tm σ nr (nv + e1.length) h.cells with
    | some (e2, r2) => match bkRows tm σ (nv + (e1.length + e2.length)) h.rows with
      | some e3 => if keeps h nv nr tm σ (r1 ++ r2) && Nat.beq (nv + (e1 ++ e2 ++ e3).length) tm.nv && Nat.ble nr tm.rows.length then some (e1 ++ e2 ++ e3) else none
      | none => none
    | none => none
  | none => none

section
variable (X : Cx)

/-- What is run in place of a callee without a contract. -/
abbrev Inl := Nat → List SV → St → T (SV × St)

/-- Is it a call that is run in place? -/
def inlOf (rd : Rd) (o : Oper) : Option (Nat × List SV) :=
  match o.op with
  | .call c => match c.callee with
    | .value f => match rd.ev f with
      | .c (.a (.fn g caps)) =>
        if caps.isEmpty && X.cons.any (fun x => Nat.beq x.f g) then none
        else if !hasN X.ins g then none else some (g, c.args.toList.map rd.ev ++ caps.map fun b => .at (.ptr b 0))
      | _ => none
    | _ => none
  | _ => none

/-- The new blocks and rows stand among what is written, behind those that are there. -/
def goodR (rd : Rd) (r : OpR) : Bool :=
  (r.nb.all fun i => Nat.beq i rd.nb && r.blks.any fun x => Nat.beq x.1 i) && (r.nr.all fun i => Nat.ble rd.nr i && r.rows.any fun x => Nat.beq x.1 i)
def callOk (σ : St) (r : OpR) : Bool :=
  match r.call with
  | some (_, es, _) => σ.under && es.all (·.under σ.nv)
  | none => true
def stepR (ops : List Oper) (σ : St) (o : Oper) : Option OpR :=
  match symOp X.P X.pl X.cons o (σ.rd ops o) with
  | some r => if goodR (σ.rd ops o) r && callOk σ r then some r else none
  | none => none
/-- Operations in sequence. -/
def seqOps (inl : Inl) (ops : List Oper) : List Oper → Nat → St → T St
  | [], _, σ => .leaf σ
  | o :: rest, n, σ =>
    match wantedS ops σ o with
    | none => .fail "guard"
    | some false => seqOps inl ops rest (n + 1) (σ.after o.dst skipR)
    | some true =>
      let rd := σ.rd ops o
      match inlOf X rd o with
      | some (g, as) => if σ.under then (inl g as σ).bind fun (v, σ') => splitG (isGuard ops n) (OpR.pure v) fun r => seqOps inl ops rest (n + 1) ({ σ' with slots := σ.slots }.after o.dst r) else .fail "under"
      | none => match stepR X ops σ o with
        | none => .fail "op"
        | some r => withR r (splitG (isGuard ops n) r fun r => seqOps inl ops rest (n + 1) (σ.after o.dst r))

/-- The places that an operation reads and writes, as bits. -/
def bitL (l : List Nat) (m k : Nat) : Nat := l.foldl (fun acc t => Nat.lor acc (Nat.shiftLeft 1 (m * t + k))) 0
structure Item where
  dst : Option Tmp
  r : OpR
  rd : Nat
  wr : Nat
  pre : Nat
def preOf (items : List Item) (o : Oper) : Nat :=
  o.after.toList.foldl (fun acc e => if Region.binds .any e then Nat.lor acc (Nat.lor (Nat.shiftLeft 1 e.on) (match items[e.on]? with | some x => x.pre | none => 0)) else acc) 0
def rdBits (σ : St) (ts ds : List Tmp) : Nat :=
  Nat.lor (bitL ts 3 0) (Nat.lor (bitL (ds.flatMap fun t => (σ.slot t).bids) 3 1) (bitL (ds.flatMap fun t => (σ.slot t).rids) 3 2))
def wrBits (dst : Option Tmp) (r : OpR) : Nat :=
  Nat.lor (bitL dst.toList 3 0) (Nat.lor (bitL (r.blks.map (·.1)) 3 1) (bitL (r.rows.map (·.1)) 3 2))
/-- An operation's item, if it fits those before it: what it has in common with one of them is ordered. -/
def fitsI (items : List Item) (x : Item) : Bool :=
  items.zipIdx.all fun (y, j) => (y.r.nb.all fun p => !hasN x.r.nb p) && (y.r.nr.all fun p => !hasN x.r.nr p) && (Nat.testBit x.pre j || (Nat.beq (Nat.land y.wr (Nat.lor x.rd x.wr)) 0 && Nat.beq (Nat.land y.rd x.wr) 0))
def edgesI (n : Nat) (o : Oper) : Bool := o.after.toList.all fun e => !Region.binds .any e || Nat.blt e.on n
def planU (σ : St) (o : Oper) (r : OpR) : Bool := r.needs.all (·.under σ.nv) && r.val.under (σ.after o.dst r).nv
/-- A region that draws its order: planned in the text's order. -/
def planOps (ops : List Oper) : List Oper → Nat → St → List Item → T (St × List Item)
  | [], _, σ, items => .leaf (σ, items)
  | o :: rest, n, σ, items =>
    if !edgesI n o then .fail "edges" else
    let go (r : OpR) : T (St × List Item) :=
      let it : Item := ⟨o.dst, r, rdBits σ (oTmps ops o) (oDeep ops o), wrBits o.dst r, preOf items o⟩
      if fitsI items it then planOps ops rest (n + 1) (σ.after o.dst r) (items ++ [it]) else .fail "order"
    match wantedS ops σ o with
    | none => .fail "guard"
    | some false => go skipR
    | some true =>
      match stepR X ops σ o with
      | none => .fail "op"
      | some r => if planU σ o r then withR r (splitG (isGuard ops n) r go) else .fail "under"

/-- A call of a value that is reckoned, or one that is run in place. -/
def isDyn (o : Oper) : Bool := match o.op with | .call c => (match c.callee with | .value (.tmp _) => true | .value (.func g) => hasN X.ins g | _ => false) | _ => false
def dynAt : List Oper → Nat
  | [] => 0
  | o :: r => cond (isDyn X o) 0 (dynAt r + 1)
def headDone (m n : Nat) : Array Bool := (List.replicate m true ++ List.replicate (n - m) false).toArray
/-- From operation m on, the region runs in sequence. -/
def tailB (ops : List Oper) (m : Nat) : Bool :=
  Nat.blt m ops.length && Region.sinkB .any ops.toArray m && Region.chainB .any ops.toArray m && Region.seqB .any ops.toArray (ops.length - m) m (headDone m ops.length)

/-- Two ways become one, where they part in values alone: the test goes into the values. -/
def mergeSV (e : Ex) (x y : SV) : SV :=
  cond (x.le y) x (cond (y.le x) y (match x, y with
    | .c (.a (.bool p)), .c (.a (.bool q)) => .at (.bool (.t .ite e p q))
    | .c (.a (.int k p)), .c (.a (.int k' q)) => if k = k' then .at (.int k (.t .ite e p q)) else .top
    | _, _ => .top))
def mergeL (e : Ex) : List SV → List SV → Option (List SV)
  | [], [] => some []
  | x :: xs, y :: ys => match mergeL e xs ys with | some r => some (mergeSV e x y :: r) | none => none
  | _, _ => none
def sameAts : List At → List At → Bool
  | [], [] => true
  | x :: xs, y :: ys => x.same y && sameAts xs ys
  | _, _ => false
def sameBlks : List (Option Bk) → List (Option Bk) → Bool
  | [], [] => true
  | none :: xs, none :: ys => sameBlks xs ys
  | some a :: xs, some b :: ys => Nat.beq a.ty b.ty && sameAts a.cells b.cells && sameBlks xs ys
  | _, _ => false
def sameRows : List (Option Rw) → List (Option Rw) → Bool
  | [], [] => true
  | none :: xs, none :: ys => sameRows xs ys
  | some a :: xs, some b :: ys => a.same b && sameRows xs ys
  | _, _ => false
def mergeSt (e : Ex) (a b : St) : Option St :=
  if Nat.beq a.nv b.nv && Nat.beq a.lv b.lv && sameBlks a.blks b.blks && sameRows a.rows b.rows then
    match mergeL e a.slots b.slots with | some s => some { a with slots := s } | none => none
  else none
def T.mrg : T St → Option St
  | .leaf σ => some σ
  | .ite c p q => match p.mrg, q.mrg with | some a, some b => mergeSt c a b | _, _ => none
  | _ => none
def mergeT (t : T St) : T St := match t.mrg with | some σ => .leaf σ | none => t

inductive Xt where | norm | exit (id : Nat) | ret
  deriving DecidableEq

def exec (inl : Inl) (fk : Nat) : Code → St → T (Xt × St)
  | .skip, σ => .leaf (.norm, σ)
  | .region _ ops draw, σ =>
    cond draw (cond (tailB ops.toList (dynAt X ops.toList))
      (if σ.under then (planOps X ops.toList (ops.toList.take (dynAt X ops.toList)) 0 σ []).bind fun x => (seqOps X inl ops.toList (ops.toList.drop (dynAt X ops.toList)) (dynAt X ops.toList) x.1).bind fun σ' => .leaf (.norm, σ') else .fail "under")
      (if σ.under then (planOps X ops.toList ops.toList 0 σ []).bind fun (σ', _) => .leaf (.norm, σ') else .fail "under")) ((cond (hasN X.mg fk) (mergeT (seqOps X inl ops.toList ops.toList 0 σ)) (seqOps X inl ops.toList ops.toList 0 σ)).bind fun σ' => .leaf (.norm, σ'))
  | .seq x y, σ => (exec inl fk x σ).bind fun (e, σ') => match e with
    | .norm => exec inl fk y σ'
    | e => .leaf (e, σ')
  | .cond c x y, σ => match evS σ.slot c with
    | .c (.a (.bool (.b true))) => exec inl fk x σ
    | .c (.a (.bool (.b false))) => exec inl fk y σ
    | .c (.a (.bool e)) => .ite e (exec inl fk x σ) (exec inl fk y σ)
    | _ => .fail "cond"
  | .block id x, σ => (exec inl fk x σ).bind fun (e, σ') => match e with
    | .exit n => .leaf (cond (Nat.beq n id) .norm (.exit n), σ')
    | e => .leaf (e, σ')
  | .exit id, σ => .leaf (.exit id, σ)
  | .ret, σ => .leaf (.ret, σ)
  | .loop x, σ => match X.hs.find? fun h => Nat.beq h.key (fk * 100000 + firstReg x) with
    | none => (exec inl fk x σ).bind fun (e, σ') => match e with
      | .norm => .fail "loop"
      | e => .leaf (e, σ')
    | some h => match template X.P h σ with
      | some (tm, ini) =>
        if σ.under && ini.all (·.under σ.nv) && Nat.beq tm.nv (σ.nv + ini.length) then .loop ini ((exec inl fk x tm).bind fun (e, σ') => match e with
          | .norm => match back h σ.nv σ.rows.length tm σ' with
            | some vals => .next σ.lv vals
            | none => .fail "back"
          | e => .leaf (e, σ'))
        else .fail "under"
      | none => .fail "template"
  | _, _ => .fail "code"

def resAt (P : Program) (σ : St) : ResultVar → Option SC
  | .tmp t => (σ.slot t).sc
  | .cell t ty => match σ.slot t with
    | .c (.a (.ptr p off)) => match σ.blk p with
      | some k => (part? P ty k.cells off).bind SV.sc
      | none => none
    | _ => none
def resAts (P : Program) (σ : St) : List ResultVar → Option (List SC)
  | [] => some []
  | r :: rs => match resAt P σ r, resAts P σ rs with
    | some x, some xs => some (x :: xs)
    | _, _ => none
def resOf (P : Program) (σ : St) (l : List ResultVar) : Option SV :=
  match resAts P σ l with
  | some [x] => some (.c x)
  | some xs => some (.t xs)
  | none => none
def selfB (p : Nat) : At → Bool | .nilp => true | .ptr q 0 => Nat.beq q p | _ => false
/-- The two functions of strings.Builder that are taken as they are. -/
def specF (bd : Option Bd) (f : Nat) (as : List SV) (σ : St) : Option (T (SV × St)) :=
  match bd with
  | none => none
  | some b =>
    match as with
    | [.c (.a (.ptr p 0))] => match σ.blk p with
      | some k => if Nat.beq k.ty b.ty then
          match k.cells with
          | [x, y] =>
            if Nat.beq f b.cc then
              (if selfB p x then some (.leaf (.t [], { σ with blks := setN none σ.blks p (some ⟨[.ptr p 0, y], k.ty⟩) })) else none)
            else if Nat.beq f b.sf then
              (match y with
              | .vec r => match σ.row r with
                | some w => if w.own && srcFits b.bt [.int .u8] false (some (r, w)) then
                    some (.need (mk1 .isb w.cont) (.leaf (.at (.str (mk1 .ofb w.cont)), { σ with rows := setN none σ.rows r none })))
                  else none
                | none => none
              | _ => none)
            else none
          | _ => none
        else none
      | none => none
    | _ => none
def runF : Nat → Inl
  | 0, _, _, _ => .fail "depth"
  | d + 1, f, as, σ => match specF X.bd f as σ with
    | some t => t
    | none => match X.P.funcs[f]? with
    | some fn => match fn.body with
      | some c => (exec X (runF d) f c { σ with slots := as ++ List.replicate (fn.ntmps - as.length) (.t []) }).bind fun (e, σ') => match e with
        | .exit _ => .fail "exit"
        | _ => match resOf X.P σ' fn.results.toList with
          | some v => .leaf (v, σ')
          | none => .fail "results"
      | none => .fail "no body"
    | none => .fail "no function"

/-- The results of a contract, as expressions. -/
def outR (σ : St) : RS → SV → Option (List Ex)
  | .c s, v => (argC σ.row s v).map (·.1)
  | .t ss, .t xs => (argsC σ.row ss (xs.map .c)).map (·.1)
  | _, _ => none
/-- The tree of a function with a contract: its parameters stand for variables; its leaves are the results. -/
def tree (d : Nat) (con : Con) : T (List Ex) :=
  match resCs 0 0 con.args with
  | (xs, rs, nv, _) => (runF X d con.f (xs.map .c) ⟨nv, 0, [], [], putRows [] rs⟩).bind fun (v, σ) => match outR σ con.res v with
    | some es => .leaf es
    | none => .fail "out"
end
end Go.Proofs.YtkjgcalkkfgmlaaDoor
