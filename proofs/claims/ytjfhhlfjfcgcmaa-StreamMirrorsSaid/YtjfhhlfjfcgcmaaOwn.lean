import Derived.Test.YtjfhhlfjfcgcmaaBase
namespace Go.Proofs.Ytjfhhlfjfcgcmaa
open Go.ChangeShapes Go.WideShapes Go.ChangeAt Go.RowKit

/-- A block of the call's own: its number, its cells, its type. -/
structure Blk where
  n : Nat
  cs : List Value
  t : TypeId

/-- A row of cells that is read alone: block n, from place off on. -/
structure Rw where
  n : Nat
  off : Nat
  vs : List Value
/-- The row lies in the world. -/
def Rd (w : World) (r : Rw) : Prop := r.n < w.heap.size ∧ ∀ j v, r.vs[j]? = some v → w.cell? ⟨r.n, r.off + j, none⟩ = some v
theorem Rd.below {w w' : World} {r : Rw} (h : Rd w r) (hb : Below w.heap.size w w') : Rd w' r :=
  ⟨Nat.lt_of_lt_of_le h.1 hb.size, fun j v hj => by rw [hb.cell (p := ⟨r.n, r.off + j, none⟩) h.1]; exact h.2 j v hj⟩

/-- The world w: below B it is as w0; the blocks of L lie in it, all from B on, all different; the rows of R lie in it, in none of these blocks. -/
structure St (B : Nat) (w0 : World) (L : List Blk) (R : List Rw) (w : World) : Prop where
  below : Below B w0 w
  hB : B ≤ w.heap.size
  own : ∀ x ∈ L, w.heap[x.n]? = some (.cells x.cs.toArray x.t (0, 0))
  lo : ∀ x ∈ L, B ≤ x.n
  diff : L.Pairwise (fun x y => x.n ≠ y.n)
  rows : ∀ r ∈ R, Rd w r
  apart : ∀ r ∈ R, ∀ x ∈ L, x.n ≠ r.n

class TyI (P : Program) (ty : TypeId) (agg : outParam Bool) (n : outParam Nat) : Prop where
  agg : ∀ w, (isAgg ty).run P w = .ok agg w
  size : ∀ w, (sizeOf ty).run P w = .ok n w
class TyZ (P : Program) (ty : TypeId) (z : outParam (List Value)) : Prop where
  zero : ∀ w, ∃ v, (zeroValue ty).run P w = .ok v w ∧ v.cells = z.toArray

class FldI (P : Program) (ty : TypeId) (i : Nat) (off : outParam Nat) (fty : outParam TypeId) : Prop where
  fld : ∃ fs f, P.underlying ty = some (.struct fs) ∧ fs[i]? = some f ∧ f.offset = off ∧ f.type = fty

/-- Block b stands in L, with these cells. -/
class Has (b : Nat) (L : List Blk) (cs : outParam (List Value)) (t : outParam TypeId) : Prop where
  mem : ⟨b, cs, t⟩ ∈ L
instance (b : Nat) (cs : List Value) (t : TypeId) (L : List Blk) : Has b (⟨b, cs, t⟩ :: L) cs t := ⟨by simp⟩
instance (b : Nat) (cs : List Value) (t : TypeId) (x : Blk) (L : List Blk) [h : Has b L cs t] : Has b (x :: L) cs t := ⟨List.mem_cons_of_mem _ h.mem⟩
/-- L with block b's cells turned. -/
class Puts (b : Nat) (L : List Blk) (cs : outParam (List Value)) (t : outParam TypeId) (f : outParam (List Value → List Blk)) : Prop where
  mem : ⟨b, cs, t⟩ ∈ L
  nums : ∀ c, (f c).map Blk.n = L.map Blk.n
  inn : ∀ c, ∀ x ∈ f c, x ∈ L ∨ x = ⟨b, c, t⟩
  old : ∀ c, ∀ x ∈ f c, x.n = b → L.Pairwise (fun x y => x.n ≠ y.n) → x = ⟨b, c, t⟩
instance (b : Nat) (cs : List Value) (t : TypeId) (L : List Blk) : Puts b (⟨b, cs, t⟩ :: L) cs t (fun c => ⟨b, c, t⟩ :: L) where
  mem := by simp
  nums := by simp
  inn := by intro c x hx; simp at hx ⊢; rcases hx with h | h <;> simp [h]
  old := by
    intro c x hx hn hp
    simp at hx
    rcases hx with h | h
    · exact h
    · have := (List.pairwise_cons.1 hp).1 x h
      exact absurd hn.symm this
instance (b : Nat) (cs : List Value) (t : TypeId) (y : Blk) (L : List Blk) (f : List Value → List Blk) [h : Puts b L cs t f] : Puts b (y :: L) cs t (fun c => y :: f c) where
  mem := List.mem_cons_of_mem _ h.mem
  nums := by intro c; simp [h.nums c]
  inn := by
    intro c x hx
    simp at hx
    rcases hx with e | e
    · simp [e]
    · rcases h.inn c x e with k | k
      · left; exact List.mem_cons_of_mem _ k
      · right; exact k
  old := by
    intro c x hx hn hp
    have hp' := List.pairwise_cons.1 hp
    simp at hx
    rcases hx with e | e
    · subst e
      exact absurd hn (hp'.1 _ h.mem)
    · exact h.old c x e hn hp'.2

/-- n elements from place off on, if there are so many. -/
def subL : List Value → Nat → Nat → Option (List Value)
  | _, 0, 0 => some []
  | [], _, _ => none
  | x :: l, 0, n + 1 => match subL l 0 n with
    | some r => some (x :: r)
    | none => none
  | _ :: l, k + 1, n => subL l k n
def nthL : List Value → Nat → Option Value
  | [], _ => none
  | x :: _, 0 => some x
  | _ :: l, k + 1 => nthL l k
/-- l with vs written from place off on. -/
def putL : List Value → Nat → List Value → Option (List Value)
  | l, 0, [] => some l
  | [], _, _ => none
  | _ :: l, 0, v :: vs => match putL l 0 vs with
    | some r => some (v :: r)
    | none => none
  | x :: l, k + 1, vs => match putL l k vs with
    | some r => some (x :: r)
    | none => none

theorem nthL_eq : ∀ (l : List Value) (k : Nat), nthL l k = l[k]?
  | [], _ => by simp [nthL]
  | x :: l, 0 => by simp [nthL]
  | x :: l, k + 1 => by simp [nthL, nthL_eq l k]
theorem subL_spec : ∀ (l : List Value) (k n : Nat) (vs : List Value), subL l k n = some vs → (l.drop k).take n = vs ∧ vs.length = n
  | l, 0, 0, vs, h => by simp [subL] at h; subst h; simp
  | [], 0, n + 1, vs, h => by simp [subL] at h
  | [], k + 1, n, vs, h => by simp [subL] at h
  | x :: l, 0, n + 1, vs, h => by
    unfold subL at h
    split at h
    · rename_i r hr
      obtain ⟨h1, h2⟩ := subL_spec l 0 n r hr
      simp at h; subst h
      simp at h1 ⊢; exact ⟨h1, h2⟩
    · cases h
  | x :: l, k + 1, n, vs, h => by
    unfold subL at h
    simpa using subL_spec l k n vs h
theorem putL_spec : ∀ (l : List Value) (k : Nat) (vs r : List Value), putL l k vs = some r → l.take k ++ vs ++ l.drop (k + vs.length) = r ∧ k + vs.length ≤ l.length
  | l, 0, [], r, h => by simp [putL] at h; subst h; simp
  | [], 0, v :: vs, r, h => by simp [putL] at h
  | [], k + 1, vs, r, h => by simp [putL] at h
  | x :: l, 0, v :: vs, r, h => by
    unfold putL at h
    split at h
    · rename_i r' hr
      obtain ⟨h1, h2⟩ := putL_spec l 0 vs r' hr
      simp at h; subst h
      simp at h1 h2 ⊢; exact ⟨h1, by omega⟩
    · cases h
  | x :: l, k + 1, vs, r, h => by
    unfold putL at h
    split at h
    · rename_i r' hr
      obtain ⟨h1, h2⟩ := putL_spec l k vs r' hr
      simp at h; subst h
      refine ⟨?_, by simp; omega⟩
      rw [show k + 1 + vs.length = (k + vs.length) + 1 by omega]
      simpa using h1
    · cases h

section
variable {P : Program} {B : Nat} {w0 w : World} {L : List Blk} {R : List Rw} {b : Nat} {cs : List Value} {t : TypeId}

theorem St.start (w : World) : St w.heap.size w [] [] w := ⟨Below.refl _ _, Nat.le_refl _, by simp, by simp, by simp, by simp, by simp⟩
theorem St.startR (w : World) (R : List Rw) (h : ∀ r ∈ R, Rd w r) : St w.heap.size w [] R w := ⟨Below.refl _ _, Nat.le_refl _, by simp, by simp, by simp, h, by simp⟩

theorem St.cell (h : St B w0 L R w) [hb : Has b L cs t] (j : Nat) (v : Value) (hv : cs[j]? = some v) : w.cell? ⟨b, j, none⟩ = some v := by
  have := h.own _ hb.mem
  simp [World.cell?, this, hv]

theorem St.lt (h : St B w0 L R w) {x : Blk} (hx : x ∈ L) : x.n < w.heap.size := by
  have := h.own _ hx
  rcases Nat.lt_or_ge x.n w.heap.size with k | k
  · exact k
  · simp [Array.getElem?_eq_none k] at this

/-- A callee that leaves all that was there as it was. -/
theorem St.call (h : St B w0 L R w) {w' : World} (hb : Below w.heap.size w w') : St B w0 L R w' where
  below := h.below.trans (hb.mono h.hB)
  hB := Nat.le_trans h.hB hb.size
  own := fun x hx => by rw [hb.block _ (h.lt hx)]; exact h.own x hx
  lo := h.lo
  diff := h.diff
  rows := fun r hr => (h.rows r hr).below hb
  apart := h.apart

theorem St.drew (h : St B w0 L R w) : St B w0 L R { w with drawn := w.drawn + 1 } := h.call (Below.refl w.heap.size w).drew

theorem St.alloc (h : St B w0 L R w) (cs : List Value) (t : TypeId) : St B w0 (⟨w.heap.size, cs, t⟩ :: L) R (w.alloc (.cells cs.toArray t)) where
  below := h.below.alloc h.hB _
  hB := by have := h.hB; show B ≤ (w.heap.push _).size; simp; omega
  own := by
    intro x hx
    simp only [List.mem_cons] at hx
    rcases hx with e | e
    · subst e; show (w.heap.push _)[w.heap.size]? = _; simp
    · have := h.lt e
      rw [Below.heap_alloc _ _ _ this]; exact h.own x e
  lo := by
    intro x hx
    simp only [List.mem_cons] at hx
    rcases hx with e | e
    · subst e; exact h.hB
    · exact h.lo x e
  diff := List.pairwise_cons.2 ⟨fun x hx e => by have := h.lt hx; simp at e; omega, h.diff⟩
  rows := fun r hr => (h.rows r hr).below ((Below.refl _ _).alloc (Nat.le_refl _) _)
  apart := by
    intro r hr x hx
    simp only [List.mem_cons] at hx
    rcases hx with e | e
    · subst e; have := (h.rows r hr).1; simp; omega
    · exact h.apart r hr x e

theorem St.put (h : St B w0 L R w) {f : List Value → List Blk} [hp : Puts b L cs t f] (cs' : List Value) : St B w0 (f cs') R (w.setRow b cs'.toArray) := by
  have hb := h.own _ hp.mem
  have hB := h.lo _ hp.mem
  have hn : ∀ k, k ≠ b → (w.setRow b cs'.toArray).heap[k]? = w.heap[k]? := fun k hk => by
    simp only [World.setRow, Array.getElem?_modify]; rw [if_neg (by omega)]
  refine ⟨h.below.trans ⟨rfl, rfl, rfl, by simp [World.setRow], fun k hk => hn k (by simp at hB; omega)⟩, by simpa [World.setRow] using h.hB, ?_, ?_, ?_, ?_, ?_⟩
  · intro x hx
    by_cases e : x.n = b
    · obtain rfl := hp.old cs' x hx e h.diff
      exact setRow_heap w b cs.toArray _ t _ hb
    · rw [hn _ e]
      rcases hp.inn cs' x hx with k | k
      · exact h.own x k
      · subst k; exact absurd rfl e
  · intro x hx
    rcases hp.inn cs' x hx with k | k
    · exact h.lo x k
    · subst k; exact hB
  · have := h.diff
    rw [← List.pairwise_map (f := Blk.n) (R := fun x y => x ≠ y)] at this ⊢
    rw [hp.nums]; exact this
  · intro r hr
    obtain ⟨r1, r2⟩ := h.rows r hr
    have hne : r.n ≠ b := fun e => h.apart r hr _ hp.mem e.symm
    refine ⟨by simpa [World.setRow] using r1, fun j v hj => ?_⟩
    rw [← r2 j v hj]
    simp only [World.cell?, hn _ hne]
  · intro r hr x hx
    rcases hp.inn cs' x hx with k | k
    · exact h.apart r hr x k
    · have hq := h.apart r hr _ hp.mem
      subst k; exact hq

theorem St.run_load (h : St B w0 L R w) [hb : Has b L cs t] {ty : TypeId} {n off : Nat} [ht : TyI P ty true n] {vs : List Value} (hv : (cs.drop off).take n = vs) (hl : vs.length = n) : (Go.loadVar ty ⟨b, off, none⟩).run P w = .ok (.agg vs.toArray) w := by
  have hown := h.own _ hb.mem
  have e := run_loadCells_list (P := P) (w := w) ⟨b, off, none⟩ vs (fun j v hj => by
    have hadd : (⟨b, off, none⟩ : Addr).add j = ⟨b, off + j, none⟩ := by unfold Addr.add; split <;> simp_all
    have hjn : j < n := by rw [← hl]; exact (List.getElem?_eq_some_iff.1 hj).1
    have : cs[off + j]? = some v := by
      rw [← hv, List.getElem?_take, if_pos hjn, List.getElem?_drop] at hj; exact hj
    rw [hadd]; simp [World.cell?, hown, this])
  rw [hl] at e
  simp [Go.loadVar, ht.agg, ht.size, e]

theorem St.run_load1 (h : St B w0 L R w) [hb : Has b L cs t] {ty : TypeId} {n off : Nat} [ht : TyI P ty false n] {v : Value} (hv : cs[off]? = some v) : (Go.loadVar ty ⟨b, off, none⟩).run P w = .ok v w := by
  have hown := h.own _ hb.mem
  have hc : w.cell? ⟨b, off, none⟩ = some v := by simp [World.cell?, hown, hv]
  simp [Go.loadVar, ht.agg, load, Sem.run, hc]

theorem vals_ok {vs : List Value} (h : vs.all (·.oneCell') = true) : ∀ v ∈ vs, v.oneCell' = true := by simpa using h

theorem splice_ok (cs vs : List Value) (off : Nat) : (cs.toArray.toList.take (off + 0) ++ vs ++ cs.toArray.toList.drop (off + 0 + vs.length)) = cs.take off ++ vs ++ cs.drop (off + vs.length) := by simp

theorem St.run_store (h : St B w0 L R w) {f : List Value → List Blk} [hp : Puts b L cs t f] {ty : TypeId} {g : Bool} {n off : Nat} [ht : TyI P ty g n] {x : Value} {vs cs' : List Value}
    (hx : x.cells = vs.toArray) (hn : vs.length = n) (hl : off + n ≤ cs.length) (h1 : vs.all (·.oneCell') = true) (hc : cs.take off ++ vs ++ cs.drop (off + n) = cs') :
    (storeVar ty ⟨b, off, none⟩ x).run P w = .ok () (w.setRow b cs'.toArray) := by
  have hown := h.own _ hp.mem
  have e := run_storeCells_at (P := P) b off t vs 0 cs.toArray w hown (by simp; omega) (vals_ok h1)
  rw [splice_ok, hn, hc] at e
  unfold storeVar
  simp only [hx, List.size_toArray, hn, ht.size, Sem.run_bind, Result.andThen_ok]
  simp [e]

variable {ops : Array Oper} {Q : Exit → Act → World → Prop} {a : Act} {rest : List Oper} {o : Oper}

theorem wpList_run {v : Value} {w' : World} (hw : Region.wanted o (yielded ops a.tmps) = true) (hr : (execOp a.eval o).run P w = .ok (.value v) w') (h : wpList P ops Q rest (a.put o.dst v) w') : wpList P ops Q (o :: rest) a w := by
  refine BigFrame.wpList_want hw fun K hK => ?_
  unfold Oper.wp
  rw [hr]
  exact hK _ _ h
theorem wpList_skip0 {w' : World} (hw : Region.wanted o (yielded ops a.tmps) = true) (hr : (execOp a.eval o).run P w = .ok .skip w') (h : wpList P ops Q rest (a.put o.dst undef) w') : wpList P ops Q (o :: rest) a w := by
  refine BigFrame.wpList_want hw fun K hK => ?_
  unfold Oper.wp
  rw [hr]
  exact hK _ _ h

theorem own_load (h : St B w0 L R w) {ty : TypeId} {x : Operand} (ho : o.op = .load ty x) (hw : Region.wanted o (yielded ops a.tmps) = true) {off : Nat} (ha : a.eval x = .pointer (some ⟨b, off, none⟩))
    [hb : Has b L cs t] {n : Nat} [ht : TyI P ty true n] {vs : List Value} (hv0 : subL cs off n = some vs)
    (k : wpList P ops Q rest (a.put o.dst (.agg vs.toArray)) w) : wpList P ops Q (o :: rest) a w := by
  refine wpList_run hw ?_ k
  obtain ⟨hv, hl⟩ := subL_spec _ _ _ _ hv0
  simp [execOp, ho, ha, Instr.loadAt, Instr.sureAddr, h.run_load (P := P) (ty := ty) hv hl]

theorem own_load1 (h : St B w0 L R w) {ty : TypeId} {x : Operand} (ho : o.op = .load ty x) (hw : Region.wanted o (yielded ops a.tmps) = true) {off : Nat} (ha : a.eval x = .pointer (some ⟨b, off, none⟩))
    [hb : Has b L cs t] {n : Nat} [ht : TyI P ty false n] {v : Value} (hv0 : nthL cs off = some v)
    (k : wpList P ops Q rest (a.put o.dst v) w) : wpList P ops Q (o :: rest) a w := by
  refine wpList_run hw ?_ k
  have hv := (nthL_eq _ _).symm.trans hv0
  simp [execOp, ho, ha, Instr.loadAt, Instr.sureAddr, h.run_load1 (P := P) (ty := ty) hv]

theorem own_store (h : St B w0 L R w) {ty : TypeId} {x y : Operand} (ho : o.op = .store ty x y) (hw : Region.wanted o (yielded ops a.tmps) = true) {off : Nat} (ha : a.eval x = .pointer (some ⟨b, off, none⟩))
    {f : List Value → List Blk} [hp : Puts b L cs t f] {g : Bool} {n : Nat} [ht : TyI P ty g n] {vs cs' : List Value}
    (hx : (a.eval y).cells = vs.toArray) (hn : vs.length = n) (h1 : vs.all (·.oneCell') = true) (hc0 : putL cs off vs = some cs')
    (hd : o.dst = none) (k : ∀ w', St B w0 (f cs') R w' → wpList P ops Q rest a w') : wpList P ops Q (o :: rest) a w := by
  obtain ⟨hc, hl⟩ := putL_spec _ _ _ _ hc0
  rw [hn] at hc hl
  refine wpList_skip0 hw ?_ (by rw [hd]; exact k _ (h.put (hp := hp) cs'))
  simp [execOp, ho, ha, Instr.storeAt, Instr.sureAddr, h.run_store (P := P) (ty := ty) hx hn hl h1 hc]

/-- A row that is read alone, at a place reckoned. -/
theorem St.row (h : St B w0 L R w) {r : Rw} (hr : r ∈ R) {j : Nat} {v : Value} (hv : r.vs[j]? = some v) : w.cell? ⟨r.n, r.off + j, none⟩ = some v := (h.rows r hr).2 j v hv
theorem St.run_rload (h : St B w0 L R w) {r : Rw} (hr : r ∈ R) {ty : TypeId} {n j : Nat} [ht : TyI P ty true n] {vs : List Value} (hv : (r.vs.drop j).take n = vs) (hl : vs.length = n) : (Go.loadVar ty ⟨r.n, r.off + j, none⟩).run P w = .ok (.agg vs.toArray) w := by
  have e := run_loadCells_list (P := P) (w := w) ⟨r.n, r.off + j, none⟩ vs (fun i v hi => by
    have hadd : (⟨r.n, r.off + j, none⟩ : Addr).add i = ⟨r.n, r.off + (j + i), none⟩ := by unfold Addr.add; split <;> simp_all [Nat.add_assoc]
    have hjn : i < n := by rw [← hl]; exact (List.getElem?_eq_some_iff.1 hi).1
    have : r.vs[j + i]? = some v := by
      rw [← hv, List.getElem?_take, if_pos hjn, List.getElem?_drop] at hi; exact hi
    rw [hadd]; exact h.row hr this)
  rw [hl] at e
  simp [Go.loadVar, ht.agg, ht.size, e]
theorem St.run_rload1 (h : St B w0 L R w) {r : Rw} (hr : r ∈ R) {ty : TypeId} {n j : Nat} [ht : TyI P ty false n] {v : Value} (hv : r.vs[j]? = some v) : (Go.loadVar ty ⟨r.n, r.off + j, none⟩).run P w = .ok v w := by
  simp [Go.loadVar, ht.agg, load, Sem.run, h.row hr hv]
theorem own_rload (h : St B w0 L R w) {r : Rw} (hr : r ∈ R) {ty : TypeId} {x : Operand} (ho : o.op = .load ty x) (hw : Region.wanted o (yielded ops a.tmps) = true) {p j : Nat} (ha : a.eval x = .pointer (some ⟨r.n, p, none⟩)) (hp : r.off + j = p)
    {n : Nat} [ht : TyI P ty true n] {vs : List Value} (hv0 : (r.vs.drop j).take n = vs) (hl : vs.length = n)
    (k : wpList P ops Q rest (a.put o.dst (.agg vs.toArray)) w) : wpList P ops Q (o :: rest) a w := by
  subst hp
  refine wpList_run hw ?_ k
  simp [execOp, ho, ha, Instr.loadAt, Instr.sureAddr, h.run_rload (P := P) (ty := ty) hr hv0 hl]
theorem own_rload1 (h : St B w0 L R w) {r : Rw} (hr : r ∈ R) {ty : TypeId} {x : Operand} (ho : o.op = .load ty x) (hw : Region.wanted o (yielded ops a.tmps) = true) {p j : Nat} (ha : a.eval x = .pointer (some ⟨r.n, p, none⟩)) (hp : r.off + j = p)
    {n : Nat} [ht : TyI P ty false n] {v : Value} (hv0 : r.vs[j]? = some v)
    (k : wpList P ops Q rest (a.put o.dst v) w) : wpList P ops Q (o :: rest) a w := by
  subst hp
  refine wpList_run hw ?_ k
  simp [execOp, ho, ha, Instr.loadAt, Instr.sureAddr, h.run_rload1 (P := P) (ty := ty) hr hv0]
/-- A row of the call's own that is made in one go, and read alone from then on. -/
theorem St.addRow (h : St B w0 L R w) {w' : World} (hb : Below w.heap.size w w') {r : Rw} (hr : Rd w' r) (hn : w.heap.size ≤ r.n) : St B w0 L (r :: R) w' := by
  have h' := h.call hb
  refine { h' with rows := ?_, apart := ?_ }
  · intro x hx
    rcases List.mem_cons.1 hx with e | e
    · subst e; exact hr
    · exact h'.rows x e
  · intro x hx y hy
    rcases List.mem_cons.1 hx with e | e
    · subst e; have := h.lt hy; omega
    · exact h'.apart x e y hy
/-- '[]byte(s)' -/
theorem own_bytes (h : St B w0 L R w) {src dst e : TypeId} {x : Operand} (ho : o.op = .convert src dst x) (hw : Region.wanted o (yielded ops a.tmps) = true) {s : ByteArray} (hx : a.eval x = .string s)
    (hs : P.underlying src = some .string) (hd : P.underlying dst = some (.slice e)) (he : P.underlying e = some (.int .u8))
    (k : ∀ b c w', St B w0 L (⟨b, 0, s.data.toList.map (fun y => Value.int .u8 (y.toNat : Int))⟩ :: R) w' → wpList P ops Q rest (a.put o.dst (.slice (some ⟨b, 0, none⟩) s.size c)) w') : wpList P ops Q (o :: rest) a w := by
  have hrun := run_bytes_of_string (P := P) w src dst e s hs hd he
  refine wpList_run hw (w' := _) ?_ (k w.heap.size (grownCap w s.size 0 e) _ (h.addRow (w' := w.drew.alloc (.cells (bytesRow s (grownCap w s.size 0 e)) e ((bytesRow s (grownCap w s.size 0 e)).size, (bytesRow s (grownCap w s.size 0 e)).size + 1))) ?_ ?_ (Nat.le_refl _)))
  · simp [execOp, ho, hx, hrun]
  · exact (Below.refl w.heap.size w).drew.alloc (Nat.le_refl _) _
  · refine ⟨by show _ < (w.heap.push _).size; simp, fun j v hj => ?_⟩
    have hg : (w.drew.alloc (.cells (bytesRow s (grownCap w s.size 0 e)) e ((bytesRow s (grownCap w s.size 0 e)).size, (bytesRow s (grownCap w s.size 0 e)).size + 1))).heap[w.heap.size]? = some (.cells (bytesRow s (grownCap w s.size 0 e)) e ((bytesRow s (grownCap w s.size 0 e)).size, (bytesRow s (grownCap w s.size 0 e)).size + 1)) := by
      show (w.heap.push _)[w.heap.size]? = _
      simp
    simp only [World.cell?, hg]
    have hjl : j < s.data.toList.length := by
      have := (List.getElem?_eq_some_iff.1 hj).1
      simpa using this
    have hjs : j < s.size := by simpa using hjl
    simp [bytesRow, Array.getElem?_append] at hj ⊢
    rw [if_pos hjs]
    simpa using hj

theorem run_fld {ty fty : TypeId} {i off : Nat} [hf : FldI P ty i off fty] {n : Nat} [ht : TyI P fty false n] {vs : List Value} {v : Value} (hv0 : nthL vs off = some v) : (Instr.field ty (.agg vs.toArray) i).run P w = .ok v w := by
  obtain ⟨fs, f, h1, h2, h3, h4⟩ := hf.fld
  have hv := (nthL_eq _ _).symm.trans hv0
  simp [Instr.field, run_underlying h1, h2, asAgg, part, h4, ht.agg, h3, hv]
theorem run_fldA {ty fty : TypeId} {i off : Nat} [hf : FldI P ty i off fty] {n : Nat} [ht : TyI P fty true n] {vs us : List Value} (hv0 : subL vs off n = some us) : (Instr.field ty (.agg vs.toArray) i).run P w = .ok (.agg us.toArray) w := by
  obtain ⟨fs, f, h1, h2, h3, h4⟩ := hf.fld
  obtain ⟨hv, hl⟩ := subL_spec _ _ _ _ hv0
  simp [Instr.field, run_underlying h1, h2, asAgg, part, h4, ht.agg, ht.size, h3]
  exact hv
theorem own_field {ty fty : TypeId} {x : Operand} {i off : Nat} (ho : o.op = .field ty x i) (hw : Region.wanted o (yielded ops a.tmps) = true) {vs : List Value} (hx : a.eval x = .agg vs.toArray)
    [hf : FldI P ty i off fty] {n : Nat} [ht : TyI P fty false n] {v : Value} (hv0 : nthL vs off = some v)
    (k : wpList P ops Q rest (a.put o.dst v) w) : wpList P ops Q (o :: rest) a w := by
  refine wpList_run hw ?_ k
  simp [execOp, ho, hx, run_fld (P := P) (w := w) (ty := ty) hv0]
theorem own_fieldA {ty fty : TypeId} {x : Operand} {i off : Nat} (ho : o.op = .field ty x i) (hw : Region.wanted o (yielded ops a.tmps) = true) {vs : List Value} (hx : a.eval x = .agg vs.toArray)
    [hf : FldI P ty i off fty] {n : Nat} [ht : TyI P fty true n] {us : List Value} (hv0 : subL vs off n = some us)
    (k : wpList P ops Q rest (a.put o.dst (.agg us.toArray)) w) : wpList P ops Q (o :: rest) a w := by
  refine wpList_run hw ?_ k
  simp [execOp, ho, hx, run_fldA (P := P) (w := w) (ty := ty) hv0]

theorem own_not {ty : TypeId} {x : Operand} (ho : o.op = .unOp .not ty x) (hw : Region.wanted o (yielded ops a.tmps) = true) {v u : Bool} (hx : a.eval x = .bool v) (hv : (!v) = u)
    (k : wpList P ops Q rest (a.put o.dst (.bool u)) w) : wpList P ops Q (o :: rest) a w := by
  refine wpList_run hw ?_ k
  simp [execOp, ho, hx, Op.unary, hv]
theorem own_alloc (h : St B w0 L R w) {ty : TypeId} (ho : o.op = .alloc ty) (hw : Region.wanted o (yielded ops a.tmps) = true) {z : List Value} [hz : TyZ P ty z]
    (k : ∀ b w', St B w0 (⟨b, z, ty⟩ :: L) R w' → wpList P ops Q rest (a.put o.dst (.pointer (some ⟨b, 0, none⟩))) w') : wpList P ops Q (o :: rest) a w := by
  obtain ⟨zv, hz1, hz2⟩ := hz.zero w
  refine wpList_run hw (w' := w.alloc (.cells z.toArray ty)) ?_ (k _ _ (h.alloc z ty))
  simp [execOp, ho, Instr.alloc, hz1, newVar, newRow, hz2]

theorem own_box (h : St B w0 L R w) {ty : TypeId} {x : Operand} (ho : o.op = .box ty x) (hw : Region.wanted o (yielded ops a.tmps) = true) {z : List Value} (hx : (a.eval x).cells = z.toArray)
    (k : ∀ b w', St B w0 (⟨b, z, ty⟩ :: L) R w' → wpList P ops Q rest (a.put o.dst (.pointer (some ⟨b, 0, none⟩))) w') : wpList P ops Q (o :: rest) a w := by
  refine wpList_run hw (w' := w.alloc (.cells z.toArray ty)) ?_ (k _ _ (h.alloc z ty))
  simp [execOp, ho, Instr.box, newVar, newRow, hx]

theorem own_boxA (h : St B w0 L R w) {ty : TypeId} {x : Operand} (ho : o.op = .box ty x) (hw : Region.wanted o (yielded ops a.tmps) = true) {vs : List Value} (hx : a.eval x = .agg vs.toArray)
    (k : ∀ b w', St B w0 (⟨b, vs, ty⟩ :: L) R w' → wpList P ops Q rest (a.put o.dst (.pointer (some ⟨b, 0, none⟩))) w') : wpList P ops Q (o :: rest) a w :=
  own_box h ho hw (by rw [hx]; rfl) k
theorem own_storeA (h : St B w0 L R w) {ty : TypeId} {x y : Operand} (ho : o.op = .store ty x y) (hw : Region.wanted o (yielded ops a.tmps) = true) {off : Nat} (ha : a.eval x = .pointer (some ⟨b, off, none⟩)) {vs : List Value} (hx : a.eval y = .agg vs.toArray)
    {f : List Value → List Blk} [hp : Puts b L cs t f] {g : Bool} {n : Nat} [ht : TyI P ty g n] {cs' : List Value} (hn : (vs : List Value).length = n) (h1 : vs.all (·.oneCell') = true) (hc0 : putL cs off vs = some cs')
    (hd : o.dst = none) (k : ∀ w', St B w0 (f cs') R w' → wpList P ops Q rest a w') : wpList P ops Q (o :: rest) a w :=
  own_store h ho hw ha (vs := vs) (by rw [hx]; rfl) hn h1 hc0 hd k
theorem own_boxI (h : St B w0 L R w) {ty : TypeId} {x : Operand} (ho : o.op = .box ty x) (hw : Region.wanted o (yielded ops a.tmps) = true) {kk : IntKind} {nn : Int} (hx : a.eval x = .int kk nn)
    (k : ∀ b w', St B w0 (⟨b, [.int kk nn], ty⟩ :: L) R w' → wpList P ops Q rest (a.put o.dst (.pointer (some ⟨b, 0, none⟩))) w') : wpList P ops Q (o :: rest) a w :=
  own_box h ho hw (by rw [hx]; rfl) k
theorem own_storeI (h : St B w0 L R w) {ty : TypeId} {x y : Operand} (ho : o.op = .store ty x y) (hw : Region.wanted o (yielded ops a.tmps) = true) {off : Nat} (ha : a.eval x = .pointer (some ⟨b, off, none⟩)) {kk : IntKind} {nn : Int} (hx : a.eval y = .int kk nn)
    {f : List Value → List Blk} [hp : Puts b L cs t f] {g : Bool} {n : Nat} [ht : TyI P ty g n] {cs' : List Value} (hn : ([.int kk nn] : List Value).length = n) (hc0 : putL cs off [.int kk nn] = some cs')
    (hd : o.dst = none) (k : ∀ w', St B w0 (f cs') R w' → wpList P ops Q rest a w') : wpList P ops Q (o :: rest) a w :=
  own_store h ho hw ha (vs := [.int kk nn]) (by rw [hx]; rfl) hn rfl hc0 hd k
theorem own_boxB (h : St B w0 L R w) {ty : TypeId} {x : Operand} (ho : o.op = .box ty x) (hw : Region.wanted o (yielded ops a.tmps) = true) {bb : Bool} (hx : a.eval x = .bool bb)
    (k : ∀ b w', St B w0 (⟨b, [.bool bb], ty⟩ :: L) R w' → wpList P ops Q rest (a.put o.dst (.pointer (some ⟨b, 0, none⟩))) w') : wpList P ops Q (o :: rest) a w :=
  own_box h ho hw (by rw [hx]; rfl) k
theorem own_storeB (h : St B w0 L R w) {ty : TypeId} {x y : Operand} (ho : o.op = .store ty x y) (hw : Region.wanted o (yielded ops a.tmps) = true) {off : Nat} (ha : a.eval x = .pointer (some ⟨b, off, none⟩)) {bb : Bool} (hx : a.eval y = .bool bb)
    {f : List Value → List Blk} [hp : Puts b L cs t f] {g : Bool} {n : Nat} [ht : TyI P ty g n] {cs' : List Value} (hn : ([.bool bb] : List Value).length = n) (hc0 : putL cs off [.bool bb] = some cs')
    (hd : o.dst = none) (k : ∀ w', St B w0 (f cs') R w' → wpList P ops Q rest a w') : wpList P ops Q (o :: rest) a w :=
  own_store h ho hw ha (vs := [.bool bb]) (by rw [hx]; rfl) hn rfl hc0 hd k
theorem own_boxS (h : St B w0 L R w) {ty : TypeId} {x : Operand} (ho : o.op = .box ty x) (hw : Region.wanted o (yielded ops a.tmps) = true) {ss : ByteArray} (hx : a.eval x = .string ss)
    (k : ∀ b w', St B w0 (⟨b, [.string ss], ty⟩ :: L) R w' → wpList P ops Q rest (a.put o.dst (.pointer (some ⟨b, 0, none⟩))) w') : wpList P ops Q (o :: rest) a w :=
  own_box h ho hw (by rw [hx]; rfl) k
theorem own_storeS (h : St B w0 L R w) {ty : TypeId} {x y : Operand} (ho : o.op = .store ty x y) (hw : Region.wanted o (yielded ops a.tmps) = true) {off : Nat} (ha : a.eval x = .pointer (some ⟨b, off, none⟩)) {ss : ByteArray} (hx : a.eval y = .string ss)
    {f : List Value → List Blk} [hp : Puts b L cs t f] {g : Bool} {n : Nat} [ht : TyI P ty g n] {cs' : List Value} (hn : ([.string ss] : List Value).length = n) (hc0 : putL cs off [.string ss] = some cs')
    (hd : o.dst = none) (k : ∀ w', St B w0 (f cs') R w' → wpList P ops Q rest a w') : wpList P ops Q (o :: rest) a w :=
  own_store h ho hw ha (vs := [.string ss]) (by rw [hx]; rfl) hn rfl hc0 hd k
theorem own_boxL (h : St B w0 L R w) {ty : TypeId} {x : Operand} (ho : o.op = .box ty x) (hw : Region.wanted o (yielded ops a.tmps) = true) {aa : Option Addr} {nn cc : Nat} (hx : a.eval x = .slice aa nn cc)
    (k : ∀ b w', St B w0 (⟨b, [.slice aa nn cc], ty⟩ :: L) R w' → wpList P ops Q rest (a.put o.dst (.pointer (some ⟨b, 0, none⟩))) w') : wpList P ops Q (o :: rest) a w :=
  own_box h ho hw (by rw [hx]; rfl) k
theorem own_storeL (h : St B w0 L R w) {ty : TypeId} {x y : Operand} (ho : o.op = .store ty x y) (hw : Region.wanted o (yielded ops a.tmps) = true) {off : Nat} (ha : a.eval x = .pointer (some ⟨b, off, none⟩)) {aa : Option Addr} {nn cc : Nat} (hx : a.eval y = .slice aa nn cc)
    {f : List Value → List Blk} [hp : Puts b L cs t f] {g : Bool} {n : Nat} [ht : TyI P ty g n] {cs' : List Value} (hn : ([.slice aa nn cc] : List Value).length = n) (hc0 : putL cs off [.slice aa nn cc] = some cs')
    (hd : o.dst = none) (k : ∀ w', St B w0 (f cs') R w' → wpList P ops Q rest a w') : wpList P ops Q (o :: rest) a w :=
  own_store h ho hw ha (vs := [.slice aa nn cc]) (by rw [hx]; rfl) hn rfl hc0 hd k

/-- A function that leaves what was there as it was, and hands back v whatever the world. -/
def Pure (P : Program) (f : FuncId) (args : Array Value) (v : Value) : Prop := ∀ w, Calls P f args w fun e w' => e = .returned v ∧ Below w.heap.size w w'

/-- The class of worlds of a drawn region: a type of its own, whatever it is, so that no rewriting touches it. -/
structure Cls (B : Nat) (w0 : World) (L : List Blk) (R : List Rw) (D : Type) (val : D → World) : Prop where
  ok : ∀ d, St B w0 L R (val d)
  sur : ∀ w, St B w0 L R w → ∃ d, w = val d

theorem wp_region_st {id : Nat} {l : List Oper} (h : St B w0 L R w) (hm : P.follows .mixedOrders = true) (hB : Region.lexB .any l.toArray = true)
    (k : ∀ (D : Type) (val : D → World), Nonempty D → Cls B w0 L R D val → wpQuiet P l.toArray (fun w' => ∃ d : D, w' = val d) (fun a' => ∀ w', St B w0 L R w' → Q .normal a' w') l a) : (Code.region id l.toArray true).wp P Q a w := by
  have k := k { x : World // St B w0 L R x } Subtype.val ⟨⟨w, h⟩⟩ ⟨fun d => d.2, fun w hw => ⟨⟨w, hw⟩, rfl⟩⟩
  refine wp_region_quiet (C := fun w' => ∃ d : { x : World // St B w0 L R x }, w' = d.val) hm hB ⟨⟨_, h.drew⟩, rfl⟩ ?_
  have e : (fun a' => ∀ w', (∃ d : { x : World // St B w0 L R x }, w' = d.val) → Q .normal a' w') = (fun a' => ∀ w', St B w0 L R w' → Q .normal a' w') := by
    funext a'; apply propext; exact ⟨fun g w' hw' => g w' ⟨⟨w', hw'⟩, rfl⟩, fun g w' ⟨d, hd⟩ => by rw [hd]; exact g _ d.2⟩
  rw [e]
  exact k
theorem wp_region_st_tail {id : Nat} {l : List Oper} (n : Nat) (h : St B w0 L R w) (hm : P.follows .mixedOrders = true) (hB : Region.lexTailB .any l.toArray n = true)
    (k : ∀ (D : Type) (val : D → World), Nonempty D → Cls B w0 L R D val → wpQuiet P l.toArray (fun w' => ∃ d : D, w' = val d) (fun a' => ∀ w', St B w0 L R w' → wpList P l.toArray Q (l.drop n) a' w') (l.take n) a) : (Code.region id l.toArray true).wp P Q a w := by
  have k := k { x : World // St B w0 L R x } Subtype.val ⟨⟨w, h⟩⟩ ⟨fun d => d.2, fun w hw => ⟨⟨w, hw⟩, rfl⟩⟩
  refine wp_region_quiet_tail (C := fun w' => ∃ d : { x : World // St B w0 L R x }, w' = d.val) n hm hB ⟨⟨_, h.drew⟩, rfl⟩ ?_
  have e : (fun a' => ∀ w', (∃ d : { x : World // St B w0 L R x }, w' = d.val) → wpList P l.toArray Q (l.drop n) a' w') = (fun a' => ∀ w', St B w0 L R w' → wpList P l.toArray Q (l.drop n) a' w') := by
    funext a'; apply propext; exact ⟨fun g w' hw' => g w' ⟨⟨w', hw'⟩, rfl⟩, fun g w' ⟨d, hd⟩ => by rw [hd]; exact g _ d.2⟩
  rw [e]
  exact k

section
variable {D : Type} {val : D → World} {K : Act → Prop}
theorem quiet_val {v : Value} (hr : ∀ d : D, (execOp a.eval o).run P (val d) = .ok (.value v) (val d)) (k : K (a.put o.dst v)) : o.quiet P a (fun w' => ∃ d : D, w' = val d) K :=
  ⟨v, fun w ⟨d, hd⟩ => by rw [hd]; unfold Oper.quietAt; rw [hr d]; exact ⟨rfl, rfl⟩, k⟩
theorem quiet_load (c : Cls B w0 L R D val) {ty : TypeId} {x : Operand} (ho : o.op = .load ty x) {off : Nat} (ha : a.eval x = .pointer (some ⟨b, off, none⟩))
    [hb : Has b L cs t] {n : Nat} [ht : TyI P ty true n] {vs : List Value} (hv0 : subL cs off n = some vs)
    (k : K (a.put o.dst (.agg vs.toArray))) : o.quiet P a (fun w' => ∃ d : D, w' = val d) K :=
  quiet_val (fun d => by obtain ⟨hv, hl⟩ := subL_spec _ _ _ _ hv0; simp [execOp, ho, ha, Instr.loadAt, Instr.sureAddr, (c.ok d).run_load (P := P) (ty := ty) hv hl]) k
theorem quiet_load1 (c : Cls B w0 L R D val) {ty : TypeId} {x : Operand} (ho : o.op = .load ty x) {off : Nat} (ha : a.eval x = .pointer (some ⟨b, off, none⟩))
    [hb : Has b L cs t] {n : Nat} [ht : TyI P ty false n] {v : Value} (hv0 : nthL cs off = some v)
    (k : K (a.put o.dst v)) : o.quiet P a (fun w' => ∃ d : D, w' = val d) K :=
  quiet_val (fun d => by have hv := (nthL_eq _ _).symm.trans hv0; simp [execOp, ho, ha, Instr.loadAt, Instr.sureAddr, (c.ok d).run_load1 (P := P) (ty := ty) hv]) k
theorem quiet_field {ty fty : TypeId} {x : Operand} {i off : Nat} (ho : o.op = .field ty x i) {vs : List Value} (hx : a.eval x = .agg vs.toArray)
    [hf : FldI P ty i off fty] {n : Nat} [ht : TyI P fty false n] {v : Value} (hv0 : nthL vs off = some v)
    (k : K (a.put o.dst v)) : o.quiet P a (fun w' => ∃ d : D, w' = val d) K :=
  quiet_val (fun d => by simp [execOp, ho, hx, run_fld (P := P) (w := val d) (ty := ty) hv0]) k
theorem quiet_fieldA {ty fty : TypeId} {x : Operand} {i off : Nat} (ho : o.op = .field ty x i) {vs : List Value} (hx : a.eval x = .agg vs.toArray)
    [hf : FldI P ty i off fty] {n : Nat} [ht : TyI P fty true n] {us : List Value} (hv0 : subL vs off n = some us)
    (k : K (a.put o.dst (.agg us.toArray))) : o.quiet P a (fun w' => ∃ d : D, w' = val d) K :=
  quiet_val (fun d => by simp [execOp, ho, hx, run_fldA (P := P) (w := val d) (ty := ty) hv0]) k
/-- A row that is read alone, in a drawn region. -/
theorem quiet_rload (c : Cls B w0 L R D val) {r : Rw} (hr : r ∈ R) {ty : TypeId} {x : Operand} (ho : o.op = .load ty x) {p j : Nat} (ha : a.eval x = .pointer (some ⟨r.n, p, none⟩)) (hp : r.off + j = p)
    {n : Nat} [ht : TyI P ty true n] {vs : List Value} (hv0 : (r.vs.drop j).take n = vs) (hl : vs.length = n)
    (k : K (a.put o.dst (.agg vs.toArray))) : o.quiet P a (fun w' => ∃ d : D, w' = val d) K :=
  quiet_val (fun d => by subst hp; simp [execOp, ho, ha, Instr.loadAt, Instr.sureAddr, (c.ok d).run_rload (P := P) (ty := ty) hr hv0 hl]) k
theorem quiet_rload1 (c : Cls B w0 L R D val) {r : Rw} (hr : r ∈ R) {ty : TypeId} {x : Operand} (ho : o.op = .load ty x) {p j : Nat} (ha : a.eval x = .pointer (some ⟨r.n, p, none⟩)) (hp : r.off + j = p)
    {n : Nat} [ht : TyI P ty false n] {v : Value} (hv0 : r.vs[j]? = some v)
    (k : K (a.put o.dst v)) : o.quiet P a (fun w' => ∃ d : D, w' = val d) K :=
  quiet_val (fun d => by subst hp; simp [execOp, ho, ha, Instr.loadAt, Instr.sureAddr, (c.ok d).run_rload1 (P := P) (ty := ty) hr hv0]) k
theorem Pure.quiet {f : FuncId} {args : Array Value} {v : Value} (h : Pure P f args v) (c : Cls B w0 L R D val) (d : D) : Calls P f args (val d) fun e w'' => e = .returned v ∧ ∃ d' : D, w'' = val d' :=
  (h (val d)).mono fun _ _ ⟨he, hb⟩ => ⟨he, c.sur _ ((c.ok d).call hb)⟩
end

/-! ### What a function hands back -/
def ResOk (P : Program) (w : World) (tmps : Array Value) : ResultVar → Value → Prop
  | .tmp t, v => tmps.getD t undef = v
  | .cell t ty, v => ∃ a, tmps.getD t undef = .pointer (some a) ∧ (Go.loadVar ty a).run P w = .ok v w
theorem res_tmp {tmps : Array Value} {t : Tmp} {v : Value} (h : tmps.getD t undef = v) : ResOk P w tmps (.tmp t) v := h
theorem res_cell (h : St B w0 L R w) {tmps : Array Value} {s : Tmp} {ty : TypeId} {n : Nat} (ha : tmps.getD s undef = .pointer (some ⟨b, 0, none⟩)) [hb : Has b L cs t] [ht : TyI P ty true n] (hn : cs.length = n) :
    ResOk P w tmps (.cell s ty) (.agg cs.toArray) :=
  ⟨_, ha, h.run_load (P := P) (ty := ty) (by simp [← hn]) hn⟩
theorem own_ret1 {fn : Func} {R : Ending → World → Prop} {a : Act} {r1 : ResultVar} {v1 : Value} (hr : fn.results = #[r1]) (h1 : ResOk P w a.tmps r1 v1) (hd : a.defers = []) (hR : R (.returned v1) w) : bodyPost P fn R .ret a w :=
  bodyPost_ret (v := v1) (by
    cases r1 <;> simp only [ResOk] at h1 <;> (try obtain ⟨_, g1, l1⟩ := h1) <;> simp_all [results, asAddr]) hd hR
theorem own_ret2 {fn : Func} {R : Ending → World → Prop} {a : Act} {r1 r2 : ResultVar} {v1 v2 : Value} (hr : fn.results = #[r1, r2]) (h1 : ResOk P w a.tmps r1 v1) (h2 : ResOk P w a.tmps r2 v2) (hd : a.defers = []) (hR : R (.returned (.tuple #[v1, v2])) w) : bodyPost P fn R .ret a w :=
  bodyPost_ret (v := .tuple #[v1, v2]) (by
    cases r1 <;> cases r2 <;> simp only [ResOk] at h1 h2 <;> (try obtain ⟨_, g1, l1⟩ := h1) <;> (try obtain ⟨_, g2, l2⟩ := h2) <;> simp_all [results, asAddr]) hd hR
theorem own_ret3 {fn : Func} {R : Ending → World → Prop} {a : Act} {r1 r2 r3 : ResultVar} {v1 v2 v3 : Value} (hr : fn.results = #[r1, r2, r3]) (h1 : ResOk P w a.tmps r1 v1) (h2 : ResOk P w a.tmps r2 v2) (h3 : ResOk P w a.tmps r3 v3) (hd : a.defers = []) (hR : R (.returned (.tuple #[v1, v2, v3])) w) : bodyPost P fn R .ret a w :=
  bodyPost_ret (v := .tuple #[v1, v2, v3]) (by
    cases r1 <;> cases r2 <;> cases r3 <;> simp only [ResOk] at h1 h2 h3 <;> (try obtain ⟨_, g1, l1⟩ := h1) <;> (try obtain ⟨_, g2, l2⟩ := h2) <;> (try obtain ⟨_, g3, l3⟩ := h3) <;> simp_all [results, asAddr]) hd hR
end
end Go.Proofs.Ytjfhhlfjfcgcmaa
