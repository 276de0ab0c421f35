/-
  What a symbolic state says of a world.
  What an operation does, and that the run says so: values, parts, loads, stores.
  What an operation does: tests, numbers, rows.
  What an operation does: numbers and tests.
  What an operation does: memory.
-/
import Derived.Test.YtkjgcalkkfgmlaaDoorSymC
import Derived.Laws.AppendOwn
import Derived.Laws.OwnMore
import Derived.IntWalk
import Derived.Laws.StructEq
namespace Go.Proofs.YtkjgcalkkfgmlaaDoor
open Go.RowKit

/-! ### Expressions -/
theorem Ex.same_eq : ∀ {x y : Ex}, x.same y = true → x = y := by
  intro x
  induction x with
  | v p => intro y h; cases y <;> simp_all [Ex.same]
  | i p => intro y h; cases y <;> simp_all [Ex.same]
  | b p => intro y h; cases y <;> simp_all [Ex.same]
  | s p => intro y h; cases y <;> simp_all [Ex.same]
  | nil => intro y h; cases y <;> simp_all [Ex.same]
  | u f x ih => intro y h; cases y <;> simp_all [Ex.same]; exact ih h.2
  | o f x y ihx ihy => intro z h; cases z <;> simp_all [Ex.same]; exact ⟨ihx h.1.2, ihy h.2⟩
  | t f x y z ihx ihy ihz => intro z h; cases z <;> simp_all [Ex.same]; exact ⟨ihx h.1.1.2, ihy h.1.2, ihz h.2⟩

theorem getD_append_lt {α : Type} (l r : List α) (n : Nat) (d : α) (h : n < l.length) : (l ++ r).getD n d = l.getD n d := by
  simp [List.getD_eq_getElem?_getD, List.getElem?_append_left h]
theorem Ex.ev_under {n : Nat} {ρ ρ' : List Sc} (h : ∀ i, i < n → ρ'.getD i (.i 0) = ρ.getD i (.i 0)) : ∀ {x : Ex}, x.under n = true → x.ev ρ' = x.ev ρ
  | .v p, hx => h p (Nat.le_of_ble_eq_true (by simpa [Ex.under, Nat.blt] using hx))
  | .i _, _ | .b _, _ | .s _, _ | .nil, _ => rfl
  | .u f x, hx => by simp only [Ex.ev]; rw [Ex.ev_under h (x := x) hx]
  | .o f x y, hx => by
    simp only [Ex.under, Bool.and_eq_true] at hx
    simp only [Ex.ev]; rw [Ex.ev_under h hx.1, Ex.ev_under h hx.2]
  | .t f x y z, hx => by
    simp only [Ex.under, Bool.and_eq_true] at hx
    simp only [Ex.ev]; rw [Ex.ev_under h hx.1.1, Ex.ev_under h hx.1.2, Ex.ev_under h hx.2]
theorem evL_under {n : Nat} {ρ ρ' : List Sc} (h : ∀ i, i < n → ρ'.getD i (.i 0) = ρ.getD i (.i 0)) : ∀ {l : List Ex}, l.all (·.under n) = true → l.map (Ex.ev ρ') = l.map (Ex.ev ρ)
  | [], _ => rfl
  | x :: l, hx => by
    simp only [List.all_cons, Bool.and_eq_true] at hx
    simp only [List.map_cons]; rw [Ex.ev_under h hx.1, evL_under h hx.2]

theorem mk1_ev (ρ : List Sc) (f : U1) (x : Ex) : (mk1 f x).ev ρ = f.ev (x.ev ρ) := by
  unfold mk1
  split <;> (try rfl)
  split <;> rfl
theorem mk2_ev (ρ : List Sc) (f : U2) (x y : Ex) : (mk2 f x y).ev ρ = f.ev (x.ev ρ) (y.ev ρ) := by
  unfold mk2
  split
  · split <;> rfl
  · split
    · split
      · split <;> simp [Ex.ev, U2.ev, Sc.bool]
      · simp [Ex.ev, U2.ev, Sc.bool]
    · split
      · simp [Ex.ev, U2.ev, Sc.bool]
      · split <;> simp [Ex.ev, U2.ev, Sc.bool]
    · rfl
  · rfl
theorem mk3_ev (ρ : List Sc) (f : U3) (x y z : Ex) : (mk3 f x y z).ev ρ = f.ev (x.ev ρ) (y.ev ρ) (z.ev ρ) := rfl

/-! ### Cells -/
structure Ct where
  ρ : List Sc
  β : Nat → Option Nat
  R : Nat → Option Value
  K : Nat → Prop
structure Ct.le (c c' : Ct) : Prop where
  ρ : c'.ρ = c.ρ
  K : c'.K = c.K
  β : ∀ i n, c.β i = some n → c'.β i = some n
  R : ∀ i v, c.R i = some v → c'.R i = some v
theorem Ct.le.refl (c : Ct) : c.le c := ⟨rfl, rfl, fun _ _ h => h, fun _ _ h => h⟩
theorem Ct.le.trans {a b c : Ct} (h : a.le b) (k : b.le c) : a.le c := ⟨k.ρ.trans h.ρ, k.K.trans h.K, fun i n x => k.β i n (h.β i n x), fun i n x => k.R i n (h.R i n x)⟩

def elVals (x : Sc) : List CK → Nat → List Value
  | [], _ => []
  | k :: ks, n => k.val (x.list.getD n (.i 0)) :: elVals x ks (n + 1)
/-- An element's cells. -/
def elCells (agg : Bool) (ks : List CK) (x : Sc) : List Value :=
  match agg, ks with
  | true, ks => elVals x ks 0
  | false, [k] => [k.val x]
  | false, _ => []
def rowFlat (agg : Bool) (ks : List CK) (l : List Sc) : List Value := l.flatMap (elCells agg ks)

def At.rel (c : Ct) : At → Value → Prop
  | .top, _ => True
  | .int k e, v => v = .int k (e.ev c.ρ).int
  | .bool e, v => v = .bool (e.ev c.ρ).bool
  | .str e, v => v = .string (e.ev c.ρ).str
  | .ptr p off, v => ∃ n, c.β p = some n ∧ v = .pointer (some ⟨n, off, none⟩)
  | .pel r es ix off, v => ∃ n o len cap, c.R r = some (.slice (some ⟨n, o, none⟩) len cap) ∧ 0 ≤ (ix.ev c.ρ).int ∧ (ix.ev c.ρ).int < len ∧ v = .pointer (some ⟨n, o + (ix.ev c.ρ).int.toNat * es + off, none⟩)
  | .nilp, v => v = .pointer none
  | .vec r, v => c.R r = some v ∧ ∃ ad n cap, v = .slice ad n cap
  | .sl r es lo len, v => ∃ a n cap a' cap', c.R r = some (.slice a n cap) ∧ v = .slice a' (len.ev c.ρ).int.toNat cap' ∧ 0 ≤ (lo.ev c.ρ).int ∧ 0 ≤ (len.ev c.ρ).int ∧ (lo.ev c.ρ).int + (len.ev c.ρ).int ≤ n ∧
      (len.ev c.ρ).int ≤ cap' ∧ cap' ≤ maxLen ∧ (0 < (len.ev c.ρ).int → ∃ b o, a = some ⟨b, o, none⟩ ∧ a' = some ⟨b, o + (lo.ev c.ρ).int.toNat * es, none⟩)
  | .nils, v => v = .slice none 0 0
  | .fn f caps, v => ∃ ns : List Nat, caps.map c.β = ns.map some ∧ v = .func (.func f) #[] (ns.map fun n => Value.pointer (some ⟨n, 0, none⟩)).toArray
def relL (c : Ct) : List At → List Value → Prop
  | [], [] => True
  | x :: xs, v :: vs => x.rel c v ∧ relL c xs vs
  | _, _ => False
def SC.rel (c : Ct) : SC → Value → Prop
  | .a x, v => x.rel c v
  | .g cs, v => ∃ vs, v = .agg vs.toArray ∧ relL c cs vs
def relC (c : Ct) : List SC → List Value → Prop
  | [], [] => True
  | x :: xs, v :: vs => x.rel c v ∧ relC c xs vs
  | _, _ => False
def SV.rel (c : Ct) : SV → Value → Prop
  | .c x, v => x.rel c v
  | .t xs, v => ∃ vs, v = .tuple vs.toArray ∧ relC c xs vs

theorem At.rel_le {c c' : Ct} (h : c.le c') : ∀ {x : At} {v : Value}, x.rel c v → x.rel c' v := by
  intro x v hx
  cases x <;> simp only [At.rel, h.ρ] at hx ⊢
  case ptr p off => obtain ⟨n, e, rfl⟩ := hx; exact ⟨n, h.β _ _ e, rfl⟩
  case pel r es ix off => obtain ⟨n, o, len, cap, e, r⟩ := hx; exact ⟨n, o, len, cap, h.R _ _ e, r⟩
  case vec r => exact ⟨h.R _ _ hx.1, hx.2⟩
  case sl r es lo len => obtain ⟨a, n, cap, a', cap', e, r⟩ := hx; exact ⟨a, n, cap, a', cap', h.R _ _ e, r⟩
  case fn f caps =>
    obtain ⟨ns, e, rfl⟩ := hx
    refine ⟨ns, ?_, rfl⟩
    induction caps generalizing ns with
    | nil => simpa using e
    | cons p ps ih =>
      cases ns with
      | nil => simp at e
      | cons n ns => simp only [List.map_cons, List.cons.injEq] at e ⊢; exact ⟨h.β _ _ e.1, ih ns e.2⟩
  all_goals exact hx
theorem relL_le {c c' : Ct} (h : c.le c') : ∀ {xs : List At} {vs : List Value}, relL c xs vs → relL c' xs vs
  | [], [], _ => trivial
  | _ :: _, _ :: _, hx => ⟨At.rel_le h hx.1, relL_le h hx.2⟩
  | [], _ :: _, hx => hx.elim
  | _ :: _, [], hx => hx.elim
theorem SC.rel_le {c c' : Ct} (h : c.le c') : ∀ {x : SC} {v : Value}, x.rel c v → x.rel c' v
  | .a _, _, hx => At.rel_le h hx
  | .g _, _, ⟨vs, e, r⟩ => ⟨vs, e, relL_le h r⟩
theorem relC_le {c c' : Ct} (h : c.le c') : ∀ {xs : List SC} {vs : List Value}, relC c xs vs → relC c' xs vs
  | [], [], _ => trivial
  | _ :: _, _ :: _, hx => ⟨SC.rel_le h hx.1, relC_le h hx.2⟩
  | [], _ :: _, hx => hx.elim
  | _ :: _, [], hx => hx.elim
theorem SV.rel_le {c c' : Ct} (h : c.le c') : ∀ {x : SV} {v : Value}, x.rel c v → x.rel c' v
  | .c _, _, hx => SC.rel_le h hx
  | .t _, _, ⟨vs, e, r⟩ => ⟨vs, e, relC_le h r⟩

/-- The same over more variables. -/
theorem At.rel_env {c : Ct} {n : Nat} {ρ' : List Sc} (h : ∀ i, i < n → ρ'.getD i (.i 0) = c.ρ.getD i (.i 0)) : ∀ {x : At} {v : Value}, x.under n = true → (x.rel { c with ρ := ρ' } v ↔ x.rel c v) := by
  intro x v hu
  cases x <;> simp only [At.rel, At.under, Bool.and_eq_true] at hu ⊢
  case int k e => rw [Ex.ev_under h hu]
  case bool e => rw [Ex.ev_under h hu]
  case str e => rw [Ex.ev_under h hu]
  case pel r es ix off => rw [Ex.ev_under h hu]
  case sl r es lo len => rw [Ex.ev_under h hu.1, Ex.ev_under h hu.2]
theorem relL_env {c : Ct} {n : Nat} {ρ' : List Sc} (h : ∀ i, i < n → ρ'.getD i (.i 0) = c.ρ.getD i (.i 0)) : ∀ {xs : List At} {vs : List Value}, xs.all (·.under n) = true → (relL { c with ρ := ρ' } xs vs ↔ relL c xs vs)
  | [], [], _ => Iff.rfl
  | x :: xs, v :: vs, hu => by
    simp only [List.all_cons, Bool.and_eq_true] at hu
    exact and_congr (At.rel_env h hu.1) (relL_env h hu.2)
  | [], _ :: _, _ => Iff.rfl
  | _ :: _, [], _ => Iff.rfl
theorem SC.rel_env {c : Ct} {n : Nat} {ρ' : List Sc} (h : ∀ i, i < n → ρ'.getD i (.i 0) = c.ρ.getD i (.i 0)) : ∀ {x : SC} {v : Value}, x.under n = true → (x.rel { c with ρ := ρ' } v ↔ x.rel c v)
  | .a _, _, hu => At.rel_env h hu
  | .g _, _, hu => exists_congr fun _ => and_congr Iff.rfl (relL_env h hu)
theorem relC_env {c : Ct} {n : Nat} {ρ' : List Sc} (h : ∀ i, i < n → ρ'.getD i (.i 0) = c.ρ.getD i (.i 0)) : ∀ {xs : List SC} {vs : List Value}, xs.all (·.under n) = true → (relC { c with ρ := ρ' } xs vs ↔ relC c xs vs)
  | [], [], _ => Iff.rfl
  | x :: xs, v :: vs, hu => by
    simp only [List.all_cons, Bool.and_eq_true] at hu
    exact and_congr (SC.rel_env h hu.1) (relC_env h hu.2)
  | [], _ :: _, _ => Iff.rfl
  | _ :: _, [], _ => Iff.rfl
theorem SV.rel_env {c : Ct} {n : Nat} {ρ' : List Sc} (h : ∀ i, i < n → ρ'.getD i (.i 0) = c.ρ.getD i (.i 0)) : ∀ {x : SV} {v : Value}, x.under n = true → (x.rel { c with ρ := ρ' } v ↔ x.rel c v)
  | .c _, _, hu => SC.rel_env h hu
  | .t _, _, hu => exists_congr fun _ => and_congr Iff.rfl (relC_env h hu)

theorem At.same_eq {x y : At} (h : x.same y = true) : x = y := by
  cases x <;> cases y <;> simp_all [At.same]
  case int.int => exact Ex.same_eq h.2
  case bool.bool => exact Ex.same_eq h
  case str.str => exact Ex.same_eq h
  case pel.pel => exact Ex.same_eq h.1.2
  case sl.sl => exact ⟨Ex.same_eq h.1.2, Ex.same_eq h.2⟩
theorem At.le_rel {c : Ct} {x y : At} (h : x.le y = true) {v : Value} (hy : y.rel c v) : x.rel c v := by
  unfold At.le at h
  cases x <;> simp only [Bool.or_eq_true] at h
  case top => trivial
  all_goals (rcases h with h | h; · cases h); rw [At.same_eq h]; exact hy
theorem leL_rel {c : Ct} : ∀ {xs ys : List At} {vs : List Value}, leL xs ys = true → relL c ys vs → relL c xs vs
  | [], [], _, _, h => h
  | x :: xs, y :: ys, v :: vs, h, hy => by
    simp only [leL, Bool.and_eq_true] at h
    exact ⟨At.le_rel h.1 hy.1, leL_rel h.2 hy.2⟩
  | _ :: _, _ :: _, [], _, hy => hy.elim
  | [], _ :: _, _, h, _ => by cases h
  | _ :: _, [], _, h, _ => by cases h
theorem SC.le_rel {c : Ct} : ∀ {x y : SC} {v : Value}, x.le y = true → y.rel c v → x.rel c v := by
  intro x y v h hy
  unfold SC.le at h
  split at h
  · trivial
  · exact At.le_rel h hy
  · obtain ⟨vs, e, r⟩ := hy; exact ⟨vs, e, leL_rel h r⟩
  · cases h
theorem leC_rel {c : Ct} : ∀ {xs ys : List SC} {vs : List Value}, leC xs ys = true → relC c ys vs → relC c xs vs
  | [], [], _, _, h => h
  | x :: xs, y :: ys, v :: vs, h, hy => by
    simp only [leC, Bool.and_eq_true] at h
    exact ⟨SC.le_rel h.1 hy.1, leC_rel h.2 hy.2⟩
  | _ :: _, _ :: _, [], _, hy => hy.elim
  | [], _ :: _, _, h, _ => by cases h
  | _ :: _, [], _, h, _ => by cases h
theorem SV.le_rel {c : Ct} : ∀ {x y : SV} {v : Value}, x.le y = true → y.rel c v → x.rel c v := by
  intro x y v h hy
  unfold SV.le at h
  split at h
  · trivial
  · exact SC.le_rel h hy
  · obtain ⟨vs, e, r⟩ := hy; exact ⟨vs, e, leC_rel h r⟩
  · cases h
theorem relL_len {c : Ct} : ∀ {xs : List At} {vs : List Value}, relL c xs vs → vs.length = xs.length
  | [], [], _ => rfl
  | _ :: _, _ :: _, h => by simp [relL_len h.2]
  | [], _ :: _, h => h.elim
  | _ :: _, [], h => h.elim
theorem relL_get {c : Ct} : ∀ {xs : List At} {vs : List Value} {n : Nat} {x : At}, relL c xs vs → xs[n]? = some x → ∃ v, vs[n]? = some v ∧ x.rel c v
  | _ :: _, v :: _, 0, _, h, e => ⟨v, rfl, by simp at e; exact e ▸ h.1⟩
  | _ :: _, _ :: _, n + 1, _, h, e => by simpa using relL_get (n := n) h.2 (by simpa using e)
  | [], [], _, _, _, e => by simp at e
  | [], _ :: _, _, _, h, _ => h.elim
  | _ :: _, [], _, _, h, _ => h.elim
theorem relC_get {c : Ct} : ∀ {xs : List SC} {vs : List Value} {n : Nat} {x : SC}, relC c xs vs → xs[n]? = some x → ∃ v, vs[n]? = some v ∧ x.rel c v
  | _ :: _, v :: _, 0, _, h, e => ⟨v, rfl, by simp at e; exact e ▸ h.1⟩
  | _ :: _, _ :: _, n + 1, _, h, e => by simpa using relC_get (n := n) h.2 (by simpa using e)
  | [], [], _, _, _, e => by simp at e
  | [], _ :: _, _, _, h, _ => h.elim
  | _ :: _, [], _, _, h, _ => h.elim

/-! ### States -/
def St.owns (σ : St) (c : Ct) (x : Bool × Nat) (g : Nat) : Prop :=
  match x with
  | (false, p) => (∃ k, σ.blk p = some k) ∧ c.β p = some g
  | (true, r) => (∃ k, σ.row r = some k ∧ k.own = true) ∧ ∃ v, c.R r = some v ∧ v.ownBlock = some g

/-- A row in a world. -/
def rowOk (B : Nat) (σ : St) (c : Ct) (w : World) (k : Rw) (v : Value) : Prop :=
  ∃ a n cap, v = .slice a n cap ∧ (k.cont.ev c.ρ).list.length = n ∧ n ≤ cap ∧ cap ≤ maxLen ∧
    (k.own = true → w.ownsRow B k.el k.ks.length v n (rowFlat k.agg k.ks (k.cont.ev c.ρ).list)) ∧
    (k.own = false → ∀ j u, (rowFlat k.agg k.ks (k.cont.ev c.ρ).list)[j]? = some u → ∃ p o, a = some ⟨p, o, none⟩ ∧ w.cell? ⟨p, o + j, none⟩ = some u ∧ (∀ x, ¬ σ.owns c x p) ∧ (B ≤ p ∨ c.K p))
structure Good (B : Nat) (w0 : World) (σ : St) (c : Ct) (a : Act) (w : World) : Prop where
  below : Below B w0 w
  hB : B ≤ w.heap.size
  defers : a.defers = []
  size : σ.slots.length ≤ a.tmps.size
  slots : ∀ t, (σ.slot t).rel c (a.tmps.getD t undef)
  blks : ∀ p k, σ.blk p = some k → ∃ n cs, c.β p = some n ∧ B ≤ n ∧ w.heap[n]? = some (.cells cs.toArray k.ty (0, 0)) ∧ relL c k.cells cs
  rows : ∀ r k, σ.row r = some k → ∃ v, c.R r = some v ∧ rowOk B σ c w k v
  apart : ∀ x y g, σ.owns c x g → σ.owns c y g → x = y

/-- The blocks and rows that are not yet there have no place. -/
structure Fresh (σ : St) (c : Ct) : Prop where
  β : ∀ p, σ.blks.length ≤ p → c.β p = none
  R : ∀ r, σ.rows.length ≤ r → c.R r = none

theorem slot_set (l : List SV) (d : Nat) (v : SV) (t : Nat) : (l.set d v).getD t .top = if d = t ∧ t < l.length then v else l.getD t .top := by
  simp only [List.getD_eq_getElem?_getD, List.getElem?_set]
  by_cases h : d = t
  · subst h
    by_cases h2 : d < l.length
    · simp [h2]
    · simp [h2]
  · simp [h]
theorem setN_get {α : Type} (d : α) : ∀ (l : List α) (n : Nat) (v : α) (i : Nat), (setN d l n v).getD i d = if i = n then v else l.getD i d
  | _ :: xs, 0, v, 0 => by simp [setN]
  | _ :: xs, 0, v, i + 1 => by simp [setN]
  | [], 0, v, 0 => by simp [setN]
  | [], 0, v, i + 1 => by simp [setN]
  | x :: xs, n + 1, v, 0 => by simp [setN]
  | x :: xs, n + 1, v, i + 1 => by have := setN_get d xs n v i; simp only [setN, List.getD_cons_succ]; rw [this]; simp
  | [], n + 1, v, 0 => by simp [setN]
  | [], n + 1, v, i + 1 => by have := setN_get d [] n v i; simp only [setN, List.getD_cons_succ]; rw [this]; simp
theorem setN_length {α : Type} (d : α) : ∀ (l : List α) (n : Nat) (v : α), (setN d l n v).length = max l.length (n + 1)
  | _ :: xs, 0, v => by simp [setN]
  | [], 0, v => by simp [setN]
  | x :: xs, n + 1, v => by simp only [setN, List.length_cons, setN_length d xs n v]; omega
  | [], n + 1, v => by simp only [setN, List.length_cons, setN_length d [] n v, List.length_nil]; omega

section
variable {B : Nat} {w0 : World} {σ : St} {c : Ct} {a : Act} {w : World}

theorem Good.lt_blk (g : Good B w0 σ c a w) {x : Bool × Nat} {n : Nat} (h : σ.owns c x n) : B ≤ n ∧ n < w.heap.size := by
  obtain ⟨tag, p⟩ := x
  cases tag
  · obtain ⟨⟨k, hk⟩, hb⟩ := h
    obtain ⟨n', cs, e, h1, h2, _⟩ := g.blks p k hk
    rw [hb] at e; cases e
    exact ⟨h1, (Array.getElem?_eq_some_iff.1 h2).1⟩
  · obtain ⟨⟨k, hk, ho⟩, v, hv, hg⟩ := h
    obtain ⟨v', e, a', n', cap, rfl, h1, h2, h3, h4, _⟩ := g.rows p k hk
    rw [hv] at e; cases e
    exact (h4 ho).lt n hg

/-- A slot's new value. -/
theorem Good.put (g : Good B w0 σ c a w) {sv : SV} {v : Value} (h : sv.rel c v) (d : Option Tmp) :
    Good B w0 { σ with slots := match d with | some d => σ.slots.set d sv | none => σ.slots } c (a.put d v) w := by
  cases d with
  | none => exact g
  | some d =>
    refine ⟨g.below, g.hB, g.defers, by simpa [Act.put] using g.size, fun t => ?_, g.blks, fun r k hk => ?_, fun x y n hx hy => ?_⟩
    · show ((σ.slots.set d sv).getD t .top).rel c ((a.tmps.setIfInBounds d v).getD t undef)
      rw [slot_set]
      by_cases ht : d = t ∧ t < σ.slots.length
      · rw [if_pos ht]
        obtain ⟨rfl, hl⟩ := ht
        have : d < a.tmps.size := Nat.lt_of_lt_of_le hl g.size
        simpa [Array.getElem?_setIfInBounds, this] using h
      · rw [if_neg ht]
        by_cases hd : d = t
        · subst hd
          have : σ.slots.getD d .top = .top := by
            have : ¬ d < σ.slots.length := fun h => ht ⟨rfl, h⟩
            simp [List.getD_eq_getElem?_getD, List.getElem?_eq_none (Nat.le_of_not_lt this)]
          rw [this]; trivial
        · have := g.slots t
          simpa [Array.getElem?_setIfInBounds_ne hd, St.slot] using this
    · exact g.rows r k hk
    · exact g.apart x y n (by obtain ⟨t, p⟩ := x; cases t <;> exact hx) (by obtain ⟨t, p⟩ := y; cases t <;> exact hy)

/-- A world in which the blocks of the call's own, and what can be read, are as they were. -/
theorem Good.keep (g : Good B w0 σ c a w) {w' : World} (hb : Below B w0 w') (hs : w.heap.size ≤ w'.heap.size) (hk : ∀ n, n < w.heap.size → w'.heap[n]? = w.heap[n]?) : Good B w0 σ c a w' := by
  refine ⟨hb, Nat.le_trans g.hB hs, g.defers, g.size, g.slots, fun p k hp => ?_, fun r k hr => ?_, g.apart⟩
  · obtain ⟨n, cs, e, h1, h2, h3⟩ := g.blks p k hp
    exact ⟨n, cs, e, h1, by rw [hk n (Array.getElem?_eq_some_iff.1 h2).1]; exact h2, h3⟩
  · obtain ⟨v, e, a', n, cap, rfl, h1, h2, h3, h4, h5⟩ := g.rows r k hr
    refine ⟨_, e, a', n, cap, rfl, h1, h2, h3, fun ho => ?_, fun ho j u hj => ?_⟩
    · obtain ⟨q1, q2⟩ := h4 ho
      refine ⟨q1, q2.imp id ?_⟩
      rintro ⟨g', cap', cur, e1, e2, e3, e4⟩
      exact ⟨g', cap', cur, e1, e2, by rw [hk g' (Array.getElem?_eq_some_iff.1 e3).1]; exact e3, e4⟩
    · obtain ⟨p, o, e1, e2, e3⟩ := h5 ho j u hj
      exact ⟨p, o, e1, by rw [World.cell?_of_block (hk p (World.block_lt_of_cell? w ⟨p, o + j, none⟩ e2))]; exact e2, e3⟩
theorem Good.call (g : Good B w0 σ c a w) {w' : World} (h : Below w.heap.size w w') : Good B w0 σ c a w' :=
  g.keep (g.below.trans (h.mono g.hB)) h.size h.block
theorem Good.drew (g : Good B w0 σ c a w) : Good B w0 σ c a { w with drawn := w.drawn + 1 } :=
  g.keep g.below.drew (Nat.le_refl _) (fun _ _ => rfl)

/-- Over more variables. -/
theorem Good.env (g : Good B w0 σ c a w) (hu : σ.under = true) {ρ' : List Sc} (h : ∀ i, i < σ.nv → ρ'.getD i (.i 0) = c.ρ.getD i (.i 0)) : Good B w0 σ { c with ρ := ρ' } a w := by
  simp only [St.under, Bool.and_eq_true, List.all_eq_true] at hu
  obtain ⟨⟨hs, hbk⟩, hr⟩ := hu
  have hin : ∀ {α : Type} (l : List (Option α)) (p : Nat) (k : α), l.getD p none = some k → some k ∈ l := fun l p k e => by
    rw [List.getD_eq_getElem?_getD] at e
    cases e2 : l[p]? with
    | none => simp [e2] at e
    | some z => simp [e2] at e; subst e; exact List.mem_of_getElem? e2
  refine ⟨g.below, g.hB, g.defers, g.size, fun t => ?_, fun p k hp => ?_, fun r k hk => ?_, g.apart⟩
  · by_cases ht : t < σ.slots.length
    · have : σ.slot t ∈ σ.slots := by unfold St.slot; simp [List.getD_eq_getElem?_getD, List.getElem?_eq_getElem ht]
      exact (SV.rel_env h (hs _ this)).2 (g.slots t)
    · have : σ.slot t = .top := by unfold St.slot; simp [List.getD_eq_getElem?_getD, List.getElem?_eq_none (Nat.le_of_not_lt ht)]
      rw [this]; trivial
  · obtain ⟨n, cs, e, h1, h2, h3⟩ := g.blks p k hp
    refine ⟨n, cs, e, h1, h2, (relL_env h ?_).2 h3⟩
    have := hbk _ (hin _ _ _ hp)
    simpa using this
  · have hku : k.cont.under σ.nv = true := by have := hr _ (hin _ _ _ hk); simpa using this
    obtain ⟨v, e, q⟩ := g.rows r k hk
    refine ⟨v, e, ?_⟩
    unfold rowOk at q ⊢
    have he : k.cont.ev ρ' = k.cont.ev c.ρ := Ex.ev_under h hku
    simp only [he]
    exact q

/-- A new block. -/
theorem Good.alloc (g : Good B w0 σ c a w) {p : Nat} (hp : c.β p = none) {k : Bk} {cs : List Value} (hk : relL c k.cells cs) :
    Good B w0 { σ with blks := setN none σ.blks p (some k) } { c with β := fun i => if i = p then some w.heap.size else c.β i } a (w.alloc (.cells cs.toArray k.ty)) := by
  have hle : c.le { c with β := fun i => if i = p then some w.heap.size else c.β i } := ⟨rfl, rfl, fun i n e => by
    by_cases h : i = p
    · subst h; rw [hp] at e; cases e
    · simp [h, e], fun _ _ e => e⟩
  have hgone : ∀ k', σ.blk p ≠ some k' := fun k' hk' => by obtain ⟨n, cs', e, _⟩ := g.blks p k' hk'; rw [hp] at e; cases e
  have hown : ∀ x n, St.owns { σ with blks := setN none σ.blks p (some k) } { c with β := fun i => if i = p then some w.heap.size else c.β i } x n → (x = (false, p) ∧ n = w.heap.size) ∨ (σ.owns c x n) := by
    rintro ⟨t, q⟩ n h
    cases t
    · obtain ⟨⟨k', hk'⟩, e⟩ := h
      by_cases hq : q = p
      · subst hq; simp at e; exact .inl ⟨rfl, e.symm⟩
      · refine .inr ⟨⟨k', ?_⟩, by simpa [hq] using e⟩
        have : (setN none σ.blks p (some k)).getD q none = some k' := hk'
        rw [setN_get, if_neg hq] at this
        exact this
    · exact .inr h
  refine ⟨g.below.alloc g.hB _, by simp; have := g.hB; omega, g.defers, g.size, fun t => SV.rel_le hle (g.slots t), fun q k' hq => ?_, fun r k' hr => ?_, fun x y n hx hy => ?_⟩
  · have : (setN none σ.blks p (some k)).getD q none = some k' := hq
    rw [setN_get] at this
    by_cases h : q = p
    · rw [if_pos h] at this
      cases this
      exact ⟨w.heap.size, cs, by simp [h], g.hB, heap_alloc_new w _, relL_le hle hk⟩
    · rw [if_neg h] at this
      obtain ⟨n, cs', e, h1, h2, h3⟩ := g.blks q k' this
      exact ⟨n, cs', by simp [h, e], h1, by rw [Below.heap_alloc w _ n (Array.getElem?_eq_some_iff.1 h2).1]; exact h2, relL_le hle h3⟩
  · obtain ⟨v, e, a', n, cap, rfl, h1, h2, h3, h4, h5⟩ := g.rows r k' hr
    refine ⟨_, e, a', n, cap, rfl, h1, h2, h3, fun ho => (h4 ho).alloc _, fun ho j u hj => ?_⟩
    obtain ⟨q, o, e1, e2, e3⟩ := h5 ho j u hj
    have hlt := World.block_lt_of_cell? w ⟨q, o + j, none⟩ e2
    refine ⟨q, o, e1, by rw [World.cell?_of_block (Below.heap_alloc w _ q hlt)]; exact e2, fun x hx => ?_, e3.2⟩
    rcases hown x q hx with ⟨_, h⟩ | h
    · simp at hlt; omega
    · exact e3.1 x h
  · rcases hown x n hx with ⟨ex, e1⟩ | hx <;> rcases hown y n hy with ⟨ey, e2⟩ | hy
    · rw [ex, ey]
    · have := (g.lt_blk hy).2; omega
    · have := (g.lt_blk hx).2; omega
    · exact g.apart x y n hx hy

/-- What was stored into a block of the call's own. -/
theorem Good.store (g : Good B w0 σ c a w) {p n : Nat} {k : Bk} (hp : σ.blk p = some k) (hn : c.β p = some n) {cells : List At} {cs : List Value} (hk : relL c cells cs)
    {w' : World} (hb : Below B w0 w') (hs : w'.heap.size = w.heap.size) (hnew : w'.heap[n]? = some (.cells cs.toArray k.ty (0, 0))) (hold : ∀ m, m ≠ n → w'.heap[m]? = w.heap[m]?) :
    Good B w0 { σ with blks := setN none σ.blks p (some ⟨cells, k.ty⟩) } c a w' := by
  have hown : ∀ x m, St.owns { σ with blks := setN none σ.blks p (some ⟨cells, k.ty⟩) } c x m → σ.owns c x m := by
    rintro ⟨t, q⟩ m h
    cases t
    · obtain ⟨⟨k', hk'⟩, e⟩ := h
      by_cases hq : q = p
      · subst hq; exact ⟨⟨k, hp⟩, e⟩
      · refine ⟨⟨k', ?_⟩, e⟩
        have : (setN none σ.blks p (some ⟨cells, k.ty⟩)).getD q none = some k' := hk'
        rw [setN_get, if_neg hq] at this
        exact this
    · exact h
  have hmine : σ.owns c (false, p) n := ⟨⟨k, hp⟩, hn⟩
  refine ⟨hb, by rw [hs]; exact g.hB, g.defers, g.size, g.slots, fun q k' hq => ?_, fun r k' hr => ?_, fun x y m hx hy => g.apart x y m (hown x m hx) (hown y m hy)⟩
  · have : (setN none σ.blks p (some ⟨cells, k.ty⟩)).getD q none = some k' := hq
    rw [setN_get] at this
    by_cases h : q = p
    · rw [if_pos h] at this
      cases this
      exact ⟨n, cs, h ▸ hn, (g.lt_blk hmine).1, hnew, hk⟩
    · rw [if_neg h] at this
      obtain ⟨m, cs', e, h1, h2, h3⟩ := g.blks q k' this
      refine ⟨m, cs', e, h1, ?_, h3⟩
      have : m ≠ n := fun e' => by
        have := g.apart (false, q) (false, p) n ⟨⟨k', this⟩, e' ▸ e⟩ hmine
        simp at this; exact h this
      rw [hold m this]; exact h2
  · obtain ⟨v, e, a', m, cap, rfl, h1, h2, h3, h4, h5⟩ := g.rows r k' hr
    refine ⟨_, e, a', m, cap, rfl, h1, h2, h3, fun ho => ?_, fun ho j u hj => ?_⟩
    · obtain ⟨q1, q2⟩ := h4 ho
      refine ⟨q1, q2.imp id ?_⟩
      rintro ⟨g', cap', cur, e1, e2, e3, e4⟩
      have : g' ≠ n := fun e' => by
        have := g.apart (true, r) (false, p) n ⟨⟨k', hr, ho⟩, _, e, by rw [e1]; simp [Value.ownBlock, e']⟩ hmine
        cases this
      exact ⟨g', cap', cur, e1, e2, by rw [hold g' this]; exact e3, e4⟩
    · obtain ⟨q, o, e1, e2, e3⟩ := h5 ho j u hj
      have : q ≠ n := fun e' => e3.1 (false, p) (e' ▸ hmine)
      exact ⟨q, o, e1, by rw [World.cell?_of_block (hold q this)]; exact e2, fun x hx => e3.1 x (hown x q hx), e3.2⟩

theorem row_set (l : List (Option Rw)) (r : Nat) (k : Option Rw) (q : Nat) : (setN none l r k).getD q none = if q = r then k else l.getD q none := setN_get none l r k q

/-- A new row: of the call's own, in a new block; or of another's. -/
theorem Good.newRow (g : Good B w0 σ c a w) {w' : World} (hb : Below B w0 w') (hs : w.heap.size ≤ w'.heap.size) (hk : ∀ n, n < w.heap.size → w'.heap[n]? = w.heap[n]?)
    {r : Nat} (hr : c.R r = none) {k : Rw} {ad : Option Addr} {n cap : Nat} (hl : (k.cont.ev c.ρ).list.length = n) (hc : n ≤ cap) (hm : cap ≤ maxLen)
    (hown : k.own = true → w'.ownsRow B k.el k.ks.length (.slice ad n cap) n (rowFlat k.agg k.ks (k.cont.ev c.ρ).list) ∧ ∀ p, Value.ownBlock (.slice ad n cap) = some p → w.heap.size ≤ p)
    (hfr : k.own = false → ∀ j u, (rowFlat k.agg k.ks (k.cont.ev c.ρ).list)[j]? = some u → ∃ p o, ad = some ⟨p, o, none⟩ ∧ w'.cell? ⟨p, o + j, none⟩ = some u ∧ (∀ x, ¬ σ.owns c x p) ∧ (B ≤ p ∨ c.K p)) :
    Good B w0 { σ with rows := setN none σ.rows r (some k) } { c with R := fun i => if i = r then some (.slice ad n cap) else c.R i } a w' := by
  have g' := g.keep hb hs hk
  have hle : c.le { c with R := fun i => if i = r then some (.slice ad n cap) else c.R i } := ⟨rfl, rfl, fun _ _ e => e, fun i v e => by
    by_cases h : i = r
    · subst h; rw [hr] at e; cases e
    · simp [h, e]⟩
  have hrow : ∀ q k', St.row { σ with rows := setN none σ.rows r (some k) } q = some k' → (q = r ∧ k' = k) ∨ (q ≠ r ∧ σ.row q = some k') := fun q k' h => by
    have : (setN none σ.rows r (some k)).getD q none = some k' := h
    rw [row_set] at this
    by_cases h2 : q = r
    · rw [if_pos h2] at this; cases this; exact .inl ⟨h2, rfl⟩
    · rw [if_neg h2] at this; exact .inr ⟨h2, this⟩
  have howns : ∀ x p, St.owns { σ with rows := setN none σ.rows r (some k) } { c with R := fun i => if i = r then some (.slice ad n cap) else c.R i } x p →
      (x = (true, r) ∧ w.heap.size ≤ p) ∨ σ.owns c x p := by
    rintro ⟨t, q⟩ p h
    cases t
    · exact .inr h
    · obtain ⟨⟨k', hk', ho⟩, v, hv, hp⟩ := h
      rcases hrow q k' hk' with ⟨rfl, rfl⟩ | ⟨hq, hk'⟩
      · simp at hv; subst hv; exact .inl ⟨rfl, (hown ho).2 p hp⟩
      · simp [hq] at hv; exact .inr ⟨⟨k', hk', ho⟩, v, hv, hp⟩
  refine ⟨g'.below, g'.hB, g'.defers, g'.size, fun t => SV.rel_le hle (g'.slots t), fun p k' hp => ?_, fun q k' hq => ?_, fun x y p hx hy => ?_⟩
  · obtain ⟨n', cs, e, h1, h2, h3⟩ := g'.blks p k' hp
    exact ⟨n', cs, e, h1, h2, relL_le hle h3⟩
  · rcases hrow q k' hq with ⟨rfl, rfl⟩ | ⟨hq, hk'⟩
    · refine ⟨_, by simp, ad, n, cap, rfl, hl, hc, hm, fun ho => (hown ho).1, fun ho j u hj => ?_⟩
      obtain ⟨p, o, e1, e2, e3⟩ := hfr ho j u hj
      refine ⟨p, o, e1, e2, fun x hx => ?_, e3.2⟩
      rcases howns x p hx with ⟨rfl, _⟩ | hx
      · obtain ⟨⟨k', hk', ho'⟩, _⟩ := hx
        rcases hrow q k' hk' with ⟨_, rfl⟩ | ⟨h, _⟩
        · rw [ho] at ho'; cases ho'
        · exact h rfl
      · exact e3.1 x hx
    · obtain ⟨v, e, a', n', cap', rfl, h1, h2, h3, h4, h5⟩ := g.rows q k' hk'
      obtain ⟨v2, e', a2, n2, cap2, rfl, i1, i2, i3, i4, i5⟩ := g'.rows q k' hk'
      rw [e] at e'; cases e'
      refine ⟨_, by simp [hq, e], a', n', cap', rfl, h1, h2, h3, i4, fun ho j u hj => ?_⟩
      obtain ⟨p, o, e1, e2, e3⟩ := h5 ho j u hj
      have hlt := World.block_lt_of_cell? w ⟨p, o + j, none⟩ e2
      obtain ⟨p', o', f1, f2, f3⟩ := i5 ho j u hj
      rw [e1] at f1; cases f1
      refine ⟨p, o, e1, f2, fun x hx => ?_, e3.2⟩
      rcases howns x p hx with ⟨_, h⟩ | hx
      · simp at hlt; omega
      · exact e3.1 x hx
  · rcases howns x p hx with ⟨ex, e1⟩ | hx <;> rcases howns y p hy with ⟨ey, e2⟩ | hy
    · rw [ex, ey]
    · have := (g.lt_blk hy).2; omega
    · have := (g.lt_blk hx).2; omega
    · exact g.apart x y p hx hy

/-- A row that is handed on: read alone from now on. -/
theorem Good.freeze (g : Good B w0 σ c a w) {r : Nat} {k : Rw} (hr : σ.row r = some k) : Good B w0 { σ with rows := setN none σ.rows r (some { k with own := false }) } c a w := by
  have hrow : ∀ q k', St.row { σ with rows := setN none σ.rows r (some { k with own := false }) } q = some k' → (q = r ∧ k' = { k with own := false }) ∨ (q ≠ r ∧ σ.row q = some k') := fun q k' h => by
    have : (setN none σ.rows r (some { k with own := false })).getD q none = some k' := h
    rw [row_set] at this
    by_cases h2 : q = r
    · rw [if_pos h2] at this; cases this; exact .inl ⟨h2, rfl⟩
    · rw [if_neg h2] at this; exact .inr ⟨h2, this⟩
  have howns : ∀ x p, St.owns { σ with rows := setN none σ.rows r (some { k with own := false }) } c x p → x ≠ (true, r) ∧ σ.owns c x p := by
    rintro ⟨t, q⟩ p h
    cases t
    · exact ⟨by simp, h⟩
    · obtain ⟨⟨k', hk', ho⟩, v, hv, hp⟩ := h
      rcases hrow q k' hk' with ⟨rfl, rfl⟩ | ⟨hq, hk'⟩
      · cases ho
      · exact ⟨by simp [hq], ⟨k', hk', ho⟩, v, hv, hp⟩
  refine ⟨g.below, g.hB, g.defers, g.size, g.slots, g.blks, fun q k' hq => ?_, fun x y p hx hy => g.apart x y p (howns x p hx).2 (howns y p hy).2⟩
  rcases hrow q k' hq with ⟨rfl, rfl⟩ | ⟨hq, hk'⟩
  · obtain ⟨v, e, a', n, cap, rfl, h1, h2, h3, h4, h5⟩ := g.rows q k hr
    refine ⟨_, e, a', n, cap, rfl, h1, h2, h3, (fun h => by cases h), fun _ j u hj => ?_⟩
    cases ho : k.own
    · obtain ⟨p, o, e1, e2, e3⟩ := h5 ho j u hj
      exact ⟨p, o, e1, e2, fun x hx => e3.1 x (howns x p hx).2, e3.2⟩
    · have hw := h4 ho
      rcases hw.2 with ⟨hv, hn⟩ | ⟨p, cap', cur, hv, hbp, _⟩
      · cases hv
        have := hw.1
        rw [hn, Nat.zero_mul] at this
        have hz := List.eq_nil_of_length_eq_zero this
        simp only at hj
        rw [hz] at hj; simp at hj
      · cases hv
        have := hw.cells (g := p) rfl j u hj
        refine ⟨p, 0, rfl, by simpa [Addr.add] using (by
          have h0 : (⟨p, 0, none⟩ : Addr).add j = ⟨p, 0 + j, none⟩ := by unfold Addr.add; split <;> simp_all
          rw [h0] at this; simpa using this), fun x hx => ?_, .inl hbp⟩
        have := howns x p hx
        exact this.1 (g.apart x (true, q) p this.2 ⟨⟨k, hr, ho⟩, _, e, rfl⟩)
  · obtain ⟨v, e, a', n, cap, rfl, h1, h2, h3, h4, h5⟩ := g.rows q k' hk'
    exact ⟨_, e, a', n, cap, rfl, h1, h2, h3, h4, fun ho j u hj => by
      obtain ⟨p, o, e1, e2, e3⟩ := h5 ho j u hj
      exact ⟨p, o, e1, e2, fun x hx => e3.1 x (howns x p hx).2, e3.2⟩⟩

/-- What is written into, or put at the end of, a row of the call's own: the new row takes its place (r' = r: the same slice value). -/
theorem Good.turnRow (g : Good B w0 σ c a w) {r : Nat} {k : Rw} (hr : σ.row r = some k) (ho : k.own = true) {v : Value} (hv : c.R r = some v)
    {w' : World} (hg : w.grownBy w' v.ownBlock) {r' : Nat} {k' : Rw} (ho' : k'.own = true) {ad : Option Addr} {n cap : Nat} (hl : (k'.cont.ev c.ρ).list.length = n) (hc : n ≤ cap) (hm : cap ≤ maxLen)
    (hrow' : w'.ownsRow B k'.el k'.ks.length (.slice ad n cap) n (rowFlat k'.agg k'.ks (k'.cont.ev c.ρ).list))
    (hblk : Value.ownBlock (.slice ad n cap) = v.ownBlock ∨ ∀ p, Value.ownBlock (.slice ad n cap) = some p → w.heap.size ≤ p)
    (hr' : c.R r' = none ∨ (r' = r ∧ v = .slice ad n cap)) :
    Good B w0 { σ with rows := setN none (setN none σ.rows r none) r' (some k') } { c with R := fun i => if i = r' then some (.slice ad n cap) else c.R i } a w' := by
  have hle : c.le { c with R := fun i => if i = r' then some (.slice ad n cap) else c.R i } := ⟨rfl, rfl, fun _ _ e => e, fun i u e => by
    by_cases h : i = r'
    · subst h
      rcases hr' with h | ⟨h1, h2⟩
      · rw [h] at e; cases e
      · subst h1; rw [hv] at e; cases e; simp [h2]
    · simp [h, e]⟩
  have hmine : ∀ p, v.ownBlock = some p → σ.owns c (true, r) p := fun p hp => ⟨⟨k, hr, ho⟩, v, hv, hp⟩
  have hrow : ∀ q k2, St.row { σ with rows := setN none (setN none σ.rows r none) r' (some k') } q = some k2 → (q = r' ∧ k2 = k') ∨ (q ≠ r' ∧ q ≠ r ∧ σ.row q = some k2) := fun q k2 h => by
    have : (setN none (setN none σ.rows r none) r' (some k')).getD q none = some k2 := h
    rw [row_set, row_set] at this
    by_cases h2 : q = r'
    · rw [if_pos h2] at this; cases this; exact .inl ⟨h2, rfl⟩
    · rw [if_neg h2] at this
      by_cases h3 : q = r
      · rw [if_pos h3] at this; cases this
      · rw [if_neg h3] at this; exact .inr ⟨h2, h3, this⟩
  have howns : ∀ x p, St.owns { σ with rows := setN none (setN none σ.rows r none) r' (some k') } { c with R := fun i => if i = r' then some (.slice ad n cap) else c.R i } x p →
      (x = (true, r') ∧ (v.ownBlock = some p ∨ w.heap.size ≤ p)) ∨ (x ≠ (true, r) ∧ σ.owns c x p) := by
    rintro ⟨t, q⟩ p h
    cases t
    · exact .inr ⟨by simp, h⟩
    · obtain ⟨⟨k2, hk2, ho2⟩, u, hu, hp⟩ := h
      rcases hrow q k2 hk2 with ⟨rfl, rfl⟩ | ⟨hq, hq2, hk2⟩
      · simp at hu; subst hu
        refine .inl ⟨rfl, ?_⟩
        rcases hblk with h | h
        · exact .inl (h ▸ hp)
        · exact .inr (h p hp)
      · simp [hq] at hu; exact .inr ⟨by simp [hq2], ⟨k2, hk2, ho2⟩, u, hu, hp⟩
  have hbelow : Below B w0 w' := g.below.grown hg g.hB (fun p hp => (g.lt_blk (hmine p hp)).1)
  refine ⟨hbelow, Nat.le_trans g.hB hg.size, g.defers, g.size, fun t => SV.rel_le hle (g.slots t), fun p k2 hp => ?_, fun q k2 hq => ?_, fun x y p hx hy => ?_⟩
  · obtain ⟨m, cs, e, h1, h2, h3⟩ := g.blks p k2 hp
    refine ⟨m, cs, e, h1, ?_, relL_le hle h3⟩
    rw [hg.block m (Array.getElem?_eq_some_iff.1 h2).1 (fun e' => by
      have := g.apart (false, p) (true, r) m ⟨⟨k2, hp⟩, e⟩ (hmine m e'.symm)
      cases this)]
    exact h2
  · rcases hrow q k2 hq with ⟨rfl, rfl⟩ | ⟨hq, hq2, hk2⟩
    · exact ⟨_, by simp, ad, n, cap, rfl, hl, hc, hm, fun _ => hrow', fun h => by rw [ho'] at h; cases h⟩
    · obtain ⟨u, e, a', m, cap', rfl, h1, h2, h3, h4, h5⟩ := g.rows q k2 hk2
      refine ⟨_, by simp [hq, e], a', m, cap', rfl, h1, h2, h3, fun ho2 => ?_, fun ho2 j u hj => ?_⟩
      · refine (h4 ho2).kept hg ?_
        cases hb2 : Value.ownBlock (.slice a' m cap') with
        | none => exact .inl rfl
        | some p =>
          refine .inr fun e' => ?_
          have := g.apart (true, q) (true, r) p ⟨⟨k2, hk2, ho2⟩, _, e, hb2⟩ (hmine p e'.symm)
          simp at this; exact hq2 this
      · obtain ⟨p, o, e1, e2, e3⟩ := h5 ho2 j u hj
        have hlt := World.block_lt_of_cell? w ⟨p, o + j, none⟩ e2
        refine ⟨p, o, e1, by rw [World.cell?_of_block (hg.block p hlt (fun e' => e3.1 _ (hmine p e'.symm)))]; exact e2, fun x hx => ?_, e3.2⟩
        rcases howns x p hx with ⟨_, h | h⟩ | ⟨_, hx⟩
        · exact e3.1 _ (hmine p h)
        · simp at hlt; omega
        · exact e3.1 x hx
  · rcases howns x p hx with ⟨ex, e1⟩ | ⟨nx, hx⟩ <;> rcases howns y p hy with ⟨ey, e2⟩ | ⟨ny, hy⟩
    · rw [ex, ey]
    · rcases e1 with h | h
      · exact absurd (g.apart _ _ p hy (hmine p h)) ny
      · have := (g.lt_blk hy).2; omega
    · rcases e2 with h | h
      · exact absurd (g.apart _ _ p hx (hmine p h)) nx
      · have := (g.lt_blk hx).2; omega
    · exact g.apart x y p hx hy
end
end Go.Proofs.YtkjgcalkkfgmlaaDoor
namespace Go.Proofs.YtkjgcalkkfgmlaaDoor
open Go.RowKit

theorem bytes_back (l : List UInt8) : (l.map UInt8.toNat).map UInt8.ofNat = l := by
  induction l with
  | nil => rfl
  | cons x xs ih => simp only [List.map_cons, ih]; simp
theorem atOf_rel {c : Ct} : ∀ {v : Value} {x : At}, atOf v = some x → x.rel c v := by
  intro v x h
  unfold atOf at h
  split at h <;> cases h
  · rfl
  · rfl
  · simp only [At.rel, Ex.ev, Sc.str, bytes_back]
  · rfl
  · rfl
theorem atsOf_rel {c : Ct} : ∀ {vs : List Value} {xs : List At}, atsOf vs = some xs → relL c xs vs
  | [], xs, h => by simp [atsOf] at h; subst h; trivial
  | v :: vs, xs, h => by
    unfold atsOf at h
    split at h
    · rename_i x xs' h1 h2
      cases h
      exact ⟨atOf_rel h1, atsOf_rel h2⟩
    · cases h
theorem svOf_rel {c : Ct} {v : Value} {s : SV} (h : svOf v = some s) : s.rel c v := by
  unfold svOf at h
  split at h
  · rename_i cs
    cases h1 : atsOf cs.toList with
    | none => simp [h1] at h
    | some xs => simp [h1] at h; subst h; exact ⟨cs.toList, by simp, atsOf_rel h1⟩
  · rename_i vs
    split at h
    · rename_i h1
      cases h
      exact ⟨[], by rw [← h1], trivial⟩
    · cases h
  · simp only [Option.map_eq_some_iff] at h
    obtain ⟨x, h1, rfl⟩ := h
    exact atOf_rel h1

structure RdOk (σ : St) (c : Ct) (a : Act) (rd : Rd) : Prop where
  ev : ∀ x, (rd.ev x).rel c (a.eval x)
  blk : ∀ p k, rd.blk p = some k → σ.blk p = some k
  row : ∀ p k, rd.row p = some k → σ.row p = some k
theorem evS_rel {c : Ct} {a : Act} {slot : Nat → SV} (h : ∀ t, (slot t).rel c (a.tmps.getD t undef)) (x : Operand) : (evS slot x).rel c (a.eval x) := by
  cases x with
  | tmp t => exact h t
  | const v =>
    simp only [evS]
    cases hv : svOf v with
    | none => trivial
    | some s => exact svOf_rel hv
  | global _ => trivial
  | func f => exact ⟨[], rfl, rfl⟩
theorem rdOf_ok {B : Nat} {w0 : World} {σ : St} {c : Ct} {a : Act} {w : World} (g : Good B w0 σ c a w) (ts ds : List Tmp) (nv nb nr : Nat) : RdOk σ c a (rdOf σ.slot σ.blk σ.row ts ds nv nb nr) := by
  refine ⟨fun x => evS_rel (fun t => ?_) x, fun p k h => ?_, fun p k h => ?_⟩
  · cases hasN ts t
    · trivial
    · exact g.slots t
  · simp only [rdOf] at h
    cases hh : hasN (ds.flatMap fun t => (σ.slot t).bids) p <;> rw [hh] at h <;> simp at h
    exact h
  · simp only [rdOf] at h
    cases hh : hasN (ds.flatMap fun t => (σ.slot t).rids) p <;> rw [hh] at h <;> simp at h
    exact h

def Does (P : Program) (B : Nat) (w0 : World) (σ : St) (c : Ct) (a : Act) (w : World) (o : Oper) (r : OpR) : Prop :=
  ∃ nx w' v c', (execOp a.eval o).run P w = .ok nx w' ∧ (nx = .value v ∨ (nx = .skip ∧ v = undef)) ∧ c.le c' ∧ (∀ i, i ∉ r.nb → c'.β i = c.β i) ∧ (∀ i, i ∉ r.nr → c'.R i = c.R i) ∧
    r.val.rel c' v ∧ Good B w0 { σ with blks := putBlks σ.blks r.blks, rows := putRows σ.rows r.rows } c' a w'

section
variable {P : Program} {B : Nat} {w0 : World} {σ : St} {c : Ct} {a : Act} {w : World} {o : Oper} {rd : Rd}
theorem Does.quiet (g : Good B w0 σ c a w) {sv : SV} {v : Value} {needs : List Ex} (hr : (execOp a.eval o).run P w = .ok (.value v) w) (hv : sv.rel c v) :
    Does P B w0 σ c a w o ⟨needs, none, sv, [], [], [], []⟩ := ⟨_, w, v, c, hr, .inl rfl, .refl c, fun _ _ => rfl, fun _ _ => rfl, hv, g⟩

theorem run_isAggB {ty : TypeId} {b : Bool} (h : isAggB P ty = some b) (w : World) : (isAgg ty).run P w = .ok b w := by
  unfold isAggB at h
  unfold isAgg
  split at h
  · rename_i h1; cases h; simp [run_underlying h1]
  · rename_i h1; cases h; simp [run_underlying h1]
  · rename_i d h1 h2 h3
    cases h
    rw [Sem.run_bind, run_underlying h3 w]
    simp only [Result.andThen_ok]
    rfl
  · cases h
theorem run_sizeB {ty : TypeId} {n : Nat} (h : sizeB P ty = some n) (w : World) : (sizeOf ty).run P w = .ok n w := by
  unfold sizeB at h
  cases hi : P.info? ty with
  | none => simp [hi] at h
  | some i => simp [hi] at h; simp [sizeOf, typeInfo, hi, h]

theorem takeL_rel : ∀ {xs : List At} {vs : List Value} {off n : Nat} {ys : List At}, takeL xs off n = some ys → relL c xs vs → relL c ys ((vs.drop off).take n) ∧ ((vs.drop off).take n).length = n
  | xs, vs, 0, 0, ys, h, _ => by simp [takeL] at h; subst h; simp [relL]
  | [], vs, 0, n + 1, ys, h, _ => by simp [takeL] at h
  | [], vs, o + 1, n, ys, h, _ => by simp [takeL] at h
  | x :: xs, [], _, _, _, _, hr => hr.elim
  | x :: xs, v :: vs, 0, n + 1, ys, h, hr => by
    simp only [takeL] at h
    cases h1 : takeL xs 0 n with
    | none => simp [h1] at h
    | some zs =>
      simp [h1] at h; subst h
      have := takeL_rel h1 hr.2
      simp only [List.drop_zero] at this
      exact ⟨⟨hr.1, this.1⟩, by simp [this.2]⟩
  | x :: xs, v :: vs, o + 1, n, ys, h, hr => by
    simp only [takeL] at h
    simpa using takeL_rel h hr.2

theorem part_run {ty : TypeId} {cs : List At} {off : Nat} {sv : SV} (h : part? P ty cs off = some sv) {vs : List Value} (hr : relL c cs vs) (w : World) :
    ∃ v, (part ty vs.toArray off).run P w = .ok v w ∧ sv.rel c v := by
  unfold part? at h
  split at h
  · rename_i n h1 h2
    cases h3 : takeL cs off n with
    | none => simp [h3] at h
    | some ys =>
      simp [h3] at h; subst h
      obtain ⟨q1, q2⟩ := takeL_rel h3 hr
      refine ⟨.agg ((vs.drop off).take n).toArray, ?_, _, rfl, q1⟩
      simp [part, run_isAggB h1, run_sizeB h2]
  · rename_i h1
    cases h3 : cs[off]? with
    | none => simp [h3] at h
    | some x =>
      simp [h3] at h; subst h
      obtain ⟨v, q1, q2⟩ := relL_get hr h3
      exact ⟨v, by simp [part, run_isAggB h1, q1], q2⟩
  · cases h

/-- A variable in a row of cells that can be read. -/
theorem loadVar_run {ty : TypeId} {cs : List At} {off : Nat} {sv : SV} (h : part? P ty cs off = some sv) {vs : List Value} (hr : relL c cs vs) {n base : Nat} (hc : ∀ j v, vs[j]? = some v → w.cell? ⟨n, base + j, none⟩ = some v) :
    ∃ v, (loadVar ty ⟨n, base + off, none⟩).run P w = .ok v w ∧ sv.rel c v := by
  unfold part? at h
  split at h
  · rename_i m h1 h2
    cases h3 : takeL cs off m with
    | none => simp [h3] at h
    | some ys =>
      simp [h3] at h; subst h
      obtain ⟨q1, q2⟩ := takeL_rel h3 hr
      refine ⟨.agg ((vs.drop off).take m).toArray, ?_, _, rfl, q1⟩
      have hl : (loadCells ⟨n, base + off, none⟩ m).run P w = .ok ((vs.drop off).take m).toArray w := by
        have := run_loadCells_list (P := P) w ⟨n, base + off, none⟩ ((vs.drop off).take m) (fun j v hv => by
          rw [List.getElem?_take] at hv
          split at hv
          · rw [List.getElem?_drop] at hv
            have h4 := hc _ _ hv
            have h5 : (⟨n, base + off, none⟩ : Addr).add j = ⟨n, base + (off + j), none⟩ := by unfold Addr.add; split <;> simp_all <;> omega
            rw [h5]; exact h4
          · cases hv)
        rw [q2] at this
        exact this
      simp [loadVar, run_isAggB h1, run_sizeB h2, hl]
  · rename_i h1
    cases h3 : cs[off]? with
    | none => simp [h3] at h
    | some x =>
      simp [h3] at h; subst h
      obtain ⟨v, q1, q2⟩ := relL_get hr h3
      refine ⟨v, ?_, q2⟩
      have := hc off v q1
      simp [loadVar, run_isAggB h1, load, Sem.run, this]
  · cases h

theorem ckAts_rel (e : Ex) : ∀ (ks : List CK) (n : Nat), relL c (ckAts e ks n) (elVals (e.ev c.ρ) ks n)
  | [], _ => trivial
  | k :: ks, n => by
    refine ⟨?_, ckAts_rel e ks (n + 1)⟩
    cases k <;> simp [ckAt, At.rel, CK.val, mk1_ev, U1.ev]
theorem cellsOf_rel (agg : Bool) (ks : List CK) (e : Ex) : relL c (cellsOf agg ks e) (elCells agg ks (e.ev c.ρ)) := by
  unfold cellsOf elCells
  cases agg
  · match ks with
    | [] => trivial
    | [k] => refine ⟨?_, trivial⟩; cases k <;> rfl
    | _ :: _ :: _ => trivial
  · exact ckAts_rel e ks 0
theorem elVals_length (x : Sc) : ∀ (ks : List CK) (n : Nat), (elVals x ks n).length = ks.length
  | [], _ => rfl
  | k :: ks, n => by simp [elVals, elVals_length x ks]
/-- Rows of elements whose cells' number is known. -/
def okForm (agg : Bool) (ks : List CK) : Prop := agg = true ∨ ks.length = 1
theorem elCells_length {agg : Bool} {ks : List CK} (h : okForm agg ks) (x : Sc) : (elCells agg ks x).length = ks.length := by
  unfold elCells
  cases agg
  · match ks, h with
    | [k], _ => rfl
    | [], h => rcases h with h | h <;> simp at h
    | _ :: _ :: _, h => rcases h with h | h <;> simp at h
  · exact elVals_length x ks 0
theorem flat_get {agg : Bool} {ks : List CK} (h : okForm agg ks) : ∀ (l : List Sc) (i j : Nat) (u : Value), i < l.length → (elCells agg ks (l.getD i (.i 0)))[j]? = some u → (rowFlat agg ks l)[i * ks.length + j]? = some u
  | [], i, _, _, hi, _ => by simp at hi
  | x :: l, 0, j, u, _, hu => by
    simp only [List.getD_cons_zero] at hu
    have hj : j < (elCells agg ks x).length := (List.getElem?_eq_some_iff.1 hu).1
    simp only [rowFlat, List.flatMap_cons, Nat.zero_mul, Nat.zero_add]
    rw [List.getElem?_append_left hj]; exact hu
  | x :: l, i + 1, j, u, hi, hu => by
    have ih := flat_get h l i j u (by simpa using hi) (by simpa using hu)
    simp only [rowFlat, List.flatMap_cons]
    rw [List.getElem?_append_right (by rw [elCells_length h]; rw [Nat.add_mul]; omega), elCells_length h]
    rw [show (i + 1) * ks.length + j - ks.length = i * ks.length + j by rw [Nat.add_mul]; omega]
    exact ih
theorem flat_length {agg : Bool} {ks : List CK} (h : okForm agg ks) (l : List Sc) : (rowFlat agg ks l).length = l.length * ks.length := by
  induction l with
  | nil => simp [rowFlat]
  | cons x l ih => simp only [rowFlat, List.flatMap_cons, List.length_append, elCells_length h, List.length_cons] at ih ⊢; rw [ih, Nat.add_mul]; omega
theorem flat_append (agg : Bool) (ks : List CK) (l m : List Sc) : rowFlat agg ks (l ++ m) = rowFlat agg ks l ++ rowFlat agg ks m := by simp [rowFlat]
theorem elVals_one (x : Sc) : ∀ (ks : List CK) (n : Nat), ∀ u ∈ elVals x ks n, u.oneCell' = true
  | [], _, u, h => by simp [elVals] at h
  | k :: ks, n, u, h => by
    simp only [elVals, List.mem_cons] at h
    rcases h with rfl | h
    · cases k <;> rfl
    · exact elVals_one x ks (n + 1) u h
theorem flat_one (agg : Bool) (ks : List CK) (l : List Sc) : ∀ u ∈ rowFlat agg ks l, u.oneCell' = true := by
  intro u h
  simp only [rowFlat, List.mem_flatMap] at h
  obtain ⟨x, _, h⟩ := h
  unfold elCells at h
  split at h
  · exact elVals_one x _ 0 u h
  · rename_i k; simp at h; subst h; cases k <;> rfl
  · simp at h
end
end Go.Proofs.YtkjgcalkkfgmlaaDoor
namespace Go.Proofs.YtkjgcalkkfgmlaaDoor
open Go.RowKit

theorem okForm_of {agg : Bool} {ks : List CK} (h : okFormB agg ks = true) : okForm agg ks ∧ 0 < ks.length := by
  unfold okFormB at h
  split at h
  · cases h
  · exact ⟨.inr rfl, by simp⟩
  · rename_i h1 h2
    refine ⟨.inl h, ?_⟩
    cases ks with
    | nil => exact absurd rfl h1
    | cons => simp
section
variable {P : Program} {B : Nat} {w0 : World} {σ : St} {c : Ct} {a : Act} {w : World} {o : Oper} {rd : Rd}

theorem wrap_in {z : Int} (h1 : -9223372036854775808 ≤ z) (h2 : z < 9223372036854775808) : IntKind.i64.wrap z = z := by
  exact IntWalk.i64_in z (by omega)

/-- A row can be read. -/
theorem Good.read (g : Good B w0 σ c a w) {r : Nat} {k : Rw} (hr : σ.row r = some k) :
    ∃ ad n cap, c.R r = some (.slice ad n cap) ∧ (k.cont.ev c.ρ).list.length = n ∧ n ≤ cap ∧ cap ≤ maxLen ∧
      ∀ j u, (rowFlat k.agg k.ks (k.cont.ev c.ρ).list)[j]? = some u → ∃ p o, ad = some ⟨p, o, none⟩ ∧ w.cell? ⟨p, o + j, none⟩ = some u ∧ (k.own = false → (∀ x, ¬ σ.owns c x p) ∧ (B ≤ p ∨ c.K p)) := by
  obtain ⟨v, e, ad, n, cap, rfl, h1, h2, h3, h4, h5⟩ := g.rows r k hr
  refine ⟨ad, n, cap, e, h1, h2, h3, fun j u hj => ?_⟩
  cases ho : k.own
  · obtain ⟨p, o, e1, e2, e3⟩ := h5 ho j u hj
    exact ⟨p, o, e1, e2, fun _ => e3⟩
  · have hw := h4 ho
    rcases hw.2 with ⟨hv, hn⟩ | ⟨p, cap', cur, hv, _, _⟩
    · cases hv
      have := hw.1
      rw [hn, Nat.zero_mul] at this
      rw [List.eq_nil_of_length_eq_zero this] at hj; simp at hj
    · cases hv
      have := hw.cells (g := p) rfl j u hj
      have h0 : (⟨p, 0, none⟩ : Addr).add j = ⟨p, 0 + j, none⟩ := by unfold Addr.add; split <;> simp_all
      rw [h0] at this
      exact ⟨p, 0, rfl, this, fun h => by cases h⟩

theorem flat_sub {agg : Bool} {ks : List CK} (h : okForm agg ks) (l : List Sc) (lo n : Nat) (j : Nat) (u : Value) (hu : (rowFlat agg ks ((l.take (lo + n)).drop lo))[j]? = some u) : (rowFlat agg ks l)[lo * ks.length + j]? = some u := by
  have e : l = l.take lo ++ ((l.take (lo + n)).drop lo ++ l.drop (lo + n)) := by
    conv => lhs; rw [← List.take_append_drop (lo + n) l]
    have : l.take (lo + n) = l.take lo ++ (l.take (lo + n)).drop lo := by
      conv => lhs; rw [← List.take_append_drop lo (l.take (lo + n))]
      rw [List.take_take, Nat.min_eq_left (by omega)]
    conv => lhs; rw [this]
    simp
  by_cases hl : lo ≤ l.length
  · rw [e, flat_append, flat_append, List.getElem?_append_right (by rw [flat_length h]; simp [Nat.min_eq_left hl]), flat_length h]
    rw [show lo * ks.length + j - (l.take lo).length * ks.length = j by simp [Nat.min_eq_left hl]]
    have hj := (List.getElem?_eq_some_iff.1 hu).1
    rw [List.getElem?_append_left hj]; exact hu
  · rw [List.drop_eq_nil_of_le (by simp; omega)] at hu; simp [rowFlat] at hu

/-- A slice, as the run knows it. -/
theorem sliceOf_spec (g : Good B w0 σ c a w) {row : Nat → Option Rw} (hrow : ∀ p k, row p = some k → σ.row p = some k) {sv : SV} {src : Option (Nat × Rw)} {lo len : Ex} (h : sliceOf row sv = some (src, lo, len)) {v : Value} (hv : sv.rel c v) :
    ∃ ad n cap, v = .slice ad n cap ∧ (len.ev c.ρ).int = n ∧ 0 ≤ (lo.ev c.ρ).int ∧ n ≤ cap ∧ cap ≤ maxLen ∧ ((contOf sv src lo len).ev c.ρ).list.length = n ∧
      match src with
      | none => ad = none ∧ n = 0 ∧ cap = 0 ∧ sv = .at .nils
      | some (r, k) => row r = some k ∧ σ.row r = some k ∧ okForm k.agg k.ks ∧ 0 < k.ks.length ∧ (sv = .at (.vec r) ∨ ∃ es lo len, sv = .at (.sl r es lo len)) ∧ (lo.ev c.ρ).int + n ≤ (k.cont.ev c.ρ).list.length ∧
          ((contOf sv src lo len).ev c.ρ).list = (((k.cont.ev c.ρ).list.take ((lo.ev c.ρ).int.toNat + n)).drop (lo.ev c.ρ).int.toNat) ∧
          (sv = .at (.vec r) → lo = .i 0 ∧ c.R r = some v) ∧
          (0 < n → ∃ p o m cap', c.R r = some (.slice (some ⟨p, o, none⟩) m cap') ∧ m = (k.cont.ev c.ρ).list.length ∧ ad = some ⟨p, o + (lo.ev c.ρ).int.toNat * k.ks.length, none⟩) ∧
          ∀ j u, (rowFlat k.agg k.ks ((contOf sv src lo len).ev c.ρ).list)[j]? = some u → ∃ p o, ad = some ⟨p, o, none⟩ ∧ w.cell? ⟨p, o + j, none⟩ = some u ∧ (k.own = false → (∀ x, ¬ σ.owns c x p) ∧ (B ≤ p ∨ c.K p)) := by
  rcases sv with (x | cs) | xs
  case c.g => simp [sliceOf] at h
  case t => simp [sliceOf] at h
  cases x <;> try (simp [sliceOf] at h; done)
  case vec r =>
    cases hk : row r with
    | none => simp [sliceOf, hk] at h
    | some k =>
      by_cases hf : okFormB k.agg k.ks = true
      · simp [sliceOf, hk, hf] at h
        obtain ⟨rfl, rfl, rfl⟩ := h
        obtain ⟨hok, hpos⟩ := okForm_of hf
        have hk2 := hrow _ _ hk
        obtain ⟨ad, n, cap, e, h1, h2, h3, h4⟩ := g.read hk2
        have e2 : c.R r = some v := hv.1
        rw [e] at e2; cases e2
        have hc : (contOf (.c (.a (.vec r))) (some (r, k)) (.i 0) (mk1 .len k.cont)) = k.cont := rfl
        refine ⟨ad, n, cap, rfl, by rw [mk1_ev]; simp [U1.ev, Sc.int, h1], by simp [Ex.ev, Sc.int], h2, h3, by rw [hc]; exact h1, hk, hk2, hok, hpos, .inl rfl, by simp [Ex.ev, Sc.int, h1], ?_, fun _ => ⟨rfl, e⟩, ?_, by rw [hc]; exact h4⟩
        · rw [hc]; simp [Ex.ev, Sc.int, ← h1]
        · intro hn
          have hne : 0 < (rowFlat k.agg k.ks (k.cont.ev c.ρ).list).length := by rw [flat_length hok, h1]; exact Nat.mul_pos hn hpos
          obtain ⟨p, o, e1, _⟩ := h4 0 _ (List.getElem?_eq_getElem hne)
          exact ⟨p, o, n, cap, by rw [e, e1], h1.symm, by simp [e1, Ex.ev, Sc.int]⟩
      · simp [sliceOf, hk, hf] at h
  case sl r es lo' len' =>
    cases hk : row r with
    | none => simp [sliceOf, hk] at h
    | some k =>
      by_cases hf : es = k.ks.length ∧ okFormB k.agg k.ks = true
      · simp [sliceOf, hk, hf] at h
        obtain ⟨rfl, hlo, hlen⟩ := h
        obtain rfl : lo = lo' := hlo.symm
        obtain rfl : len = len' := hlen.symm
        obtain ⟨rfl, hf⟩ := hf
        obtain ⟨hok, hpos⟩ := okForm_of hf
        have hk2 := hrow _ _ hk
        obtain ⟨ad, n, cap, e, h1, h2, h3, h4⟩ := g.read hk2
        obtain ⟨a1, n1, cap1, a', cap', q1, rfl, q2, q3, q4, q5, q6, q7⟩ := hv
        rw [e] at q1; cases q1
        have hadd : IntKind.i64.wrap ((lo.ev c.ρ).int + (len.ev c.ρ).int) = (lo.ev c.ρ).int + (len.ev c.ρ).int := wrap_in (by omega) (by simp only [maxLen] at h3; omega)
        have hL : ((contOf (.c (.a (.sl r k.ks.length lo len))) (some (r, k)) lo len).ev c.ρ).list = (((k.cont.ev c.ρ).list.take ((lo.ev c.ρ).int.toNat + (len.ev c.ρ).int.toNat)).drop (lo.ev c.ρ).int.toNat) := by
          simp only [contOf, mk3_ev, mk2_ev, U3.ev, U2.ev, Sc.list_l, Sc.int_i]
          rw [hadd, Int.toNat_add q2 q3]
        refine ⟨a', (len.ev c.ρ).int.toNat, cap', rfl, by omega, q2, by omega, q6, ?_, hk, hk2, hok, hpos, .inr ⟨_, _, _, rfl⟩, by omega, hL, (fun h => by cases h), ?_, ?_⟩
        · rw [hL]; simp; omega
        · intro hn
          obtain ⟨p, o, e1, e2⟩ := q7 (by omega)
          exact ⟨p, o, n, cap, by rw [e, e1], h1.symm, e2⟩
        · intro j u hu
          rw [hL] at hu
          have hu2 := flat_sub hok _ _ _ _ _ hu
          obtain ⟨p, o, e1, e2, e3⟩ := h4 _ _ hu2
          have hn : 0 < (len.ev c.ρ).int := by
            rcases Int.lt_or_le 0 (len.ev c.ρ).int with h | h
            · exact h
            · have : (len.ev c.ρ).int.toNat = 0 := by omega
              rw [this, Nat.add_zero, List.drop_eq_nil_of_le (by rw [List.length_take]; omega)] at hu
              simp [rowFlat] at hu
          obtain ⟨p', o', f1, f2⟩ := q7 hn
          rw [e1] at f1; cases f1
          exact ⟨p, _, f2, by rw [Nat.add_assoc]; exact e2, e3⟩
      · simp [sliceOf, hk, hf] at h
  case nils =>
    simp [sliceOf] at h
    obtain ⟨rfl, rfl, rfl⟩ := h
    have : v = .slice none 0 0 := hv
    subst this
    exact ⟨none, 0, 0, rfl, rfl, by simp [Ex.ev, Sc.int], Nat.le_refl _, by simp [maxLen], rfl, rfl, rfl, rfl, rfl⟩
end
end Go.Proofs.YtkjgcalkkfgmlaaDoor
namespace Go.Proofs.YtkjgcalkkfgmlaaDoor
open Go.RowKit

/-- What is known of types: no stand-in, no guard at a comparison. -/
def PlainTy (P : Program) (pl : List TypeId) : Prop := ∀ t, hasN pl t = true → P.stoodInHeld t = false ∧ P.eqGuardType P.depth t = false
section
variable {P : Program} {c : Ct} {w : World} {pl : List TypeId}

theorem sc_of_rel {sv : SV} {x : SC} (h : sv.sc = some x) {v : Value} (hv : sv.rel c v) : x.rel c v := by
  cases sv with
  | c y => simp [SV.sc] at h; subst h; exact hv
  | t _ => simp [SV.sc] at h

theorem eqSC_run (hpl : PlainTy P pl) : ∀ (d D : Nat) (ty : TypeId) (x y : SC) (e : Ex) (vx vy : Value), d ≤ D → eqSC P pl d ty x y = some e → x.rel c vx → y.rel c vy → (Op.equalIn D ty vx vy).run P w = .ok (e.ev c.ρ).bool w := by
  intro d
  induction d with
  | zero => intro D ty x y e vx vy _ h; simp [eqSC] at h
  | succ d ih =>
    intro D ty x y e vx vy hD h hx hy
    obtain ⟨D, rfl⟩ : ∃ D', D = D' + 1 := ⟨D - 1, by omega⟩
    unfold eqSC at h
    split at h
    · rename_i k0 k p k' q hu
      split at h
      · rename_i hk
        subst hk
        cases h
        have e1 : vx = .int k (p.ev c.ρ).int := hx
        have e2 : vy = .int k (q.ev c.ρ).int := hy
        subst e1 e2
        rw [run_equalIn_int w D ty k k0 _ _ hu, mk2_ev]; rfl
      · cases h
    · rename_i p q hu
      cases h
      have e1 : vx = .bool (p.ev c.ρ).bool := hx
      have e2 : vy = .bool (q.ev c.ρ).bool := hy
      subst e1 e2
      rw [run_equalIn_bool' w D ty _ _ hu, mk2_ev]; rfl
    · rename_i p q hu
      cases h
      have e1 : vx = .string (p.ev c.ρ).str := hx
      have e2 : vy = .string (q.ev c.ρ).str := hy
      subst e1 e2
      rw [run_equalIn_string w D ty _ _ hu, mk2_ev]; rfl
    · rename_i fs xs ys hu
      split at h
      · cases h
      · rename_i hp
        obtain ⟨us, rfl, hxs⟩ := hx
        obtain ⟨vs, rfl, hys⟩ := hy
        have hfs : P.fieldsOf ty = fs := by simp [Program.fieldsOf, hu]
        rw [run_equalIn_struct w D ty us.toArray vs.toArray (by rw [hfs]; exact hu) (hpl ty (by simpa using hp)).1, hfs]
        generalize fs.toList = l at h
        clear hu hfs
        induction l generalizing e with
        | nil => simp at h; subst h; rfl
        | cons f l ihl =>
          simp only [List.foldr_cons] at h
          split at h
          · cases h
          · rename_i hname
            split at h
            · rename_i r p q h1 h2 h3
              split at h
              · rename_i e2 h4
                cases h
                obtain ⟨sp, hp1, hp2⟩ := Option.bind_eq_some_iff.1 h2
                obtain ⟨sq, hq1, hq2⟩ := Option.bind_eq_some_iff.1 h3
                obtain ⟨vp, rp, rp2⟩ := part_run hp1 hxs w
                obtain ⟨vq, rq, rq2⟩ := part_run hq1 hys w
                have := ih D f.type p q e2 vp vq (by omega) h4 (sc_of_rel hp2 rp2) (sc_of_rel hq2 rq2)
                have hl := ihl r h1
                rw [mk2_ev]
                cases hb : (e2.ev c.ρ).bool
                · simp [Op.eqFields, hname, rp, rq, this, hb, U2.ev]
                · simp [Op.eqFields, hname, rp, rq, this, hb, U2.ev, hl]
              · cases h
            · cases h
    · cases h

theorem symBin_run (hpl : PlainTy P pl) {op : BinOp} {ty : TypeId} {x y : SV} {r : OpR} (h : symBin P pl op ty x y = some r) {vx vy : Value} (hx : x.rel c vx) (hy : y.rel c vy) (hn : ∀ e ∈ r.needs, (e.ev c.ρ).bool = true) (ox oy : Operand) :
    r = ⟨r.needs, none, r.val, [], [], [], []⟩ ∧ ∃ v, (do eqGuard op ty ox oy vx vy; binOp op ty vx vy : Sem Value).run P w = .ok v w ∧ r.val.rel c v := by
  unfold symBin at h
  split at h
  · rename_i k p k' q
    have e1 : vx = .int k (p.ev c.ρ).int := hx
    have e2 : vy = .int k' (q.ev c.ρ).int := hy
    subst e1 e2
    by_cases hk : k = k'
    · subst hk
      cases op
      case quo =>
        simp only [↓reduceIte] at h; cases h; refine ⟨rfl, ?_⟩
        have h0 := hn _ (List.mem_singleton.2 rfl)
        rw [mk2_ev] at h0
        have h0 : (q.ev c.ρ).int ≠ 0 := by simpa [U2.ev, Ex.ev] using h0
        exact ⟨_, by simp [eqGuard, binOp, Op.intDiv, h0]; rfl, by show _ = _; rw [mk2_ev]; rfl⟩
      case rem =>
        simp only [↓reduceIte] at h; cases h; refine ⟨rfl, ?_⟩
        have h0 := hn _ (List.mem_singleton.2 rfl)
        rw [mk2_ev] at h0
        have h0 : (q.ev c.ρ).int ≠ 0 := by simpa [U2.ev, Ex.ev] using h0
        exact ⟨_, by simp [eqGuard, binOp, Op.intDiv, h0]; rfl, by show _ = _; rw [mk2_ev]; rfl⟩
      case shl =>
        simp only at h; cases h; refine ⟨rfl, ?_⟩
        have h0 := hn _ (List.mem_singleton.2 rfl)
        rw [mk2_ev] at h0
        have h0 : ¬ (q.ev c.ρ).int < 0 := by have : (0 : Int) ≤ (q.ev c.ρ).int := of_decide_eq_true h0; omega
        exact ⟨_, by simp only [eqGuard, binOp, Op.shift, h0]; rfl, by show _ = _; rw [mk2_ev]; rfl⟩
      case shr =>
        simp only at h; cases h; refine ⟨rfl, ?_⟩
        have h0 := hn _ (List.mem_singleton.2 rfl)
        rw [mk2_ev] at h0
        have h0 : ¬ (q.ev c.ρ).int < 0 := by have : (0 : Int) ≤ (q.ev c.ρ).int := of_decide_eq_true h0; omega
        exact ⟨_, by simp only [eqGuard, binOp, Op.shift, h0]; rfl, by show _ = _; rw [mk2_ev]; rfl⟩
      case andNot =>
        simp only [↓reduceIte] at h; cases h; refine ⟨rfl, ?_⟩
        exact ⟨_, by simp [eqGuard, binOp, Op.intBits]; rfl, by show _ = _; rw [mk2_ev]; simp [U2.ev]⟩
      all_goals
        simp only [↓reduceIte] at h
        first
          | (cases h; done)
          | (cases h; refine ⟨rfl, ?_⟩; exact ⟨_, by simp [eqGuard, binOp, Op.intArith, Op.intBits, Op.intCmp]; rfl, by show _ = _; rw [mk2_ev]; rfl⟩)
    · cases op
      case shl =>
        simp only at h; cases h; refine ⟨rfl, ?_⟩
        have h0 := hn _ (List.mem_singleton.2 rfl)
        rw [mk2_ev] at h0
        have h0 : ¬ (q.ev c.ρ).int < 0 := by have : (0 : Int) ≤ (q.ev c.ρ).int := of_decide_eq_true h0; omega
        exact ⟨_, by simp only [eqGuard, binOp, Op.shift, h0]; rfl, by show _ = _; rw [mk2_ev]; rfl⟩
      case shr =>
        simp only at h; cases h; refine ⟨rfl, ?_⟩
        have h0 := hn _ (List.mem_singleton.2 rfl)
        rw [mk2_ev] at h0
        have h0 : ¬ (q.ev c.ρ).int < 0 := by have : (0 : Int) ≤ (q.ev c.ρ).int := of_decide_eq_true h0; omega
        exact ⟨_, by simp only [eqGuard, binOp, Op.shift, h0]; rfl, by show _ = _; rw [mk2_ev]; rfl⟩
      all_goals (simp only [hk, ↓reduceIte] at h; cases h)
  · rename_i p q
    have e1 : vx = .string (p.ev c.ρ).str := hx
    have e2 : vy = .string (q.ev c.ρ).str := hy
    subst e1 e2
    cases op
    case add =>
      simp only at h; cases h; refine ⟨rfl, ?_⟩
      have h0 := hn _ (List.mem_singleton.2 rfl)
      rw [mk2_ev] at h0
      have h0 : ¬ (9223372036854775807 : Int) < (((p.ev c.ρ).str.size : Int) + ((q.ev c.ρ).str.size : Int)) := by
        have : (((p.ev c.ρ).str ++ (q.ev c.ρ).str).size : Int) ≤ 9223372036854775807 := by simpa [U2.ev, U1.ev, Ex.ev, mk2_ev] using h0
        rw [ByteArray.size_append] at this
        omega
      have hm : IntKind.i64.max = 9223372036854775807 := by decide
      exact ⟨_, by simp [eqGuard, binOp, Op.stringOp, hm, h0]; rfl, by show _ = _; rw [mk2_ev]; rfl⟩
    case eql => simp only at h; cases h; exact ⟨rfl, _, by simp [eqGuard, binOp, Op.stringOp]; rfl, by show _ = _; rw [mk2_ev]; simp [U2.ev]⟩
    case neq => simp only at h; cases h; exact ⟨rfl, _, by simp [eqGuard, binOp, Op.stringOp]; rfl, by show _ = _; rw [mk1_ev, mk2_ev]; simp [U2.ev, U1.ev]⟩
    all_goals (simp only at h; cases h)
  · rename_i p q
    have e1 : vx = .bool (p.ev c.ρ).bool := hx
    have e2 : vy = .bool (q.ev c.ρ).bool := hy
    subst e1 e2
    split at h
    · rename_i hu
      cases h
      exact ⟨rfl, _, by simp [eqGuard, binOp, Op.equal, Op.maxDepth, run_equalIn_bool' w 9999 ty _ _ hu]; rfl, by show _ = _; rw [mk2_ev]; rfl⟩
    · rename_i hu
      cases h
      exact ⟨rfl, _, by simp [eqGuard, binOp, Op.equal, Op.maxDepth, run_equalIn_bool' w 9999 ty _ _ hu]; rfl, by show _ = _; rw [mk1_ev, mk2_ev]; rfl⟩
    · cases h
  · rename_i xs ys
    split at h
    · cases h
    · rename_i hp
      have hg := (hpl ty (by simpa using hp)).2
      split at h
      · rename_i e he
        cases h
        have := eqSC_run (w := w) hpl 4 10000 ty _ _ e vx vy (by omega) he hx hy
        obtain ⟨us, rfl, _⟩ := hx
        obtain ⟨vs, rfl, _⟩ := hy
        exact ⟨rfl, .bool (e.ev c.ρ).bool, by simp [run_eqGuard_agg w .eql ty ox oy _ _ hg, run_eql_struct, this], rfl⟩
      · rename_i e he
        cases h
        have := eqSC_run (w := w) hpl 4 10000 ty _ _ e vx vy (by omega) he hx hy
        obtain ⟨us, rfl, _⟩ := hx
        obtain ⟨vs, rfl, _⟩ := hy
        exact ⟨rfl, .bool !(e.ev c.ρ).bool, by simp [run_eqGuard_agg w .neq ty ox oy _ _ hg, run_neq_struct, this], by show _ = _; rw [mk1_ev]; rfl⟩
      · cases h
  · cases h
end
end Go.Proofs.YtkjgcalkkfgmlaaDoor
namespace Go.Proofs.YtkjgcalkkfgmlaaDoor
open Go.RowKit

section
variable {P : Program} {B : Nat} {w0 : World} {σ : St} {c : Ct} {a : Act} {w : World} {o : Oper} {rd : Rd}

theorem known_one {x : At} {u : Value} (hk : x.known = true) (hr : x.rel c u) : u.oneCell' = true := by
  cases x <;> simp only [At.known, At.rel] at hk hr
  case top => cases hk
  case int => subst hr; rfl
  case bool => subst hr; rfl
  case str => subst hr; rfl
  case ptr => obtain ⟨n, _, rfl⟩ := hr; rfl
  case pel => obtain ⟨_, _, _, _, _, _, _, rfl⟩ := hr; rfl
  case nilp => subst hr; rfl
  case vec => obtain ⟨_, _, _, _, rfl⟩ := hr; rfl
  case sl => obtain ⟨_, _, _, _, _, _, rfl, _⟩ := hr; rfl
  case nils => subst hr; rfl
  case fn => obtain ⟨_, _, rfl⟩ := hr; rfl
theorem knownL : ∀ {xs : List At} {vs : List Value}, xs.all At.known = true → relL c xs vs → ∀ u ∈ vs, u.oneCell' = true
  | [], [], _, _, _, h => by cases h
  | x :: xs, v :: vs, hk, hr, u, h => by
    simp only [List.all_cons, Bool.and_eq_true] at hk
    rcases List.mem_cons.1 h with rfl | h
    · exact known_one hk.1 hr.1
    · exact knownL hk.2 hr.2 u h
  | [], _ :: _, _, hr, _, _ => hr.elim
  | _ :: _, [], _, hr, _, _ => hr.elim
theorem one_cells {v : Value} (h : v.oneCell' = true) : v.cells = #[v] := by cases v <;> first | rfl | cases h
theorem sv_cells {sv : SV} {cs : List At} (h : sv.cells = some cs) (hk : cs.all At.known = true) {v : Value} (hv : sv.rel c v) : ∃ vs : List Value, v.cells = vs.toArray ∧ relL c cs vs := by
  rcases sv with (x | xs) | xs
  · simp [SV.cells] at h; subst h
    simp only [List.all_cons, Bool.and_eq_true] at hk
    exact ⟨[v], one_cells (known_one hk.1 hv), hv, trivial⟩
  · simp [SV.cells] at h; subst h
    obtain ⟨vs, rfl, hr⟩ := hv
    exact ⟨vs, rfl, hr⟩
  · simp [SV.cells] at h

theorem spliceL_rel : ∀ {cs xs ys : List At} {off : Nat} {vs us : List Value}, spliceL cs off xs = some ys → relL c cs vs → relL c xs us → relL c ys (vs.take off ++ us ++ vs.drop (off + us.length)) ∧ off + us.length ≤ vs.length
  | cs, [], ys, 0, vs, us, h, hc, hx => by
    cases us with
    | nil => cases cs <;> simp [spliceL] at h <;> subst h <;> simpa using hc
    | cons => exact hx.elim
  | [], _ :: _, _, 0, _, _, h, _, _ => by simp [spliceL] at h
  | [], xs, _, n + 1, _, _, h, _, _ => by simp [spliceL] at h
  | x :: cs, y :: xs, ys, 0, vs, us, h, hc, hx => by
    match vs, us, hc, hx with
    | v :: vs, u :: us, hc, hx =>
      simp only [spliceL, Option.map_eq_some_iff] at h
      obtain ⟨zs, h1, rfl⟩ := h
      have := spliceL_rel h1 hc.2 hx.2
      simp only [List.take_zero, List.nil_append, Nat.zero_add, List.length_cons, List.cons_append, List.drop_succ_cons] at this ⊢
      exact ⟨⟨hx.1, this.1⟩, by omega⟩
  | x :: cs, xs, ys, n + 1, vs, us, h, hc, hx => by
    match vs, hc with
    | v :: vs, hc =>
      simp only [spliceL, Option.map_eq_some_iff] at h
      obtain ⟨zs, h1, rfl⟩ := h
      have := spliceL_rel h1 hc.2 hx
      simp only [List.take_succ_cons, List.cons_append, List.length_cons]
      rw [show n + 1 + us.length = (n + us.length) + 1 by omega, List.drop_succ_cons]
      exact ⟨⟨hc.1, this.1⟩, by omega⟩

theorem store_ok (g : Good B w0 σ c a w) {ty : TypeId} {x y : Operand} (ho : o.op = .store ty x y) {p off : Nat} {k : Bk} (hx : (At.ptr p off).rel c (a.eval x)) (hk : σ.blk p = some k)
    {sv : SV} {xs : List At} (hxs : sv.cells = some xs) (hkn : xs.all At.known = true) (hy : sv.rel c (a.eval y)) (hn : sizeB P ty = some xs.length) {cs : List At} (hc : spliceL k.cells off xs = some cs) :
    Does P B w0 σ c a w o ⟨[], none, .t [], [(p, some ⟨cs, k.ty⟩)], [], [], []⟩ := by
  obtain ⟨n, hb, hx⟩ := hx
  obtain ⟨n', vs, e, h1, h2, h3⟩ := g.blks p k hk
  rw [hb] at e; cases e
  obtain ⟨us, hu, hr⟩ := sv_cells hxs hkn hy
  obtain ⟨hz, hle⟩ := spliceL_rel hc h3 hr
  have hone := knownL hkn hr
  have hst := run_storeCells_at P n off k.ty us 0 vs.toArray w h2 (by simpa using hle) hone
  simp only [Nat.add_zero] at hst
  refine ⟨.skip, _, undef, c, ?_, .inr ⟨rfl, rfl⟩, .refl c, fun _ _ => rfl, fun _ _ => rfl, ⟨[], rfl, trivial⟩,
    g.store hk hb hz (w' := w.setRow n (vs.take off ++ us ++ vs.drop (off + us.length)).toArray) ?_ ?_ ?_ ?_⟩
  · have hlen : us.length = xs.length := relL_len hr
    simp [execOp, ho, Instr.storeAt, hx, Instr.sureAddr, storeVar, run_sizeB hn, hu, hlen, hst]
  · refine ⟨g.below.os, g.below.tape, g.below.output, Nat.le_trans g.below.size (by simp [World.setRow]), fun j hj => ?_⟩
    rw [setRow_other w n j _ (by omega)]
    exact g.below.block j hj
  · simp [World.setRow]
  · exact setRow_heap w n _ _ _ _ h2
  · intro m hm; exact setRow_other w n m _ hm

theorem box_ok (g : Good B w0 σ c a w) {p : Nat} (hp : c.β p = none) {ty : TypeId} {cs : List At} {vs : List Value} (hr : relL c cs vs) (he : (execOp a.eval o).run P w = .ok (.value (.pointer (some ⟨w.heap.size, 0, none⟩))) (w.alloc (.cells vs.toArray ty))) :
    Does P B w0 σ c a w o ⟨[], none, .at (.ptr p 0), [(p, some ⟨cs, ty⟩)], [], [p], []⟩ := by
  have hle : c.le { c with β := fun i => if i = p then some w.heap.size else c.β i } := ⟨rfl, rfl, fun i n e => by
    by_cases h : i = p
    · subst h; rw [hp] at e; cases e
    · simp [h, e], fun _ _ e => e⟩
  exact ⟨_, _, _, _, he, .inl rfl, hle, fun i hi => by simp at hi; simp [hi], fun _ _ => rfl, ⟨_, by simp, rfl⟩, g.alloc hp (k := ⟨cs, ty⟩) hr⟩

theorem load_blk (g : Good B w0 σ c a w) {ty : TypeId} {x : Operand} (ho : o.op = .load ty x) {p off : Nat} {k : Bk} (hx : (At.ptr p off).rel c (a.eval x)) (hk : σ.blk p = some k) {sv : SV} (hs : part? P ty k.cells off = some sv) :
    Does P B w0 σ c a w o (OpR.pure sv) := by
  obtain ⟨n, hb, hx⟩ := hx
  obtain ⟨n', vs, e, h1, h2, h3⟩ := g.blks p k hk
  rw [hb] at e; cases e
  obtain ⟨v, hv, hr⟩ := loadVar_run (P := P) (base := 0) hs h3 (n := n) (w := w) (fun j u hj => by
    have := cell_of_row w n (0 + j) vs.toArray k.ty (0, 0) h2
    rw [this]; simpa using hj)
  rw [Nat.zero_add] at hv
  exact Does.quiet g (by simp [execOp, ho, Instr.loadAt, hx, Instr.sureAddr, hv]) hr

theorem load_row (g : Good B w0 σ c a w) {ty : TypeId} {x : Operand} (ho : o.op = .load ty x) {r : Nat} {ix : Ex} {off : Nat} {k : Rw} (hx : (At.pel r k.ks.length ix off).rel c (a.eval x)) (hk : σ.row r = some k) (hok : okFormB k.agg k.ks = true)
    {sv : SV} (hs : part? P ty (cellsOf k.agg k.ks (k.elem ix)) off = some sv) :
    Does P B w0 σ c a w o (OpR.pure sv) := by
  obtain ⟨n, o', len, cap, e, h0, hlt, hx⟩ := hx
  obtain ⟨ad, m, cap', e', h1, h2, h3, h4⟩ := g.read hk
  rw [e] at e'; cases e'
  have hrel := cellsOf_rel (c := c) k.agg k.ks (k.elem ix)
  have hel : (k.elem ix).ev c.ρ = (k.cont.ev c.ρ).list.getD (ix.ev c.ρ).int.toNat (.i 0) := by unfold Rw.elem; rw [mk2_ev]; rfl
  rw [hel] at hrel
  obtain ⟨v, hv, hr⟩ := loadVar_run (P := P) (base := o' + (ix.ev c.ρ).int.toNat * k.ks.length) hs hrel (n := n) (w := w) (fun j u hj => by
    have := flat_get (okForm_of hok).1 _ _ j u (by omega) hj
    obtain ⟨p, q, e1, e2, _⟩ := h4 _ _ this
    cases e1
    rw [Nat.add_assoc]; exact e2)
  exact Does.quiet g (by simp [execOp, ho, Instr.loadAt, hx, Instr.sureAddr, hv]) hr
end
end Go.Proofs.YtkjgcalkkfgmlaaDoor
