/-
  A drawn region in which variables are laid: quiet operations in any order, allocations in any order and at any time, then a tail in sequence. One walk serves every order.
-/
import Derived.Test.YtjfhhlfjfcgcmaaOwn
namespace Go.Proofs.Ytjfhhlfjfcgcmaa
open Go.ChangeShapes Go.WideShapes Go.ChangeAt Go.RowKit

section
variable {P : Program} {ops : Array Oper} {md : Region.Mode} {C : World → Prop} {n : Nat}

/-- As 'Oper.quiet', but a call is asked for what it leaves of the world that it got. -/
def uponB (P : Program) (w : World) (v : Value) : Result Next → Prop
  | .ok (.value u) w' => w' = w ∧ u = v
  | .ok .skip w' => w' = w ∧ v = undef
  | .ok (.enter f args) w' => w' = w ∧ Calls P f args w (fun e w'' => e = .returned v ∧ Below w.heap.size w w'')
  | _ => False
def yieldsB (P : Program) (ops : Array Oper) (C : World → Prop) (o : Oper) (v : Value) (a : Act) : Prop :=
  (Region.wanted o (yielded ops a.tmps) = true ∧ ∀ w, C w → uponB P w v ((execOp a.eval o).run P w)) ∨ (Region.wanted o (yielded ops a.tmps) = false ∧ v = undef)
def isAlloc (o : Oper) (ty : TypeId) : Prop := o.op = .alloc ty ∧ o.guard = none

/-- Operation i: an allocation (whatever block it gets), or a quiet one. -/
def xOp (P : Program) (ops : Array Oper) (C : World → Prop) (i : Nat) (K : Act → List Blk → Prop) (a : Act) (L : List Blk) : Prop :=
  match ops[i]? with
  | none => False
  | some o => (∃ ty z, isAlloc o ty ∧ TyZ P ty z ∧ ∀ b, K (a.put o.dst (.pointer (some ⟨b, 0, none⟩))) (⟨b, z, ty⟩ :: L)) ∨ ((∀ ty, ¬ isAlloc o ty) ∧ ∃ v, yieldsB P ops C o v a ∧ K (a.put o.dst v) L)

theorem xOp_mono {i : Nat} {a : Act} {L : List Blk} {K K' : Act → List Blk → Prop} (h : ∀ a L, K a L → K' a L) (hh : xOp P ops C i K a L) : xOp P ops C i K' a L := by
  unfold xOp at *
  split
  · rename_i ho; simp only [ho] at hh
  · rename_i o ho
    simp only [ho] at hh
    rcases hh with ⟨ty, z, h1, h2, h3⟩ | ⟨h1, v, h2, h3⟩
    · exact .inl ⟨ty, z, h1, h2, fun b => h _ _ (h3 b)⟩
    · exact .inr ⟨h1, v, h2, h _ _ h3⟩

def anyX (P : Program) (md : Region.Mode) (ops : Array Oper) (C : World → Prop) (n : Nat) (Q : Array Bool → Act → List Blk → Prop) : Nat → Array Bool → Act → List Blk → Prop
  | 0, listed, a, L => Q listed a L
  | f + 1, listed, a, L =>
    Region.ready md ops listed ≠ [] ∧ ∀ i ∈ Region.ready md ops listed, i < n ∧ xOp P ops C i (anyX P md ops C n Q f (listed.setIfInBounds i true)) a L

theorem anyX_perm {Q : Array Bool → Act → List Blk → Prop} (hQ : ∀ listed a L L', L.Perm L' → Q listed a L → Q listed a L') :
    ∀ (f : Nat) (listed : Array Bool) (a : Act) (L L' : List Blk), L.Perm L' → anyX P md ops C n Q f listed a L → anyX P md ops C n Q f listed a L'
  | 0, _, _, _, _, hp, h => hQ _ _ _ _ hp h
  | f + 1, listed, a, L, L', hp, h => by
    refine ⟨h.1, fun i hi => ⟨(h.2 i hi).1, ?_⟩⟩
    have h2 := (h.2 i hi).2
    unfold xOp at *
    split
    · rename_i ho; simp only [ho] at h2
    · rename_i o ho
      simp only [ho] at h2
      rcases h2 with ⟨ty, z, k1, k2, k3⟩ | ⟨k1, v, k2, k3⟩
      · exact .inl ⟨ty, z, k1, k2, fun b => anyX_perm hQ f _ _ _ _ (hp.cons _) (k3 b)⟩
      · exact .inr ⟨k1, v, k2, anyX_perm hQ f _ _ _ _ hp k3⟩

theorem yieldsB_put {oi : Oper} {v : Value} {a : Act} {d : Option Tmp} {u : Value} (h3 : ∀ a : Act, execOp (a.put d u).eval oi = execOp a.eval oi) (h4 : ∀ a : Act, Region.wanted oi (yielded ops (a.put d u).tmps) = Region.wanted oi (yielded ops a.tmps)) :
    yieldsB P ops C oi v (a.put d u) ↔ yieldsB P ops C oi v a := by
  unfold yieldsB
  rw [h3, h4]

/-- A quiet operation that may come up now may be taken first. -/
theorem anyX_first {Q : Array Bool → Act → List Blk → Prop} {i : Nat} {oi : Oper} {v : Value} (hi : ops[i]? = some oi) (hna : ∀ ty, ¬ isAlloc oi ty) (hsel : ∀ (j : Nat) (o : Oper) cs b, ops[j]? = some o → o.op ≠ .select cs b)
    (hs : Region.sinkB md ops n = true) (hc : Region.chainB md ops n = true) (hn : n < ops.size) (hin : i < n)
    (hdone : ∀ listed a L, Q listed a L → ∀ j ∈ Region.ready md ops listed, n ≤ j) :
    ∀ (f : Nat) (listed : Array Bool) (a : Act) (L : List Blk), HeadInv md ops n listed →
      (∀ j oj, ops[j]? = some oj → j ≠ i → listed.getD j true = false → (∀ e ∈ oj.after, Region.binds md e = true → e.on ≠ i) → oi.apart ops oj = true) →
      i ∈ Region.ready md ops listed → yieldsB P ops C oi v a →
      anyX P md ops C n Q f (listed.setIfInBounds i true) (a.put oi.dst v) L → anyX P md ops C n Q (f + 1) listed a L := by
  intro f
  induction f with
  | zero =>
    intro listed a L inv _ hr hy H
    have hun := (mem_ready.1 hr).1
    refine ⟨fun h => (by rw [h] at hr; cases hr), fun j hj => ?_⟩
    have hjn : j < n := by
      rcases Nat.lt_or_ge j n with h | h
      · exact h
      · exact absurd hj (tail_waits hs hc hn inv _ i rfl hin hun j h)
    refine ⟨hjn, ?_⟩
    by_cases hji : j = i
    · subst hji
      unfold xOp; simp only [hi]
      exact .inr ⟨hna, v, hy, H⟩
    · have := hdone _ _ _ H j (ready_mono hj hji)
      omega
  | succ f ih =>
    intro listed a L inv hfree hr hy H
    have hun := (mem_ready.1 hr).1
    refine ⟨fun h => (by rw [h] at hr; cases hr), fun j hj => ?_⟩
    have hjn : j < n := by
      rcases Nat.lt_or_ge j n with h | h
      · exact h
      · exact absurd hj (tail_waits hs hc hn inv _ i rfl hin hun j h)
    refine ⟨hjn, ?_⟩
    by_cases hji : j = i
    · subst hji
      unfold xOp; simp only [hi]
      exact .inr ⟨hna, v, hy, H⟩
    · have h1 := (H.2 j (ready_mono hj hji)).2
      obtain ⟨hjun, oj, hoj, hall⟩ := mem_ready.1 hj
      have hnot : ∀ e ∈ oj.after, Region.binds md e = true → e.on ≠ i := fun e he hb heq => by
        have h1 := hall e he hb
        rw [heq, getD_both hun] at h1
        cases h1
      have hap := hfree j oj hoj hji hjun hnot
      obtain ⟨p1, p2, p3⟩ := Oper.apart_spec hap
      have si := hsel i oi
      have sj := hsel j oj
      have hfree' : ∀ k ok, ops[k]? = some ok → k ≠ i → (listed.setIfInBounds j true).getD k true = false →
          (∀ e ∈ ok.after, Region.binds md e = true → e.on ≠ i) → oi.apart ops ok = true := fun k ok hk hki hun hno => by
        refine hfree k ok hk hki ?_ hno
        by_cases hjk : j = k
        · subst hjk; exact hjun
        · rw [getD_set_ne true hjk] at hun; exact hun
      have next : ∀ u L', anyX P md ops C n Q f ((listed.setIfInBounds i true).setIfInBounds j true) ((a.put oi.dst v).put oj.dst u) L' → anyX P md ops C n Q (f + 1) (listed.setIfInBounds j true) (a.put oj.dst u) L' := by
        intro u L' h3
        refine ih (listed.setIfInBounds j true) (a.put oj.dst u) L' (inv.set hj hjn) hfree' (ready_mono hr (Ne.symm hji)) ?_ ?_
        · exact (yieldsB_put (fun a => execOp_put oi (fun cs b => si cs b hi) a oj.dst u p3) (fun a => wanted_put oi a oj.dst u p3)).2 hy
        · rw [Array.setIfInBounds_comm _ _ hji, ← Act.put_comm a v u p2]
          exact h3
      unfold xOp at *
      simp only [hoj] at *
      rcases h1 with ⟨ty, z, k1, k2, k3⟩ | ⟨k1, u, k2, k3⟩
      · exact .inl ⟨ty, z, k1, k2, fun b => next _ _ (k3 b)⟩
      · refine .inr ⟨k1, u, ?_, next _ _ k3⟩
        exact (yieldsB_put (fun a => execOp_put oj (fun cs b => sj cs b hoj) a oi.dst v p1) (fun a => wanted_put oj a oi.dst v p1)).1 k2

/-- Where allocations alone are left before the tail, the first of them may be taken first. -/
theorem anyX_alloc {Q : Array Bool → Act → List Blk → Prop} (hQ : ∀ listed a L L', L.Perm L' → Q listed a L → Q listed a L') {i : Nat} {oi : Oper} {ty : TypeId} {z : List Value} (hi : ops[i]? = some oi) (hal : isAlloc oi ty) (hz : TyZ P ty z)
    (hs : Region.sinkB md ops n = true) (hc : Region.chainB md ops n = true) (hn : n < ops.size) (hin : i < n)
    (hdone : ∀ listed a L, Q listed a L → ∀ j ∈ Region.ready md ops listed, n ≤ j) :
    ∀ (f : Nat) (listed : Array Bool) (a : Act) (L : List Blk), HeadInv md ops n listed →
      (∀ j oj, ops[j]? = some oj → j ≠ i → j < n → listed.getD j true = false → (∃ ty, isAlloc oj ty) ∧ (oi.dst ≠ oj.dst ∨ oi.dst = none)) →
      i ∈ Region.ready md ops listed →
      (∀ b, anyX P md ops C n Q f (listed.setIfInBounds i true) (a.put oi.dst (.pointer (some ⟨b, 0, none⟩))) (⟨b, z, ty⟩ :: L)) → anyX P md ops C n Q (f + 1) listed a L := by
  intro f
  induction f with
  | zero =>
    intro listed a L inv _ hr H
    have hun := (mem_ready.1 hr).1
    refine ⟨fun h => (by rw [h] at hr; cases hr), fun j hj => ?_⟩
    have hjn : j < n := by
      rcases Nat.lt_or_ge j n with h | h
      · exact h
      · exact absurd hj (tail_waits hs hc hn inv _ i rfl hin hun j h)
    refine ⟨hjn, ?_⟩
    by_cases hji : j = i
    · subst hji
      unfold xOp; simp only [hi]
      exact .inl ⟨ty, z, hal, hz, H⟩
    · have := hdone _ _ _ (H 0) j (ready_mono hj hji)
      omega
  | succ f ih =>
    intro listed a L inv hfree hr H
    have hun := (mem_ready.1 hr).1
    refine ⟨fun h => (by rw [h] at hr; cases hr), fun j hj => ?_⟩
    have hjn : j < n := by
      rcases Nat.lt_or_ge j n with h | h
      · exact h
      · exact absurd hj (tail_waits hs hc hn inv _ i rfl hin hun j h)
    refine ⟨hjn, ?_⟩
    by_cases hji : j = i
    · subst hji
      unfold xOp; simp only [hi]
      exact .inl ⟨ty, z, hal, hz, H⟩
    · obtain ⟨hjun, oj, hoj, hall⟩ := mem_ready.1 hj
      obtain ⟨⟨tj, hjal⟩, hd⟩ := hfree j oj hoj hji hjn hjun
      have hfree' : ∀ k ok, ops[k]? = some ok → k ≠ i → k < n → (listed.setIfInBounds j true).getD k true = false → (∃ ty, isAlloc ok ty) ∧ (oi.dst ≠ ok.dst ∨ oi.dst = none) := fun k ok hk hki hkn hun => by
        refine hfree k ok hk hki hkn ?_
        by_cases hjk : j = k
        · subst hjk; exact hjun
        · rw [getD_set_ne true hjk] at hun; exact hun
      have h1 := fun b => ((H b).2 j (ready_mono hj hji)).2
      unfold xOp at *
      simp only [hoj] at *
      refine .inl ?_
      rcases h1 0 with ⟨t1, z1, k1, k2, _⟩ | ⟨k1, _⟩
      · refine ⟨t1, z1, k1, k2, fun b' => ?_⟩
        refine ih (listed.setIfInBounds j true) _ _ (inv.set hj hjn) hfree' (ready_mono hr (Ne.symm hji)) fun b => ?_
        rcases h1 b with ⟨t2, z2, m1, m2, m3⟩ | ⟨m1, _⟩
        · obtain rfl : t2 = t1 := by
            have e := m1.1.symm.trans k1.1
            cases e; rfl
          obtain rfl : z2 = z1 := by
            obtain ⟨v1, e1, e2⟩ := m2.zero default
            obtain ⟨v2, e3, e4⟩ := k2.zero default
            rw [e1] at e3
            cases e3
            rw [e2] at e4
            exact List.toArray_inj e4
          have h3 := m3 b'
          have hpc : (a.put oi.dst (.pointer (some ⟨b, 0, none⟩))).put oj.dst (.pointer (some ⟨b', 0, none⟩)) = (a.put oj.dst (.pointer (some ⟨b', 0, none⟩))).put oi.dst (.pointer (some ⟨b, 0, none⟩)) := by
            cases h4 : oi.dst with
            | none => simp [Act.put]
            | some d =>
              cases h5 : oj.dst with
              | none => simp [Act.put]
              | some d' =>
                have hdd : d ≠ d' := by
                  rcases hd with h | h
                  · rw [h4, h5] at h; intro e; subst e; exact h rfl
                  · rw [h4] at h; cases h
                simp [Act.put, Array.setIfInBounds_comm _ _ hdd]
          rw [Array.setIfInBounds_comm _ _ hji, ← hpc]
          exact anyX_perm hQ f _ _ _ _ (List.Perm.swap _ _ _) h3
        · exact absurd k1 (m1 t1)
      · exact absurd hjal (k1 tj)

variable {B : Nat} {w0 w : World} {L L0 : List Blk} {R : List Rw} {a : Act}

theorem St.perm (h : St B w0 L R w) {L' : List Blk} (hp : L.Perm L') : St B w0 L' R w where
  below := h.below
  hB := h.hB
  own := fun x hx => h.own x (hp.mem_iff.2 hx)
  lo := fun x hx => h.lo x (hp.mem_iff.2 hx)
  diff := hp.pairwise h.diff (fun e => e.symm)
  rows := h.rows
  apart := fun r hr x hx => h.apart r hr x (hp.mem_iff.2 hx)
theorem St.drop {X : List Blk} (h : St B w0 (X ++ L0) R w) : St B w0 L0 R w where
  below := h.below
  hB := h.hB
  own := fun x hx => h.own x (List.mem_append_right _ hx)
  lo := fun x hx => h.lo x (List.mem_append_right _ hx)
  diff := (List.pairwise_append.1 h.diff).2.1
  rows := h.rows
  apart := fun r hr x hx => h.apart r hr x (List.mem_append_right _ hx)

theorem run_alloc_own {o : Oper} {ty : TypeId} {z : List Value} (ho : o.op = .alloc ty) (hz : TyZ P ty z) : (execOp a.eval o).run P w = .ok (.value (.pointer (some ⟨w.heap.size, 0, none⟩))) (w.alloc (.cells z.toArray ty)) := by
  obtain ⟨zv, hz1, hz2⟩ := hz.zero w
  simp [execOp, ho, Instr.alloc, hz1, newVar, newRow, hz2]

theorem wpAny_of_anyX {Q : Array Bool → Act → List Blk → Prop} {g : Nat} {Q' : Exit → Act → World → Prop} (hL : ∀ listed a L w, St B w0 L R w → Q listed a L → wpAny P md ops Q' g listed a w) :
    ∀ (f : Nat) (listed : Array Bool) (a : Act) (L : List Blk) (w : World), St B w0 L R w → (∃ X, L = X ++ L0) → anyX P md ops (St B w0 L0 R) n Q f listed a L → wpAny P md ops Q' (f + g) listed a w
  | 0, listed, a, L, w, hw, _, h => by rw [Nat.zero_add]; exact hL _ _ _ _ hw h
  | f + 1, listed, a, L, w, hw, hX, h => by
    rw [show f + 1 + g = (f + g) + 1 by omega]
    refine ⟨fun h0 => absurd h0 h.1, fun i hi => ?_⟩
    have h2 := (h.2 i hi).2
    unfold xOp at h2
    unfold wpOp
    split
    · rename_i ho; simp only [ho] at h2
    · rename_i o ho
      simp only [ho] at h2
      rcases h2 with ⟨ty, z, k1, k2, k3⟩ | ⟨k1, v, k2, k3⟩
      · have hwt : Region.wanted o (yielded ops a.tmps) = true := by simp [Region.wanted, k1.2]
        rw [if_pos hwt]
        refine .inl ?_
        unfold Oper.wp
        rw [run_alloc_own k1.1 k2]
        obtain ⟨X, rfl⟩ := hX
        exact wpAny_of_anyX hL f _ _ _ _ (hw.alloc z ty) ⟨_ :: X, rfl⟩ (k3 w.heap.size)
      · rcases k2 with ⟨m1, m2⟩ | ⟨m1, m2⟩
        · rw [if_pos m1]
          refine .inl ?_
          have hC : St B w0 L0 R w := by obtain ⟨X, rfl⟩ := hX; exact hw.drop
          have h3 := m2 w hC
          unfold Oper.wp
          generalize (execOp a.eval o).run P w = r at *
          cases r with
          | ok nx w' =>
            cases nx <;> simp only [uponB] at h3 <;> simp only [Oper.upon]
            case value u =>
              obtain ⟨e1, e2⟩ := h3
              rw [e1, e2]
              exact wpAny_of_anyX hL f _ _ _ _ hw hX k3
            case skip =>
              obtain ⟨e1, e2⟩ := h3
              rw [e1, ← e2]
              exact wpAny_of_anyX hL f _ _ _ _ hw hX k3
            case enter fn args =>
              obtain ⟨e1, hc⟩ := h3
              rw [e1]
              exact hc.mono fun e w'' ⟨he, hb⟩ => by subst he; exact wpAny_of_anyX hL f _ _ _ _ (hw.call hb) hX k3
          | halt x w' => simp only [uponB] at h3
        · rw [if_neg (by rw [m1]; exact Bool.false_ne_true), ← m2]
          exact wpAny_of_anyX hL f _ _ _ _ hw hX k3

/-! ### One walk in the order of the text -/
/-- The allocations, from place k on: each can come up, and writes a temporary of its own. -/
def Region.alsB (md : Region.Mode) (ops : Array Oper) (n g : Nat) : Nat → Nat → Array Bool → Bool
  | 0, k, listed => decide (k = n) && Region.seqB md ops g k listed
  | f + 1, k, listed => (Region.ready md ops listed).contains k && (match ops[k]? with
      | some o => (match o.op with | .alloc _ => true | _ => false) && o.guard.isNone && (List.range n).all (fun j => decide (j ≤ k) || (match ops[j]? with | some oj => decide (o.dst ≠ oj.dst) | none => true))
      | none => false) && Region.alsB md ops n g f (k + 1) (listed.setIfInBounds k true)
def Region.noAl (ops : Array Oper) (k : Nat) : Bool := match ops[k]? with
  | some o => (match o.op with | .alloc _ => false | _ => true)
  | none => false
def Region.lexX (md : Region.Mode) (ops : Array Oper) (m n : Nat) : Nat → Nat → Array Bool → Bool
  | 0, k, listed => decide (k = m) && Region.alsB md ops n (ops.size - n) (n - m) k listed
  | f + 1, k, listed => (Region.ready md ops listed).contains k && Region.free md ops listed k && Region.noAl ops k && Region.lexX md ops m n f (k + 1) (listed.setIfInBounds k true)
def Region.lexAllocB (md : Region.Mode) (ops : Array Oper) (m n : Nat) : Bool :=
  Region.noSelect ops && decide (m ≤ n) && decide (n < ops.size) && Region.sinkB md ops n && Region.chainB md ops n && Region.lexX md ops m n m 0 (Array.replicate ops.size false)

/-- The walk: quiet operations, then the allocations. -/
def wpAls (P : Program) (Q : Act → List Blk → Prop) : List Oper → Act → List Blk → Prop
  | [], a, L => Q a L
  | o :: rest, a, L => ∃ ty z, o.op = .alloc ty ∧ TyZ P ty z ∧ ∀ b, wpAls P Q rest (a.put o.dst (.pointer (some ⟨b, 0, none⟩))) (⟨b, z, ty⟩ :: L)
def wpHead (P : Program) (ops : Array Oper) (C : World → Prop) (Q : Act → Prop) : List Oper → Act → Prop
  | [], a => Q a
  | o :: rest, a => ∃ v, yieldsB P ops C o v a ∧ wpHead P ops C Q rest (a.put o.dst v)

theorem getD_own (l : Array Bool) (k : Nat) : (l.setIfInBounds k true).getD k true = true := by
  rcases Nat.lt_or_ge k l.size with h | h
  · simp [h]
  · simp [Nat.not_lt.2 h]
theorem anyX_als {g : Nat} {Lq : Act → List Blk → Prop} (hLq : ∀ a L L', L.Perm L' → Lq a L → Lq a L') (hs : Region.sinkB md ops n = true) (hc : Region.chainB md ops n = true) (hn : n < ops.size) :
    ∀ (l : List Oper) (k : Nat) (listed : Array Bool) (a : Act) (L : List Blk), (∀ j, j < l.length → l[j]? = ops[k + j]?) → k + l.length = n → HeadInv md ops n listed →
    (∀ j, j < k → listed.getD j true = true) →
    Region.alsB md ops n g l.length k listed = true → wpAls P Lq l a L →
    anyX P md ops C n (fun listed' a' L' => Region.seqB md ops g n listed' = true ∧ Lq a' L') l.length listed a L
  | [], k, listed, a, L, _, hk, _, _, hB, h => by
    have : k = n := by simpa using hk
    subst this
    simp only [List.length_nil, Region.alsB, Bool.and_eq_true] at hB
    exact ⟨hB.2, h⟩
  | o :: l, k, listed, a, L, hl, hk, inv, hlt, hB, h => by
    have h0 : ops[k]? = some o := by simpa using (hl 0 (by simp)).symm
    simp only [List.length_cons, Region.alsB, Bool.and_eq_true, h0] at hB
    obtain ⟨⟨hr, ⟨_, hg⟩, hall⟩, hB'⟩ := hB
    have hkn : k < n := by simp only [List.length_cons] at hk; omega
    have hr' : k ∈ Region.ready md ops listed := by simpa using hr
    obtain ⟨ty, z, h1, h2, h3⟩ := h
    have hlt' : ∀ j, j < k + 1 → (listed.setIfInBounds k true).getD j true = true := fun j hj => by
      by_cases e : k = j
      · subst e
        exact getD_own _ _
      · rw [getD_set_ne true e]; exact hlt j (by omega)
    refine anyX_alloc (fun listed a L L' hp hq => ⟨hq.1, hLq _ _ _ hp hq.2⟩) h0 ⟨h1, by simpa using hg⟩ h2 hs hc hn hkn (fun listed' a' L' hL => seqB_ready hL.1) l.length listed a L inv ?_ hr' fun b =>
      anyX_als hLq hs hc hn l (k + 1) _ _ _ (fun j hj => by have := hl (j + 1) (by simp; omega); simpa [Nat.add_assoc, Nat.add_comm 1 j] using this) (by simp only [List.length_cons] at hk; omega) (inv.set hr' hkn) hlt' hB' (h3 b)
    intro j oj hoj hjk hjn hun
    have hkj : k < j := by
      rcases Nat.lt_or_ge j k with e | e
      · rw [hlt j e] at hun; cases hun
      · omega
    have hx := als_op l.length (k + 1) _ hB' (by simp only [List.length_cons] at hk; omega) j (by omega) hjn oj hoj
    have hy := List.all_eq_true.1 hall j (List.mem_range.2 hjn)
    simp only [hoj, Bool.or_eq_true, decide_eq_true_eq] at hy
    exact ⟨hx, .inl (hy.resolve_left (by omega))⟩
where
  als_op {md : Region.Mode} {ops : Array Oper} {n g : Nat} : ∀ (f k : Nat) (listed : Array Bool), Region.alsB md ops n g f k listed = true → k + f = n → ∀ j, k ≤ j → j < n → ∀ oj, ops[j]? = some oj → ∃ ty, isAlloc oj ty
    | 0, k, _, _, hk, j, h1, h2, _, _ => by omega
    | f + 1, k, listed, hB, hk, j, h1, h2, oj, hoj => by
      simp only [Region.alsB, Bool.and_eq_true] at hB
      obtain ⟨⟨_, hm⟩, hB'⟩ := hB
      by_cases e : j = k
      · subst e
        simp only [hoj, Bool.and_eq_true] at hm
        obtain ⟨⟨m1, m2⟩, _⟩ := hm
        cases h5 : oj.op <;> simp only [h5] at m1 <;> first | cases m1 | skip
        exact ⟨_, h5, by simpa using m2⟩
      · exact als_op f (k + 1) _ hB' (by omega) j (by omega) h2 oj hoj

theorem noAl_spec {k : Nat} {o : Oper} (ho : ops[k]? = some o) (h : Region.noAl ops k = true) : ∀ ty, ¬ isAlloc o ty := by
  intro ty ⟨h1, _⟩
  simp [Region.noAl, ho, h1] at h

theorem anyX_lex {m : Nat} {Lq : Act → List Blk → Prop} (hLq : ∀ a L L', L.Perm L' → Lq a L → Lq a L') (hsel : Region.noSelect ops = true) (hs : Region.sinkB md ops n = true) (hc : Region.chainB md ops n = true) (hn : n < ops.size) (als : List Oper)
    (hals : ∀ j, j < als.length → als[j]? = ops[m + j]?) (hlen : m + als.length = n) (L : List Blk) :
    ∀ (l : List Oper) (k : Nat) (listed : Array Bool) (a : Act), (∀ j, j < l.length → l[j]? = ops[k + j]?) → k + l.length = m → HeadInv md ops n listed →
    (∀ j, j < k → listed.getD j true = true) →
    Region.lexX md ops m n l.length k listed = true → wpHead P ops C (fun a' => wpAls P Lq als a' L) l a →
    anyX P md ops C n (fun listed' a' L' => Region.seqB md ops (ops.size - n) n listed' = true ∧ Lq a' L') (l.length + als.length) listed a L
  | [], k, listed, a, _, hk, inv, hlt, hB, h => by
    simp only [List.length_nil, Region.lexX, Bool.and_eq_true, decide_eq_true_eq] at hB
    obtain ⟨rfl, hB⟩ := hB
    rw [List.length_nil, Nat.zero_add]
    have : n - k = als.length := by omega
    rw [this] at hB
    exact anyX_als hLq hs hc hn als k listed a L hals hlen inv hlt hB h
  | o :: l, k, listed, a, hl, hk, inv, hlt, hB, h => by
    have h0 : ops[k]? = some o := by simpa using (hl 0 (by simp)).symm
    simp only [List.length_cons, Region.lexX, Bool.and_eq_true] at hB
    obtain ⟨⟨⟨hr, hf⟩, hna⟩, hB'⟩ := hB
    have hkn : k < n := by simp only [List.length_cons] at hk; omega
    have hr' : k ∈ Region.ready md ops listed := by simpa using hr
    obtain ⟨v, hy, hK⟩ := h
    have hlt' : ∀ j, j < k + 1 → (listed.setIfInBounds k true).getD j true = true := fun j hj => by
      by_cases e : k = j
      · subst e; exact getD_own _ _
      · rw [getD_set_ne true e]; exact hlt j (by omega)
    have := anyX_first h0 (noAl_spec h0 hna) (Region.noSelect_spec hsel) hs hc hn hkn (fun listed' a' L' hL => seqB_ready hL.1) (l.length + als.length) listed a L inv (Region.free_spec h0 hf) hr' hy
      (anyX_lex hLq hsel hs hc hn als hals hlen L l (k + 1) _ _ (fun j hj => by have := hl (j + 1) (by simp; omega); simpa [Nat.add_assoc, Nat.add_comm 1 j] using this) (by simp only [List.length_cons] at hk; omega) (inv.set hr' hkn) hlt' hB' hK)
    rw [List.length_cons, show l.length + 1 + als.length = l.length + als.length + 1 by omega]
    exact this

theorem wp_region_alloc {id : Nat} {Q : Exit → Act → World → Prop} {l : List Oper} (m n : Nat) (h : St B w0 L R w) (hm : P.follows .mixedOrders = true) (hB : Region.lexAllocB .any l.toArray m n = true)
    (k : wpHead P l.toArray (St B w0 L R) (fun a' => wpAls P (fun a'' L' => ∀ w', St B w0 L' R w' → wpList P l.toArray Q (l.drop n) a'' w') ((l.take n).drop m) a' L) (l.take m) a) : (Code.region id l.toArray true).wp P Q a w := by
  simp only [Region.lexAllocB, Bool.and_eq_true, decide_eq_true_eq] at hB
  obtain ⟨⟨⟨⟨⟨hsel, hmn⟩, hn⟩, hs⟩, hc⟩, hlex⟩ := hB
  have hn' : n < l.length := by simpa using hn
  have htl : (l.take m).length = m := by simp; omega
  have hal : ((l.take n).drop m).length = n - m := by simp; omega
  have hdl : (l.drop n).length = l.toArray.size - n := by simp
  have inv0 : HeadInv .any l.toArray n (Array.replicate l.toArray.size false) :=
    ⟨by simp, fun j oj _ hl => (by rw [getD_replicate_false] at hl; cases hl), fun t _ ht => getD_in (by simpa using ht) (getD_replicate_false _ _)⟩
  have H := anyX_lex (md := .any) (C := St B w0 L R) (n := n) (m := m) (Lq := fun a'' L' => ∀ w', St B w0 L' R w' → wpList P l.toArray Q (l.drop n) a'' w') (fun a L1 L2 hp hq w' hw' => hq w' (hw'.perm hp.symm)) hsel hs hc hn ((l.take n).drop m)
    (fun j hj => by
      have : m + j < n := by rw [hal] at hj; omega
      simp [List.getElem?_drop, this]) (by rw [hal]; omega) L (l.take m) 0 (Array.replicate l.toArray.size false) a
    (fun j hj => by
      have : j < m := by rw [htl] at hj; exact hj
      simp [this]) (by rw [htl]; omega) inv0 (fun j hj => by omega) (by rw [htl]; exact hlex) k
  refine wp_region_any hm ?_
  have := wpAny_of_anyX (B := B) (w0 := w0) (R := R) (L0 := L) (Q' := Q) (g := l.toArray.size - n) (fun listed a' L' w' hw' hL => by
    have := wpAny_of_seq (md := .any) (Q' := Q) (l.drop n) n listed a' w' (fun j => by simp [List.getElem?_drop]) (by rw [hdl]; exact hL.1) (hL.2 w' hw')
    rwa [hdl] at this) _ _ _ _ _ h.drew ⟨[], rfl⟩ H
  rw [htl, hal, show m + (n - m) + (l.toArray.size - n) = l.toArray.size by omega] at this
  exact this

/-! ### The steps of the walk -/
variable {o : Oper} {rest : List Oper} {Qh : Act → Prop}
theorem hd_skip (hw : Region.wanted o (yielded ops a.tmps) = false) (k : wpHead P ops C Qh rest (a.put o.dst undef)) : wpHead P ops C Qh (o :: rest) a := ⟨undef, .inr ⟨hw, rfl⟩, k⟩
theorem hd_val {v : Value} (hw : Region.wanted o (yielded ops a.tmps) = true) (hr : ∀ w, C w → (execOp a.eval o).run P w = .ok (.value v) w) (k : wpHead P ops C Qh rest (a.put o.dst v)) : wpHead P ops C Qh (o :: rest) a :=
  ⟨v, .inl ⟨hw, fun w hw' => by rw [hr w hw']; exact ⟨rfl, rfl⟩⟩, k⟩
theorem hd_ex (hw : Region.wanted o (yielded ops a.tmps) = true) (h : ∃ v, (∀ w, (execOp a.eval o).run P w = .ok (.value v) w) ∧ wpHead P ops C Qh rest (a.put o.dst v)) : wpHead P ops C Qh (o :: rest) a :=
  let ⟨_, h1, h2⟩ := h
  hd_val hw (fun w _ => h1 w) h2
theorem hd_call (f : FuncId) (hw : Region.wanted o (yielded ops a.tmps) = true) (h : ∃ args, (∀ w, (execOp a.eval o).run P w = .ok (.enter f args) w) ∧ ∃ v, Pure P f args v ∧ wpHead P ops C Qh rest (a.put o.dst v)) : wpHead P ops C Qh (o :: rest) a :=
  let ⟨_, h1, v, h2, h3⟩ := h
  ⟨v, .inl ⟨hw, fun w _ => by rw [h1 w]; exact ⟨rfl, h2 w⟩⟩, h3⟩
theorem hd_load {b : Nat} {cs : List Value} {t ty : TypeId} {x : Operand} (ho : o.op = .load ty x) (hw : Region.wanted o (yielded ops a.tmps) = true) {off : Nat} (ha : a.eval x = .pointer (some ⟨b, off, none⟩))
    [hb : Has b L cs t] {k : Nat} [ht : TyI P ty true k] {vs : List Value} (hv0 : subL cs off k = some vs)
    (kk : wpHead P ops (St B w0 L R) Qh rest (a.put o.dst (.agg vs.toArray))) : wpHead P ops (St B w0 L R) Qh (o :: rest) a :=
  hd_val hw (fun w hw' => by obtain ⟨hv, hl⟩ := subL_spec _ _ _ _ hv0; simp [execOp, ho, ha, Instr.loadAt, Instr.sureAddr, hw'.run_load (P := P) (ty := ty) hv hl]) kk
theorem hd_load1 {b : Nat} {cs : List Value} {t ty : TypeId} {x : Operand} (ho : o.op = .load ty x) (hw : Region.wanted o (yielded ops a.tmps) = true) {off : Nat} (ha : a.eval x = .pointer (some ⟨b, off, none⟩))
    [hb : Has b L cs t] {k : Nat} [ht : TyI P ty false k] {v : Value} (hv0 : nthL cs off = some v)
    (kk : wpHead P ops (St B w0 L R) Qh rest (a.put o.dst v)) : wpHead P ops (St B w0 L R) Qh (o :: rest) a :=
  hd_val hw (fun w hw' => by have hv := (nthL_eq _ _).symm.trans hv0; simp [execOp, ho, ha, Instr.loadAt, Instr.sureAddr, hw'.run_load1 (P := P) (ty := ty) hv]) kk
theorem al_step {Lq : Act → List Blk → Prop} {ty : TypeId} {z : List Value} [hz : TyZ P ty z] (ho : o.op = .alloc ty) (k : ∀ b, wpAls P Lq rest (a.put o.dst (.pointer (some ⟨b, 0, none⟩))) (⟨b, z, ty⟩ :: L)) : wpAls P Lq (o :: rest) a L := ⟨ty, z, ho, hz, k⟩
end
end Go.Proofs.Ytjfhhlfjfcgcmaa
