/-
  What an operation does, and that the run says so: values, parts, loads, stores.
-/
import Derived.Test.YtfaghnapfkpdhaaSymD
namespace Go.Proofs.Ytfaghnapfkpdhaa
open Go.RowKit

theorem bytes_back (l : List UInt8) : (l.map UInt8.toNat).map UInt8.ofNat = l := by
  induction l with
  | nil => rfl
  | cons x xs ih => simp only [List.map_cons, ih]; simp
theorem atOf_rel {c : Ct} : ∀ {v : Value} {x : At}, atOf v = some x → x.rel c v := by
  intro v x h
  unfold atOf at h
  split at h <;> cases h
  · rfl
  · rfl
  · simp only [At.rel, Ex.ev, Sc.str, bytes_back]
  · rfl
  · rfl
theorem atsOf_rel {c : Ct} : ∀ {vs : List Value} {xs : List At}, atsOf vs = some xs → relL c xs vs
  | [], xs, h => by simp [atsOf] at h; subst h; trivial
  | v :: vs, xs, h => by
    unfold atsOf at h
    split at h
    · rename_i x xs' h1 h2
      cases h
      exact ⟨atOf_rel h1, atsOf_rel h2⟩
    · cases h
theorem svOf_rel {c : Ct} {v : Value} {s : SV} (h : svOf v = some s) : s.rel c v := by
  unfold svOf at h
  split at h
  · rename_i cs
    cases h1 : atsOf cs.toList with
    | none => simp [h1] at h
    | some xs => simp [h1] at h; subst h; exact ⟨cs.toList, by simp, atsOf_rel h1⟩
  · rename_i vs
    split at h
    · rename_i h1
      cases h
      exact ⟨[], by rw [← h1], trivial⟩
    · cases h
  · simp only [Option.map_eq_some_iff] at h
    obtain ⟨x, h1, rfl⟩ := h
    exact atOf_rel h1

structure RdOk (σ : St) (c : Ct) (a : Act) (rd : Rd) : Prop where
  ev : ∀ x, (rd.ev x).rel c (a.eval x)
  blk : ∀ p k, rd.blk p = some k → σ.blk p = some k
  row : ∀ p k, rd.row p = some k → σ.row p = some k
theorem evS_rel {c : Ct} {a : Act} {slot : Nat → SV} (h : ∀ t, (slot t).rel c (a.tmps.getD t undef)) (x : Operand) : (evS slot x).rel c (a.eval x) := by
  cases x with
  | tmp t => exact h t
  | const v =>
    simp only [evS]
    cases hv : svOf v with
    | none => trivial
    | some s => exact svOf_rel hv
  | global _ => trivial
  | func f => exact ⟨[], rfl, rfl⟩
theorem rdOf_ok {B : Nat} {w0 : World} {σ : St} {c : Ct} {a : Act} {w : World} (g : Good B w0 σ c a w) (ts : List Tmp) (nv nb nr : Nat) : RdOk σ c a (rdOf σ.slot σ.blk σ.row ts nv nb nr) := by
  refine ⟨fun x => evS_rel (fun t => ?_) x, fun p k h => ?_, fun p k h => ?_⟩
  · cases hasN ts t
    · trivial
    · exact g.slots t
  · simp only [rdOf] at h
    cases hh : hasN (ts.flatMap fun t => (σ.slot t).bids) p <;> rw [hh] at h <;> simp at h
    exact h
  · simp only [rdOf] at h
    cases hh : hasN (ts.flatMap fun t => (σ.slot t).rids) p <;> rw [hh] at h <;> simp at h
    exact h

def Does (P : Program) (B : Nat) (w0 : World) (σ : St) (c : Ct) (a : Act) (w : World) (o : Oper) (r : OpR) : Prop :=
  ∃ nx w' v c', (execOp a.eval o).run P w = .ok nx w' ∧ (nx = .value v ∨ (nx = .skip ∧ v = undef)) ∧ c.le c' ∧ (∀ i, i ∉ r.nb → c'.β i = c.β i) ∧ (∀ i, i ∉ r.nr → c'.R i = c.R i) ∧
    r.val.rel c' v ∧ Good B w0 { σ with blks := putBlks σ.blks r.blks, rows := putRows σ.rows r.rows } c' a w'

section
variable {P : Program} {B : Nat} {w0 : World} {σ : St} {c : Ct} {a : Act} {w : World} {o : Oper} {rd : Rd}
theorem Does.quiet (g : Good B w0 σ c a w) {sv : SV} {v : Value} {needs : List Ex} (hr : (execOp a.eval o).run P w = .ok (.value v) w) (hv : sv.rel c v) :
    Does P B w0 σ c a w o ⟨needs, none, sv, [], [], [], []⟩ := ⟨_, w, v, c, hr, .inl rfl, .refl c, fun _ _ => rfl, fun _ _ => rfl, hv, g⟩

theorem run_isAggB {ty : TypeId} {b : Bool} (h : isAggB P ty = some b) (w : World) : (isAgg ty).run P w = .ok b w := by
  unfold isAggB at h
  unfold isAgg
  split at h
  · rename_i h1; cases h; simp [run_underlying h1]
  · rename_i h1; cases h; simp [run_underlying h1]
  · rename_i d h1 h2 h3
    cases h
    rw [Sem.run_bind, run_underlying h3 w]
    simp only [Result.andThen_ok]
    rfl
  · cases h
theorem run_sizeB {ty : TypeId} {n : Nat} (h : sizeB P ty = some n) (w : World) : (sizeOf ty).run P w = .ok n w := by
  unfold sizeB at h
  cases hi : P.info? ty with
  | none => simp [hi] at h
  | some i => simp [hi] at h; simp [sizeOf, typeInfo, hi, h]

theorem takeL_rel : ∀ {xs : List At} {vs : List Value} {off n : Nat} {ys : List At}, takeL xs off n = some ys → relL c xs vs → relL c ys ((vs.drop off).take n) ∧ ((vs.drop off).take n).length = n
  | xs, vs, 0, 0, ys, h, _ => by simp [takeL] at h; subst h; simp [relL]
  | [], vs, 0, n + 1, ys, h, _ => by simp [takeL] at h
  | [], vs, o + 1, n, ys, h, _ => by simp [takeL] at h
  | x :: xs, [], _, _, _, _, hr => hr.elim
  | x :: xs, v :: vs, 0, n + 1, ys, h, hr => by
    simp only [takeL] at h
    cases h1 : takeL xs 0 n with
    | none => simp [h1] at h
    | some zs =>
      simp [h1] at h; subst h
      have := takeL_rel h1 hr.2
      simp only [List.drop_zero] at this
      exact ⟨⟨hr.1, this.1⟩, by simp [this.2]⟩
  | x :: xs, v :: vs, o + 1, n, ys, h, hr => by
    simp only [takeL] at h
    simpa using takeL_rel h hr.2

theorem part_run {ty : TypeId} {cs : List At} {off : Nat} {sv : SV} (h : part? P ty cs off = some sv) {vs : List Value} (hr : relL c cs vs) (w : World) :
    ∃ v, (part ty vs.toArray off).run P w = .ok v w ∧ sv.rel c v := by
  unfold part? at h
  split at h
  · rename_i n h1 h2
    cases h3 : takeL cs off n with
    | none => simp [h3] at h
    | some ys =>
      simp [h3] at h; subst h
      obtain ⟨q1, q2⟩ := takeL_rel h3 hr
      refine ⟨.agg ((vs.drop off).take n).toArray, ?_, _, rfl, q1⟩
      simp [part, run_isAggB h1, run_sizeB h2]
  · rename_i h1
    cases h3 : cs[off]? with
    | none => simp [h3] at h
    | some x =>
      simp [h3] at h; subst h
      obtain ⟨v, q1, q2⟩ := relL_get hr h3
      exact ⟨v, by simp [part, run_isAggB h1, q1], q2⟩
  · cases h

/-- A variable in a row of cells that can be read. -/
theorem loadVar_run {ty : TypeId} {cs : List At} {off : Nat} {sv : SV} (h : part? P ty cs off = some sv) {vs : List Value} (hr : relL c cs vs) {n base : Nat} (hc : ∀ j v, vs[j]? = some v → w.cell? ⟨n, base + j, none⟩ = some v) :
    ∃ v, (loadVar ty ⟨n, base + off, none⟩).run P w = .ok v w ∧ sv.rel c v := by
  unfold part? at h
  split at h
  · rename_i m h1 h2
    cases h3 : takeL cs off m with
    | none => simp [h3] at h
    | some ys =>
      simp [h3] at h; subst h
      obtain ⟨q1, q2⟩ := takeL_rel h3 hr
      refine ⟨.agg ((vs.drop off).take m).toArray, ?_, _, rfl, q1⟩
      have hl : (loadCells ⟨n, base + off, none⟩ m).run P w = .ok ((vs.drop off).take m).toArray w := by
        have := run_loadCells_list (P := P) w ⟨n, base + off, none⟩ ((vs.drop off).take m) (fun j v hv => by
          rw [List.getElem?_take] at hv
          split at hv
          · rw [List.getElem?_drop] at hv
            have h4 := hc _ _ hv
            have h5 : (⟨n, base + off, none⟩ : Addr).add j = ⟨n, base + (off + j), none⟩ := by unfold Addr.add; split <;> simp_all <;> omega
            rw [h5]; exact h4
          · cases hv)
        rw [q2] at this
        exact this
      simp [loadVar, run_isAggB h1, run_sizeB h2, hl]
  · rename_i h1
    cases h3 : cs[off]? with
    | none => simp [h3] at h
    | some x =>
      simp [h3] at h; subst h
      obtain ⟨v, q1, q2⟩ := relL_get hr h3
      refine ⟨v, ?_, q2⟩
      have := hc off v q1
      simp [loadVar, run_isAggB h1, load, Sem.run, this]
  · cases h

theorem ckAts_rel (e : Ex) : ∀ (ks : List CK) (n : Nat), relL c (ckAts e ks n) (elVals (e.ev c.ρ) ks n)
  | [], _ => trivial
  | k :: ks, n => by
    refine ⟨?_, ckAts_rel e ks (n + 1)⟩
    cases k <;> simp [ckAt, At.rel, CK.val, mk1_ev, U1.ev]
theorem cellsOf_rel (agg : Bool) (ks : List CK) (e : Ex) : relL c (cellsOf agg ks e) (elCells agg ks (e.ev c.ρ)) := by
  unfold cellsOf elCells
  cases agg
  · match ks with
    | [] => trivial
    | [k] => refine ⟨?_, trivial⟩; cases k <;> rfl
    | _ :: _ :: _ => trivial
  · exact ckAts_rel e ks 0
theorem elVals_length (x : Sc) : ∀ (ks : List CK) (n : Nat), (elVals x ks n).length = ks.length
  | [], _ => rfl
  | k :: ks, n => by simp [elVals, elVals_length x ks]
/-- Rows of elements whose cells' number is known. -/
def okForm (agg : Bool) (ks : List CK) : Prop := agg = true ∨ ks.length = 1
theorem elCells_length {agg : Bool} {ks : List CK} (h : okForm agg ks) (x : Sc) : (elCells agg ks x).length = ks.length := by
  unfold elCells
  cases agg
  · match ks, h with
    | [k], _ => rfl
    | [], h => rcases h with h | h <;> simp at h
    | _ :: _ :: _, h => rcases h with h | h <;> simp at h
  · exact elVals_length x ks 0
theorem flat_get {agg : Bool} {ks : List CK} (h : okForm agg ks) : ∀ (l : List Sc) (i j : Nat) (u : Value), i < l.length → (elCells agg ks (l.getD i (.i 0)))[j]? = some u → (rowFlat agg ks l)[i * ks.length + j]? = some u
  | [], i, _, _, hi, _ => by simp at hi
  | x :: l, 0, j, u, _, hu => by
    simp only [List.getD_cons_zero] at hu
    have hj : j < (elCells agg ks x).length := (List.getElem?_eq_some_iff.1 hu).1
    simp only [rowFlat, List.flatMap_cons, Nat.zero_mul, Nat.zero_add]
    rw [List.getElem?_append_left hj]; exact hu
  | x :: l, i + 1, j, u, hi, hu => by
    have ih := flat_get h l i j u (by simpa using hi) (by simpa using hu)
    simp only [rowFlat, List.flatMap_cons]
    rw [List.getElem?_append_right (by rw [elCells_length h]; rw [Nat.add_mul]; omega), elCells_length h]
    rw [show (i + 1) * ks.length + j - ks.length = i * ks.length + j by rw [Nat.add_mul]; omega]
    exact ih
theorem flat_length {agg : Bool} {ks : List CK} (h : okForm agg ks) (l : List Sc) : (rowFlat agg ks l).length = l.length * ks.length := by
  induction l with
  | nil => simp [rowFlat]
  | cons x l ih => simp only [rowFlat, List.flatMap_cons, List.length_append, elCells_length h, List.length_cons] at ih ⊢; rw [ih, Nat.add_mul]; omega
theorem flat_append (agg : Bool) (ks : List CK) (l m : List Sc) : rowFlat agg ks (l ++ m) = rowFlat agg ks l ++ rowFlat agg ks m := by simp [rowFlat]
theorem elVals_one (x : Sc) : ∀ (ks : List CK) (n : Nat), ∀ u ∈ elVals x ks n, u.oneCell' = true
  | [], _, u, h => by simp [elVals] at h
  | k :: ks, n, u, h => by
    simp only [elVals, List.mem_cons] at h
    rcases h with rfl | h
    · cases k <;> rfl
    · exact elVals_one x ks (n + 1) u h
theorem flat_one (agg : Bool) (ks : List CK) (l : List Sc) : ∀ u ∈ rowFlat agg ks l, u.oneCell' = true := by
  intro u h
  simp only [rowFlat, List.mem_flatMap] at h
  obtain ⟨x, _, h⟩ := h
  unfold elCells at h
  split at h
  · exact elVals_one x _ 0 u h
  · rename_i k; simp at h; subst h; cases k <;> rfl
  · simp at h
end
end Go.Proofs.Ytfaghnapfkpdhaa
