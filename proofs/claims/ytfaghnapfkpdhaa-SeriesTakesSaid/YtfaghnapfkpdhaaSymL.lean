/-
  What an operation does: composite values.
-/
import Derived.Test.YtfaghnapfkpdhaaSymK
import Derived.Laws.Slices
import Derived.Great.BuildSlice
namespace Go.Proofs.Ytfaghnapfkpdhaa
open Go.RowKit

theorem setAll (off : Nat) : ∀ (us : List Value) (k : Nat) (vs : List Value), off + k + us.length ≤ vs.length →
    (us.zipIdx k).foldl (fun (cs : Array Value) (x : Value × Nat) => cs.setIfInBounds (off + x.2) x.1) vs.toArray = (vs.take (off + k) ++ us ++ vs.drop (off + k + us.length)).toArray
  | [], k, vs, _ => by simp
  | u :: us, k, vs, h => by
    simp only [List.length_cons] at h
    simp only [List.zipIdx_cons, List.foldl_cons, List.setIfInBounds_toArray]
    rw [setAll off us (k + 1) (vs.set (off + k) u) (by simp; omega)]
    congr 1
    have h1 : (vs.set (off + k) u).take (off + (k + 1)) = vs.take (off + k) ++ [u] := by
      rw [show off + (k + 1) = (off + k) + 1 by omega, List.take_succ_eq_append_getElem (by simp; omega)]
      simp [List.take_set_of_le]
    have h2 : (vs.set (off + k) u).drop (off + (k + 1) + us.length) = vs.drop (off + k + (us.length + 1)) := by
      rw [show off + (k + 1) + us.length = off + k + (us.length + 1) by omega, List.drop_set_of_lt (by omega)]
    rw [h1, h2]
    simp
theorem setAll0 (off : Nat) (us vs : List Value) (h : off + us.length ≤ vs.length) (f : Array Value → Value × Nat → Array Value) (hf : f = fun cs x => cs.setIfInBounds (off + x.2) x.1) :
    us.toArray.zipIdx.foldl f vs.toArray = (vs.take off ++ us ++ vs.drop (off + us.length)).toArray := by
  subst hf
  have := setAll off us 0 vs (by simpa using h)
  rw [← Array.foldl_toList, Array.toList_zipIdx]
  simpa using this

section
variable {P : Program} {B : Nat} {w0 : World} {σ : St} {c : Ct} {a : Act} {w : World} {o : Oper} {rd : Rd}

theorem fillL_run {place : Nat → Option (Nat × Nat)} : ∀ {parts : List (Nat × SV)} {vparts : List (Nat × Value)} {cs cs' : List At} {vs : List Value}, fillL place cs parts = some cs' → relL c cs vs → cs.length = vs.length →
    parts.length = vparts.length → (∀ i (h1 : i < parts.length) (h2 : i < vparts.length), (parts[i]).1 = (vparts[i]).1 ∧ (parts[i]).2.rel c (vparts[i]).2) →
    ∃ vs', Instr.fill place vs.toArray vparts = some vs'.toArray ∧ relL c cs' vs'
  | [], [], cs, cs', vs, h, hr, _, _, _ => by simp [fillL] at h; subst h; exact ⟨vs, rfl, hr⟩
  | [], _ :: _, _, _, _, _, _, _, hl, _ => by simp at hl
  | _ :: _, [], _, _, _, _, _, _, hl, _ => by simp at hl
  | (i, x) :: parts, (i', v) :: vparts, cs, cs', vs, h, hr, hcs, hl, hp => by
    have h0 := hp 0 (by simp) (by simp)
    simp only [List.getElem_cons_zero] at h0
    obtain ⟨rfl, hx⟩ := h0
    unfold fillL at h
    split at h
    · rename_i off size xs h1 h2
      split at h
      · rename_i hlen
        obtain ⟨hlen, hkn⟩ := hlen
        split at h
        · rename_i cs2 h3
          obtain ⟨us, hu, hur⟩ := sv_cells h2 hkn hx
          obtain ⟨h4, h5⟩ := spliceL_rel h3 hr hur
          have hul : us.length = size := by rw [relL_len hur, hlen]
          have h6 := setAll0 off us vs h5 _ rfl
          have := fillL_run (parts := parts) (vparts := vparts) h h4 (by
            have := relL_len h4; exact this.symm) (by simpa using hl) (fun j h1 h2 => by
              have := hp (j + 1) (by simp; omega) (by simp; omega)
              simpa using this)
          obtain ⟨vs', e1, e2⟩ := this
          refine ⟨vs', ?_, e2⟩
          unfold Instr.fill
          simp only [h1, hu, List.size_toArray, hul]
          rw [if_neg (by simp; omega)]
          rw [h6]
          exact e1
        · cases h
      · cases h
    · cases h

theorem elVals_list (x : Sc) : ∀ (ks : List CK) (n : Nat), elVals x ks n = elVals (.l x.list) ks n
  | [], _ => rfl
  | k :: ks, n => by simp [elVals, elVals_list x ks]
theorem atCk_val {k : CK} {x : At} {e : Ex} (h : atCk k x = some e) {v : Value} (hr : x.rel c v) : v = k.val (e.ev c.ρ) := by
  unfold atCk at h
  split at h
  · split at h
    · rename_i hk; cases h; subst hk; exact hr
    · cases h
  · cases h; exact hr
  · cases h; exact hr
  · cases h
theorem atCks_val : ∀ {ks : List CK} {xs : List At} {e : Ex}, atCks ks xs = some e → ∀ {vs : List Value}, relL c xs vs → ∀ (l : List Sc), elVals (.l (l ++ (e.ev c.ρ).list)) ks l.length = vs
  | [], [], e, h, vs, hr, l => by
    cases vs with
    | nil => rfl
    | cons => exact hr.elim
  | k :: ks, x :: xs, e, h, vs, hr, l => by
    match vs, hr with
    | v :: vs, hr =>
      unfold atCks at h
      split at h
      · rename_i e1 e2 h1 h2
        cases h
        have ih := atCks_val h2 hr.2 (l ++ [e1.ev c.ρ])
        simp only [elVals, Ex.ev, U2.ev, Sc.list_l]
        rw [atCk_val h1 hr.1]
        congr 1
        · simp
        · simpa using ih
      · cases h
  | [], _ :: _, e, h, _, _, _ => by simp [atCks] at h
  | _ :: _, [], e, h, _, _, _ => by simp [atCks] at h
/-- An element, as an expression, has the cells of its value. -/
theorem elemOf_val {agg : Bool} {ks : List CK} {x : SC} {e : Ex} (h : elemOf agg ks x = some e) {v : Value} (hr : x.rel c v) : v.cells = (elCells agg ks (e.ev c.ρ)).toArray := by
  unfold elemOf at h
  split at h
  · split at h
    · rename_i k
      rw [atCk_val h hr]
      cases k <;> rfl
    · cases h
  · split at h
    · obtain ⟨vs, rfl, hr⟩ := hr
      have := atCks_val h hr []
      simp only [elCells, Value.cells]
      rw [elVals_list, ← this]; rfl
    · cases h

theorem elems_fill {agg : Bool} {ks : List CK} (hok : okForm agg ks) : ∀ (parts : List (Nat × SV)) (vparts : List (Nat × Value)) (n : Nat) (e : Ex) (vs : List Value), elemsOf agg ks n parts = some e → parts.length = vparts.length →
    (∀ i (h1 : i < parts.length) (h2 : i < vparts.length), (parts[i]).1 = (vparts[i]).1 ∧ (parts[i]).2.rel c (vparts[i]).2) → vs.length = (n + parts.length) * ks.length →
    Instr.fill (fun i => some (i * ks.length, ks.length)) vs.toArray vparts = some (vs.take (n * ks.length) ++ rowFlat agg ks (e.ev c.ρ).list).toArray ∧ (e.ev c.ρ).list.length = parts.length
  | [], [], n, e, vs, h, _, _, hl => by
    simp [elemsOf] at h; subst h
    refine ⟨?_, rfl⟩
    simp only [Instr.fill, Ex.ev, Sc.list_l, rowFlat, List.flatMap_nil, List.append_nil]
    rw [List.take_of_length_le (by simp at hl; omega)]
  | [], _ :: _, _, _, _, _, hl, _, _ => by simp at hl
  | _ :: _, [], _, _, _, _, hl, _, _ => by simp at hl
  | (i, x) :: parts, (i', v) :: vparts, n, e, vs, h, hl, hp, hlen => by
    have h0 := hp 0 (by simp) (by simp)
    simp only [List.getElem_cons_zero] at h0
    obtain ⟨rfl, hx⟩ := h0
    unfold elemsOf at h
    split at h
    · rename_i hi
      subst hi
      split at h
      · rename_i e1 e2 h1 h2
        cases h
        obtain ⟨y, hy1, hy2⟩ := Option.bind_eq_some_iff.1 h1
        have hv := elemOf_val hy2 (sc_of_rel hy1 hx)
        have hcl := elCells_length hok (e1.ev c.ρ)
        simp only [List.length_cons] at hlen
        have hfit : i * ks.length + (elCells agg ks (e1.ev c.ρ)).length ≤ vs.length := by
          rw [hcl, hlen, Nat.add_mul, Nat.add_mul]; omega
        have h6 := setAll0 (i * ks.length) (elCells agg ks (e1.ev c.ρ)) vs hfit _ rfl
        have ih := elems_fill hok parts vparts (i + 1) e2 (vs.take (i * ks.length) ++ elCells agg ks (e1.ev c.ρ) ++ vs.drop (i * ks.length + (elCells agg ks (e1.ev c.ρ)).length)) h2 (by simpa using hl) (fun j q1 q2 => by
          have := hp (j + 1) (by simp; omega) (by simp; omega)
          simpa using this) (by
            simp only [List.length_append, List.length_take, List.length_drop]
            rw [Nat.min_eq_left (by omega)]
            rw [show i + 1 + parts.length = i + (parts.length + 1) by omega, ← hlen]; omega)
        refine ⟨?_, by simp [Ex.ev, U2.ev, ih.2]⟩
        unfold Instr.fill
        simp only [hv, List.size_toArray, hcl]
        rw [if_neg (by simp; rw [hcl] at hfit; omega), h6, ih.1]
        congr 2
        rw [List.take_append_of_le_length (by simp; rw [hcl, Nat.min_eq_left (by omega), Nat.add_mul]; omega)]
        rw [List.take_of_length_le (by simp; rw [hcl, Nat.min_eq_left (by omega), Nat.add_mul]; omega)]
        simp [Ex.ev, U2.ev, rowFlat]
      · cases h
    · cases h
end
end Go.Proofs.Ytfaghnapfkpdhaa
