/-
  What an operation does: all of them, but calls of functions.
-/
import Derived.Test.YtfaghnapfkpdhaaSymL
import Derived.Laws.Tables
namespace Go.Proofs.Ytfaghnapfkpdhaa
open Go.RowKit

section
variable {P : Program} {B : Nat} {w0 : World} {σ : St} {c : Ct} {a : Act} {w : World} {o : Oper} {rd : Rd} {pl : List TypeId}

theorem zero_run {ty : TypeId} {z : Value} (h : zeroOf P ty = some z) (w : World) : (zeroValue ty).run P w = .ok z w := by
  unfold zeroOf at h
  obtain ⟨i, h1, h2⟩ := Option.bind_eq_some_iff.1 h
  simp [zeroValue, typeInfo, h1, h2]

theorem build_ok (g : Good B w0 σ c a w) (hrd : RdOk σ c a rd) {ty : TypeId} {parts : Array (Nat × Operand)} (ho : o.op = .build ty parts) {r : OpR} (h : symBase P pl o rd = some r) : Does P B w0 σ c a w o r := by
  unfold symBase at h
  simp only [ho] at h
  have hparts : ∀ (place : Nat → Option (Nat × Nat)) (zs cs : List At) (z : Value) (us : List Value), fillL place zs (parts.toList.map fun (i, x) => (i, rd.ev x)) = some cs → relL c zs us →
      ∃ vs', Instr.fill place us.toArray (parts.map fun (i, x) => (i, a.eval x)).toList = some vs'.toArray ∧ relL c cs vs' := fun place zs cs z us h1 h2 => by
    refine fillL_run h1 h2 (relL_len h2).symm (by simp) (fun i q1 q2 => ?_)
    simp only [List.length_map, Array.length_toList] at q1
    simp only [List.getElem_map, Array.toList_map]
    exact ⟨trivial, hrd.ev _⟩
  split at h
  · rename_i z fs hz hu
    split at h
    · rename_i zs places hzs hp
      split at h
      · rename_i hk
        simp only [Option.map_eq_some_iff] at h
        obtain ⟨cs, hf, rfl⟩ := h
        obtain ⟨sv, h1, h2⟩ := Option.bind_eq_some_iff.1 hzs
        obtain ⟨us, hu2, hr⟩ := sv_cells h2 hk (svOf_rel (c := c) h1)
        obtain ⟨vs', e1, e2⟩ := hparts _ zs cs z us hf hr
        have hb : P.built ty (parts.map fun (i, x) => (i, a.eval x)).toList = some vs'.toArray := by
          unfold zeroOf at hz
          obtain ⟨i, hi1, hi2⟩ := Option.bind_eq_some_iff.1 hz
          simp only [Program.built, hi1, hu, hi2, hp, hu2]
          exact e1
        exact Does.quiet g (v := .agg vs'.toArray) (by simp [execOp, ho, run_build w ty _ _ hb]) ⟨vs', rfl, e2⟩
      · cases h
    · cases h
  · rename_i z n el hz hu
    split at h
    · rename_i zs ie hzs hie
      split at h
      · rename_i hk
        simp only [Option.map_eq_some_iff] at h
        obtain ⟨cs, hf, rfl⟩ := h
        obtain ⟨sv, h1, h2⟩ := Option.bind_eq_some_iff.1 hzs
        obtain ⟨us, hu2, hr⟩ := sv_cells h2 hk (svOf_rel (c := c) h1)
        obtain ⟨vs', e1, e2⟩ := hparts _ zs cs z us hf hr
        have hb : P.built ty (parts.map fun (i, x) => (i, a.eval x)).toList = some vs'.toArray := by
          unfold zeroOf at hz
          obtain ⟨i, hi1, hi2⟩ := Option.bind_eq_some_iff.1 hz
          simp only [Program.built, hi1, hu, hi2, hie, hu2]
          exact e1
        exact Does.quiet g (v := .agg vs'.toArray) (by simp [execOp, ho, run_build w ty _ _ hb]) ⟨vs', rfl, e2⟩
      · cases h
    · cases h
  · cases h

theorem buildSlice_ok (g : Good B w0 σ c a w) (hrd : RdOk σ c a rd) {ty : TypeId} {len : Nat} {parts : Array (Nat × Operand)} (ho : o.op = .buildSlice ty len parts) {r : OpR} (hfr : ∀ i ∈ r.nr, c.R i = none) (h : symBase P pl o rd = some r) : Does P B w0 σ c a w o r := by
  unfold symBase at h
  simp only [ho] at h
  split at h
  rotate_left
  · cases h
  rename_i el hu
  split at h
  rotate_left
  · cases h
  rename_i agg ks n hrt hn
  split at h
  rotate_left
  · cases h
  rename_i hcond
  obtain ⟨hnk, hps, hsmall, hokb⟩ := hcond
  obtain ⟨hok, hpos⟩ := okForm_of hokb
  simp only [Option.map_eq_some_iff] at h
  obtain ⟨e, he, rfl⟩ := h
  have hfr := hfr rd.nr (by simp)
  unfold sizeB at hn
  obtain ⟨i, hi, hin⟩ := Option.map_eq_some_iff.1 hn
  obtain ⟨z, hz, hzs⟩ := rowTy_zero hrt hi
  have hi2 : i.size = ks.length := by rw [hin, hnk]
  -- the cells
  have hzero : ∃ us : List Value, (Array.range (len * i.size)).map (z.cells[· % z.cells.size]!) = us.toArray ∧ us.length = len * ks.length := ⟨((Array.range (len * i.size)).map (z.cells[· % z.cells.size]!)).toList, by rw [Array.toArray_toList], by rw [Array.length_toList, Array.size_map, Array.size_range, hi2]⟩
  obtain ⟨us, hus, hul⟩ := hzero
  obtain ⟨f1, f2⟩ := elems_fill (c := c) hok (parts.toList.map fun (i, x) => (i, rd.ev x)) ((parts.map fun (i, x) => (i, a.eval x)).toList) 0 e us he (by simp) (fun j q1 q2 => by
    simp only [List.getElem_map, Array.toList_map]
    exact ⟨trivial, hrd.ev _⟩) (by simp [hps, hul])
  simp only [Nat.zero_mul, List.take_zero, List.nil_append, List.length_map, Array.length_toList, hps] at f1 f2
  have hfl := flat_length hok (e.ev c.ρ).list
  rw [f2] at hfl
  have hrun : (Instr.buildSlice ty len (parts.map fun (i, x) => (i, a.eval x))).run P w = .ok (.slice (some ⟨w.heap.size, 0, none⟩) len len) (w.alloc (.cells (rowFlat agg ks (e.ev c.ρ).list).toArray el)) := by
    by_cases h0 : len * i.size = 0
    · have hl0 : len = 0 := by
        rcases Nat.mul_eq_zero.1 h0 with h | h
        · exact h
        · omega
      subst hl0
      obtain rfl : parts = #[] := Array.eq_empty_of_size_eq_zero hps
      have hnil : rowFlat agg ks (e.ev c.ρ).list = [] := List.eq_nil_of_length_eq_zero (by rw [hfl]; simp)
      rw [hnil]
      have hr0 : ∀ f : Nat → Value, Array.map f (Array.range 0) = #[] := fun f => by apply Array.eq_empty_of_size_eq_zero; rw [Array.size_map, Array.size_range]
      simp [Instr.buildSlice, run_underlying hu, sizeOf, typeInfo, hi, newRow, Instr.fill, hr0]
    · exact run_buildSlice w ty el len _ _ i z hu hi hz (by rw [hi2, ← hnk]; omega) h0 (by rw [hus, hi2]; exact f1)
  have gg := g.newRow (w' := w.alloc (.cells (rowFlat agg ks (e.ev c.ρ).list).toArray el)) (g.below.alloc g.hB _) (by simp) (fun m hm => Below.heap_alloc w _ m hm) hfr (k := ⟨el, ks, agg, e, true⟩) (ad := some ⟨w.heap.size, 0, none⟩) (n := len) (cap := len)
    (by simp only; exact f2) (Nat.le_refl _) (by
      have : len * 1 ≤ len * n := Nat.mul_le_mul_left _ (by omega)
      simp only [maxLen]; omega)
    (fun _ => ⟨⟨hfl, .inr ⟨_, len, _, rfl, g.hB, heap_alloc_new w _, Nat.le_refl _, by
      have : len * 1 ≤ len * n := Nat.mul_le_mul_left _ (by omega)
      simp only [maxLen]; omega, by simpa using hfl, by simp only; rw [List.take_of_length_le (by rw [hfl]; exact Nat.le_refl _)]⟩⟩, fun p hp => by simp [Value.ownBlock] at hp; omega⟩) (fun h => by cases h)
  refine ⟨_, _, .slice (some ⟨w.heap.size, 0, none⟩) len len, { c with R := fun i => if i = rd.nr then some (.slice (some ⟨w.heap.size, 0, none⟩) len len) else c.R i }, by simp [execOp, ho, hrun], .inl rfl, ?_, fun _ _ => rfl, fun i hi => by simp at hi; simp [hi], ⟨by simp, _, _, _, rfl⟩, gg⟩
  exact ⟨rfl, rfl, fun _ _ e => e, fun i u e => by
    by_cases h : i = rd.nr
    · subst h; rw [hfr] at e; cases e
    · simp [h, e]⟩
end
end Go.Proofs.Ytfaghnapfkpdhaa
