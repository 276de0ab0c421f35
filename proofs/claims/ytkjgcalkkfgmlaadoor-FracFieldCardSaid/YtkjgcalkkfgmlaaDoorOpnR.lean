/-
  How slices come in.
-/
import Derived.Test.YtkjgcalkkfgmlaaDoorOpn
import Derived.Deep.Slices
namespace Go.Proofs.YtkjgcalkkfgmlaaDoor
open Go.ChangeShapes Go.WideShapes Go.ChangeAt Go.RowKit

/-- An element as a datum. -/
def elSc (agg : Bool) (ys : List Sc) : Sc := if agg then .l ys else ys.getD 0 (.i 0)
theorem elVals_zip : ∀ (ks : List CK) (ys zs : List Sc), ys.length = ks.length → elVals (.l (zs ++ ys)) ks zs.length = List.zipWith CK.val ks ys
  | [], [], _, _ => rfl
  | k :: ks, y :: ys, zs, h => by
    have ih := elVals_zip ks ys (zs ++ [y]) (by simpa using h)
    rw [List.append_assoc, List.singleton_append, List.length_append, List.length_singleton] at ih
    simp [elVals, ih]
  | [], _ :: _, _, h => by simp at h
  | _ :: _, [], _, h => by simp at h
theorem elCells_zip {agg : Bool} {ks : List CK} {ys : List Sc} (hok : okForm agg ks) (h : ys.length = ks.length) : elCells agg ks (elSc agg ys) = List.zipWith CK.val ks ys := by
  cases agg with
  | true => exact elVals_zip ks ys [] h
  | false =>
    rcases hok with h1 | h1
    · cases h1
    · match ks, ys, h1, h with
      | [k], [y], _, _ => rfl
theorem flat_at {agg : Bool} {ks : List CK} (hok : okForm agg ks) (hpos : 0 < ks.length) {l : List Sc} {j : Nat} {u : Value} (h : (rowFlat agg ks l)[j]? = some u) :
    j / ks.length < l.length ∧ (elCells agg ks (l.getD (j / ks.length) (.i 0)))[j % ks.length]? = some u := by
  have hlt : j < l.length * ks.length := by rw [← flat_length hok]; exact (List.getElem?_eq_some_iff.1 h).1
  have h1 : j / ks.length < l.length := by rw [Nat.div_lt_iff_lt_mul hpos]; exact hlt
  refine ⟨h1, ?_⟩
  have hm : j % ks.length < (elCells agg ks (l.getD (j / ks.length) (.i 0))).length := by rw [elCells_length hok]; exact Nat.mod_lt _ hpos
  have := flat_get hok l (j / ks.length) (j % ks.length) _ h1 (List.getElem?_eq_getElem hm)
  rw [Nat.mul_comm, Nat.div_add_mod] at this
  rw [this] at h
  rw [List.getElem?_eq_getElem hm]; exact h

section
variable {P : Program} {w : World} {base : Nat} {H : Type} {enc : TypeId × Value → H} {spare : Nat → Bool} {held : Bool}

theorem open_row {r : Reach} {b0 : Nat} {t e : TypeId} {v : Value} {d : DataW H} {p : List MemPlace} {ks : List CK} (agg : Bool) (hu : P.underlying t = some (.slice e)) (hk : flat P 4 e = some ks) (hf : okFormB agg ks = true) (hc : P.cellsOf e = ks.length)
    (ok : Value.okWide P w r b0 t v) (h : DataW.Trod enc P w base spare held t v d p) :
    ∃ yss : List (List Sc), (∀ ys ∈ yss, fitsL ks ys) ∧ yss.length ≤ maxLen ∧ csRel w (fun _ => True) (.a (.row e ks agg)) v [.l (yss.map (elSc agg))] := by
  obtain ⟨hok, hpos⟩ := okForm_of hf
  obtain ⟨ad, len, cap, rfl⟩ := okWide_slice hu ok
  obtain ⟨fuel, ht⟩ := h
  have ht : DataW.trod enc P w base spare held fuel t [.slice ad len cap] = some (d, p) := ht
  rcases Go.Deep.open_slice hu ht with ⟨h0, _⟩ | ⟨a, len', cap', m, n, D, Pl, h0, hb, hl, hm, hmm, _, hx⟩
  · cases h0
    exact ⟨[], fun _ h => (by cases h), by simp [maxLen], _, rfl, none, 0, 0, rfl, rfl, Nat.le_refl _, by simp [maxLen], fun j u hj => by simp [rowFlat] at hj⟩
  · cases h0
    have hspot : a.spot = none := by
      simp only [Value.okWide, hu, Cell.okWide, Cell.ok] at ok
      exact ok.2.2.2.1
    have hlm : len ≤ m := by rw [hmm]; split <;> omega
    obtain ⟨Y, hY⟩ := Go.Deep.choose_lt (α := List Sc) (n := len) (p := fun i ys => fitsL ks ys ∧ w.cells? base (a.add (i * P.cellsOf e)) (P.cellsOf e) = some (List.zipWith CK.val ks ys)) (fun i hi => by
      obtain ⟨cs', c1, c2⟩ := hx i (by omega)
      obtain ⟨ys, f1, f2⟩ := flat_trod hk c2
      exact ⟨ys, f1, by rw [c1, f2]⟩)
    refine ⟨(List.range len).map Y, fun ys hys => ?_, by simp; omega, _, rfl, some a, len, cap, rfl, by simp, hl, hm, fun j u hj => ?_⟩
    · obtain ⟨i, hi, rfl⟩ := List.mem_map.1 hys
      exact (hY i (List.mem_range.1 hi)).1
    · obtain ⟨j1, j2⟩ := flat_at hok hpos (l := ((List.range len).map Y).map (elSc agg)) hj
      simp only [List.length_map, List.length_range] at j1
      have hy := hY _ j1
      have he : (((List.range len).map Y).map (elSc agg)).getD (j / ks.length) (.i 0) = elSc agg (Y (j / ks.length)) := by
        simp [List.getD_eq_getElem?_getD, j1]
      rw [he, elCells_zip hok (fitsL_len hy.1)] at j2
      have := (World.cells?_some hy.2).2.2
      have hcell := this (j % ks.length) (by rw [hc]; exact Nat.mod_lt _ hpos)
      obtain ⟨blk, off, spot⟩ := a
      simp only at hspot
      subst hspot
      refine ⟨blk, off, rfl, ?_, trivial⟩
      rw [add_lit, add_lit, hc] at hcell
      have ej : off + j / ks.length * ks.length + j % ks.length = off + j := by rw [Nat.add_assoc, Nat.mul_comm, Nat.div_add_mod]
      rw [ej] at hcell
      rw [hcell]; exact j2
/-- A slice of integers. -/
theorem open_ints {r : Reach} {b0 : Nat} {t e : TypeId} {v : Value} {d : DataW H} {p : List MemPlace} {k : IntKind} (hu : P.underlying t = some (.slice e)) (hk : flat P 4 e = some [.int k]) (hc : P.cellsOf e = 1)
    (ok : Value.okWide P w r b0 t v) (h : DataW.Trod enc P w base spare held t v d p) :
    ∃ xs : List Int, (∀ x ∈ xs, (Lit.int k x).wf = true) ∧ xs.length ≤ maxLen ∧ csRel w (fun _ => True) (.a (.row e [.int k] false)) v [.l (xs.map .i)] := by
  obtain ⟨yss, h1, h2, h3⟩ := open_row false hu hk rfl hc ok h
  have key : ∀ yss : List (List Sc), (∀ ys ∈ yss, fitsL [.int k] ys) → ∃ xs : List Int, (∀ x ∈ xs, (Lit.int k x).wf = true) ∧ xs.length = yss.length ∧ yss.map (elSc false) = xs.map .i := by
    intro yss
    induction yss with
    | nil => intro _; exact ⟨[], fun _ h => (by cases h), rfl, rfl⟩
    | cons ys l ih =>
      intro hall
      obtain ⟨xs, i1, i2, i3⟩ := ih (fun ys hy => hall ys (List.mem_cons_of_mem _ hy))
      obtain ⟨n, r, rfl, hw, hr⟩ := fitsL_int (hall ys (List.mem_cons_self ..))
      refine ⟨n :: xs, fun x hx => ?_, by simp [i2], by simp [i3, elSc]⟩
      rcases List.mem_cons.1 hx with rfl | hx
      · exact hw
      · exact i1 x hx
  obtain ⟨xs, i1, i2, i3⟩ := key yss h1
  exact ⟨xs, i1, by omega, by rw [← i3]; exact h3⟩
def I64' (n : Int) : Prop := -9223372036854775808 ≤ n ∧ n < 9223372036854775808
def pt (p : Int × Int) : Sc := .l [.i p.1, .i p.2]
/-- A slice of pairs of integers. -/
theorem open_pairs {r : Reach} {b0 : Nat} {t e : TypeId} {v : Value} {d : DataW H} {p : List MemPlace} (hu : P.underlying t = some (.slice e)) (hk : flat P 4 e = some [.int .i64, .int .i64]) (hc : P.cellsOf e = 2)
    (ok : Value.okWide P w r b0 t v) (h : DataW.Trod enc P w base spare held t v d p) :
    ∃ ps : List (Int × Int), (∀ x ∈ ps, I64' x.1 ∧ I64' x.2) ∧ ps.length ≤ maxLen ∧ csRel w (fun _ => True) (.a (.row e [.int .i64, .int .i64] true)) v [.l (ps.map pt)] := by
  obtain ⟨yss, h1, h2, h3⟩ := open_row true hu hk rfl hc ok h
  have key : ∀ yss : List (List Sc), (∀ ys ∈ yss, fitsL [.int .i64, .int .i64] ys) → ∃ ps : List (Int × Int), (∀ x ∈ ps, I64' x.1 ∧ I64' x.2) ∧ ps.length = yss.length ∧ yss.map (elSc true) = ps.map pt := by
    intro yss
    induction yss with
    | nil => intro _; exact ⟨[], fun _ h => (by cases h), rfl, rfl⟩
    | cons ys l ih =>
      intro hall
      obtain ⟨xs, i1, i2, i3⟩ := ih (fun ys hy => hall ys (List.mem_cons_of_mem _ hy))
      obtain ⟨n, r, rfl, hw, hr⟩ := fitsL_int (hall ys (List.mem_cons_self ..))
      obtain ⟨m, r, rfl, hw2, hr2⟩ := fitsL_int hr
      obtain rfl := fitsL_nil hr2
      refine ⟨(n, m) :: xs, fun x hx => ?_, by simp [i2], by simp [i3, elSc, pt]⟩
      rcases List.mem_cons.1 hx with rfl | hx
      · exact ⟨wf_i64 hw, wf_i64 hw2⟩
      · exact i1 x hx
  obtain ⟨xs, i1, i2, i3⟩ := key yss h1
  exact ⟨xs, i1, by omega, by rw [← i3]; exact h3⟩
end
end Go.Proofs.YtkjgcalkkfgmlaaDoor
