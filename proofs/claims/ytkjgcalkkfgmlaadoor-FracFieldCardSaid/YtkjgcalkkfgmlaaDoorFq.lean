/-
  Results on valid fractions: plain facts.
-/
import Derived.Test.YtkjgcalkkfgmlaaDoorSq
namespace Go.Proofs.YtkjgcalkkfgmlaaDoor
set_option linter.unusedSimpArgs false

theorem addQ_fit {q r : Rat} (hq : fitQ q = true) (hr : fitQ r = true) : addQ q.num q.den r.num r.den = outQ (q + r) := by
  unfold addQ; rw [if_pos ⟨okF_of hq, okF_of hr⟩, divInt_q, divInt_q]
theorem subQ_fit {q r : Rat} (hq : fitQ q = true) (hr : fitQ r = true) : subQ q.num q.den r.num r.den = outQ (q - r) := by
  unfold subQ; rw [if_pos ⟨okF_of hq, okF_of hr⟩, divInt_q, divInt_q]
theorem mulQ_fit {q r : Rat} (hq : fitQ q = true) (hr : fitQ r = true) : mulQ q.num q.den r.num r.den = outQ (q * r) := by
  unfold mulQ; rw [if_pos ⟨okF_of hq, okF_of hr⟩, divInt_q, divInt_q]
theorem divQ_fit {q r : Rat} (hq : fitQ q = true) (hr : fitQ r = true) (h0 : r ≠ 0) : divQ q.num q.den r.num r.den = outQ (q / r) := by
  unfold divQ; rw [if_pos ⟨okF_of hq, okF_of hr, fun h => h0 (Rat.num_eq_zero.1 h)⟩, divInt_q, divInt_q]
theorem divQ_zero {q r : Rat} (h0 : r = 0) : divQ q.num q.den r.num r.den = noQ := by
  unfold divQ; rw [if_neg (fun h => h.2.2 (Rat.num_eq_zero.2 h0))]
theorem outQ_yes {q : Rat} (h : fitQ q = true) : outQ q = [.i q.num, .i q.den, .b true] := by rw [outQ, if_pos h]
theorem outQ_no {q : Rat} (h : ¬ fitQ q = true) : outQ q = [.i 0, .i 0, .b false] := by rw [outQ, if_neg h]; rfl
theorem outQ_cases (q : Rat) : (fitQ q = true ∧ outQ q = [.i q.num, .i q.den, .b true]) ∨ (¬ fitQ q = true ∧ outQ q = [.i 0, .i 0, .b false]) := by
  by_cases h : fitQ q = true
  · exact .inl ⟨h, outQ_yes h⟩
  · exact .inr ⟨h, outQ_no h⟩
theorem num_den_inj {q r : Rat} (h : q.num = r.num) (h' : (q.den : Int) = r.den) : q = r := Rat.ext h (by omega)
theorem zero_bad : okF 0 0 = false := by decide
theorem divInt_sub_same (a b n : Int) : Rat.divInt a n - Rat.divInt b n = Rat.divInt (a - b) n := by
  rw [Rat.divInt_eq_div, Rat.divInt_eq_div, Rat.divInt_eq_div, Rat.div_def, Rat.div_def, Rat.div_def, Rat.intCast_sub]
  grind
theorem divInt_add_same (a b n : Int) : Rat.divInt a n + Rat.divInt b n = Rat.divInt (a + b) n := by
  rw [Rat.divInt_eq_div, Rat.divInt_eq_div, Rat.divInt_eq_div, Rat.div_def, Rat.div_def, Rat.div_def, Rat.intCast_add]
  grind
end Go.Proofs.YtkjgcalkkfgmlaaDoor
