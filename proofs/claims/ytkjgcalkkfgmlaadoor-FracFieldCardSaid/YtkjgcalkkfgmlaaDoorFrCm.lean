/-
  Fractions: comparing, plain facts.
-/
import Derived.Test.YtkjgcalkkfgmlaaDoorFrB
namespace Go.Proofs.YtkjgcalkkfgmlaaDoor
set_option linter.unusedSimpArgs false

theorem cmp_num (q r : Rat) : cmpQ q r = if q.num * r.den - r.num * q.den = 0 then 0 else if q.num * r.den - r.num * q.den < 0 then -1 else 1 := by
  unfold cmpQ
  by_cases h : q < r
  · have := (Rat.lt_iff q r).1 h
    rw [if_pos h, if_neg (by omega), if_pos (by omega)]
  · have h1 : ¬ q.num * r.den < r.num * q.den := fun x => h ((Rat.lt_iff q r).2 x)
    rw [if_neg h]
    by_cases h2 : q = r
    · rw [if_pos h2, if_pos (by subst h2; omega)]
    · have : ¬ q.num * r.den = r.num * q.den := fun x => h2 (Rat.eq_iff_mul_eq_mul.2 x)
      rw [if_neg h2, if_neg (by omega), if_neg (by omega)]
theorem usual_fit (n d : Int) : fitQ (usualQ n d) = true := by
  unfold usualQ
  by_cases h : okF n d = true
  · obtain ⟨q, rfl, rfl, hq⟩ := okF_q h
    rw [if_pos h, divInt_q]; exact hq
  · rw [if_neg h]; exact fit_zero
theorem fit_abs {q : Rat} (h : fitQ q = true) : q.num.natAbs ≤ 4611686018427387904 ∧ q.den ≤ 1000000000000000 := fitQ_iff.1 h
/-- The comparison of two fractions, as it is reckoned: with the products' signs. -/
theorem cmp_core {q r : Rat} (hq : fitQ q = true) (hr : fitQ r = true) :
    let s := both (decide (q.num < 0)) (q.num.natAbs * r.den) (decide (0 ≤ r.num)) (r.num.natAbs * q.den)
    q.num.natAbs * r.den + r.num.natAbs * q.den < 340282366920938463463374607431768211456 ∧ cmpQ q r = if s.2 = 0 then 0 else if s.1 = true then -1 else 1 := by
  intro s
  obtain ⟨a1, a2⟩ := fit_abs hq
  obtain ⟨b1, b2⟩ := fit_abs hr
  have m1 := Nat.mul_le_mul a1 b2
  have m2 := Nat.mul_le_mul b1 a2
  refine ⟨by omega, ?_⟩
  have hs : sgn s.1 s.2 = q.num * r.den - r.num * q.den := by
    have h := both_spec (decide (q.num < 0)) (q.num.natAbs * r.den) (decide (0 ≤ r.num)) (r.num.natAbs * q.den)
    have e1 : sgn (decide (q.num < 0)) (q.num.natAbs * r.den) = q.num * r.den := by rw [sgn_mul, sgn_self]
    have e2 : sgn (decide (0 ≤ r.num)) (r.num.natAbs * q.den) = -(r.num * q.den) := by rw [sgn_mul, sgn_neg_self, Int.neg_mul]
    rw [e1, e2] at h
    rw [h]; omega
  rw [cmp_num, ← hs]
  by_cases h0 : s.2 = 0
  · have : sgn s.1 s.2 = 0 := by rw [h0]; unfold sgn; split <;> rfl
    rw [if_pos h0, if_pos this]
  · by_cases h1 : s.1 = true
    · have : sgn s.1 s.2 = -(s.2 : Int) := by rw [h1]; rfl
      rw [if_neg h0, if_pos h1, if_neg (by omega), if_pos (by omega)]
    · have : sgn s.1 s.2 = s.2 := by unfold sgn; rw [if_neg h1]
      rw [if_neg h0, if_neg h1, if_neg (by omega), if_neg (by omega)]
theorem cmp_zero_beq (x : Nat) : ((hiW x == 0) && (loW x == 0)) = decide (x = 0) := by
  have := w_zero (x := x)
  by_cases h : x = 0
  · obtain ⟨a, b⟩ := this.2 h
    rw [a, b, decide_eq_true h]; rfl
  · rw [decide_eq_false h]
    by_cases h1 : hiW x = 0
    · have : ¬ loW x = 0 := fun h2 => h (this.1 ⟨h1, h2⟩)
      simp [this]
    · simp [h1]
/-- The end of the comparison. -/
theorem cmp_val {q r : Rat} (hq : fitQ q = true) (hr : fitQ r = true) :
    (if decide ((both (decide (q.num < 0)) (q.num.natAbs * r.den) (decide (0 ≤ r.num)) (r.num.natAbs * q.den)).2 = 0) = true then some [Sc.i 0] else
      if (both (decide (q.num < 0)) (q.num.natAbs * r.den) (decide (0 ≤ r.num)) (r.num.natAbs * q.den)).1 = true then some [Sc.i (-1)] else some [Sc.i 1]) = some [Sc.i (cmpQ q r)] := by
  rw [(cmp_core hq hr).2]
  generalize both (decide (q.num < 0)) (q.num.natAbs * r.den) (decide (0 ≤ r.num)) (r.num.natAbs * q.den) = s
  simp only [decide_eq_true_eq]
  split
  · rfl
  · split <;> rfl
theorem i64_0 : I64 0 := ⟨by omega, by omega⟩
end Go.Proofs.YtkjgcalkkfgmlaaDoor
