/-
  Chapter 27: what the functions of tally and of its reference return.
-/
import Derived.Test.YtfaghnapfkpdhaaK46
namespace Go.Proofs.Ytfaghnapfkpdhaa
set_option linter.unusedSimpArgs false

theorem wr64 {z : Int} (h1 : -9223372036854775808 ≤ z) (h2 : z < 9223372036854775808) : IntKind.i64.wrap z = z := wrap_in h1 h2
theorem mulB {a b A B : Int} (hA : 0 ≤ A) (hB : 0 ≤ B) (a1 : -A ≤ a) (a2 : a ≤ A) (b1 : -B ≤ b) (b2 : b ≤ B) : -(A * B) ≤ a * b ∧ a * b ≤ A * B := by
  have h : (a * b).natAbs ≤ A.natAbs * B.natAbs := by rw [Int.natAbs_mul]; exact Nat.mul_le_mul (by omega) (by omega)
  have e : ((A.natAbs * B.natAbs : Nat) : Int) = A * B := by rw [Int.natCast_mul]; congr 1 <;> omega
  omega

def valB (n : Int) : Bool := decide (-1000000 ≤ n) && decide (n ≤ 1000000)
theorem value_F (n : Int) : k_tally_value.F [.i n] = some [.b (valB n)] := by
  simp [k_tally_value_F, tk_tally_value, T.den, Ex.ev, U2.ev, valB]
  split <;> simp_all <;> omega
theorem observation_F (n : Int) : k_simulatorref27_Observation.F [.i n] = some [.b (valB n)] := by
  simp [k_simulatorref27_Observation_F, tk_simulatorref27_Observation, T.den, Ex.ev, U2.ev, valB]
  split <;> simp_all <;> omega
theorem least_F (a b : Int) : k_simulatorref27_least.F [.i a, .i b] = some [.i (min a b)] := by
  simp [k_simulatorref27_least_F, tk_simulatorref27_least, T.den, Ex.ev, U2.ev]
  split <;> simp <;> omega
theorem most_F (a b : Int) : k_simulatorref27_most.F [.i a, .i b] = some [.i (max a b)] := by
  simp [k_simulatorref27_most_F, tk_simulatorref27_most, T.den, Ex.ev, U2.ev]
  split <;> simp <;> omega

/-- What Check returns. -/
def chk (N S Q lo hi : Int) : Int :=
  if N = 0 ∧ S = 0 ∧ Q = 0 ∧ lo = 0 ∧ hi = 0 then 0
  else if N < 1 ∨ 2000 < N ∨ valB lo = false ∨ valB hi = false ∨ hi < lo then 2
  else if S < N * lo ∨ N * hi < S ∨ (N = 1 ∧ lo ≠ hi) then 8
  else if Q < (if N = 1 then hi * hi else lo * lo + hi * hi) ∨ N * max (lo * lo) (hi * hi) < Q ∨ N * Q < S * S then 8
  else 0

/-- Bounds that hold where the first tests are passed. -/
theorem chk_bounds {N lo hi : Int} (hN : 1 ≤ N) (hN2 : N ≤ 2000) (hl : valB lo = true) (hh : valB hi = true) :
    IntKind.i64.wrap (N * lo) = N * lo ∧ IntKind.i64.wrap (N * hi) = N * hi ∧ IntKind.i64.wrap (lo * lo) = lo * lo ∧ IntKind.i64.wrap (hi * hi) = hi * hi ∧ IntKind.i64.wrap (lo * lo + hi * hi) = lo * lo + hi * hi ∧
      IntKind.i64.wrap (N * max (lo * lo) (hi * hi)) = N * max (lo * lo) (hi * hi) ∧ 0 ≤ lo * lo ∧ 0 ≤ hi * hi ∧ N * max (lo * lo) (hi * hi) ≤ 2000000000000000 ∧ -2000000000 ≤ N * lo ∧ N * hi ≤ 2000000000 := by
  simp only [valB, Bool.and_eq_true, decide_eq_true_eq] at hl hh
  have b1 := mulB (a := N) (b := lo) (A := 2000) (B := 1000000) (by omega) (by omega) (by omega) (by omega) (by omega) (by omega)
  have b2 := mulB (a := N) (b := hi) (A := 2000) (B := 1000000) (by omega) (by omega) (by omega) (by omega) (by omega) (by omega)
  have b3 := mulB (a := lo) (b := lo) (A := 1000000) (B := 1000000) (by omega) (by omega) (by omega) (by omega) (by omega) (by omega)
  have b4 := mulB (a := hi) (b := hi) (A := 1000000) (B := 1000000) (by omega) (by omega) (by omega) (by omega) (by omega) (by omega)
  have p1 : 0 ≤ lo * lo := by rcases Int.le_total 0 lo with h | h; · exact Int.mul_nonneg h h
                              · exact Int.mul_nonneg_of_nonpos_of_nonpos h h
  have p2 : 0 ≤ hi * hi := by rcases Int.le_total 0 hi with h | h; · exact Int.mul_nonneg h h
                              · exact Int.mul_nonneg_of_nonpos_of_nonpos h h
  have b5 := mulB (a := N) (b := max (lo * lo) (hi * hi)) (A := 2000) (B := 1000000000000) (by omega) (by omega) (by omega) (by omega) (by omega) (by omega)
  refine ⟨wr64 (by omega) (by omega), wr64 (by omega) (by omega), wr64 (by omega) (by omega), wr64 (by omega) (by omega), wr64 (by omega) (by omega), wr64 (by omega) (by omega), p1, p2, by omega, by omega, by omega⟩
theorem chk_squares {N S Q lo hi : Int} (hN : 1 ≤ N) (hN2 : N ≤ 2000) (hl : valB lo = true) (hh : valB hi = true) (h1 : ¬ S < N * lo) (h2 : ¬ N * hi < S) : IntKind.i64.wrap (S * S) = S * S ∧
    (0 ≤ Q → ¬ N * max (lo * lo) (hi * hi) < Q → IntKind.i64.wrap (N * Q) = N * Q) := by
  obtain ⟨_, _, _, _, _, _, _, _, b1, b2, b3⟩ := chk_bounds hN hN2 hl hh
  have b4 := mulB (a := S) (b := S) (A := 2000000000) (B := 2000000000) (by omega) (by omega) (by omega) (by omega) (by omega) (by omega)
  refine ⟨wr64 (by omega) (by omega), fun q1 q2 => ?_⟩
  have b5 := mulB (a := N) (b := Q) (A := 2000) (B := 2000000000000000) (by omega) (by omega) (by omega) (by omega) (by omega) (by omega)
  exact wr64 (by omega) (by omega)

theorem max_if (a b : Int) : (if b > a then b else a) = max a b := by split <;> omega
theorem check_F (N S Q lo hi : Int) : k_tally_Check.F [.i N, .i S, .i Q, .i lo, .i hi] = some [.i (chk N S Q lo hi)] := by
  simp only [k_tally_Check_F, tk_tally_Check, k_tally_value_f, value_F, Go.Proofs.Ytfaghnapfkpdhaa.T.den, Ex.ev, U1.ev, U2.ev, U3.ev, gam, List.map, List.getD_cons_zero, List.getD_cons_succ, List.length, List.cons_append, List.nil_append, if_true, Sc.int_i, Sc.bool_b, Sc.list_l, Sc.str_s, Nat.reduceEqDiff, if_false, List.getElem?_cons_zero, List.getElem?_cons_succ]
  by_cases h0 : N = 0 ∧ S = 0 ∧ Q = 0 ∧ lo = 0 ∧ hi = 0
  · simp [h0, chk]
  simp only [max_if]
  simp [h0, chk]
  by_cases h1 : N < 1; · simp [h1]
  by_cases h2 : 2000 < N; · simp [h2]
  cases h3 : valB lo; · simp
  cases h4 : valB hi; · simp
  by_cases h5 : hi < lo; · simp [h5]
  obtain ⟨b1, b2, b3, b4, b5, b6, p1, p2, p3, _⟩ := chk_bounds (N := N) (by omega) (by omega) h3 h4
  simp only [b1, b2, b3, b4, b5, b6, h1, h2, h5, if_false, false_or, Bool.true_eq_false]
  by_cases h6 : S < N * lo; · simp [h6]
  by_cases h7 : N * hi < S; · simp [h6, h7]
  obtain ⟨s1, s2⟩ := chk_squares (Q := Q) (by omega) (by omega) h3 h4 h6 h7
  simp only [s1, h6, h7, if_false, false_or]
  by_cases q : 0 ≤ Q ∧ ¬ N * max (lo * lo) (hi * hi) < Q
  · rw [s2 q.1 q.2]
    repeat' split
    all_goals first | rfl | omega
  · repeat' split
    all_goals first | rfl | omega
theorem refCheck_F (N S Q lo hi : Int) : k_simulatorref27_Check.F [.i N, .i S, .i Q, .i lo, .i hi] = some [.i (chk N S Q lo hi)] := by
  simp only [k_simulatorref27_Check_F, tk_simulatorref27_Check, k_simulatorref27_Observation_f, k_simulatorref27_most_f, observation_F, most_F, Go.Proofs.Ytfaghnapfkpdhaa.T.den, Ex.ev, U1.ev, U2.ev, U3.ev, gam, List.map, List.getD_cons_zero, List.getD_cons_succ, List.length, List.cons_append, List.nil_append, if_true, Sc.int_i, Sc.bool_b, Sc.list_l, Sc.str_s, Nat.reduceEqDiff, if_false, List.getElem?_cons_zero, List.getElem?_cons_succ]
  by_cases h0 : N = 0 ∧ S = 0 ∧ Q = 0 ∧ lo = 0 ∧ hi = 0
  · simp [h0, chk]
  simp [h0, chk]
  by_cases h1 : N < 1; · simp [h1]
  by_cases h2 : 2000 < N; · simp [h2]
  cases h3 : valB lo; · simp
  cases h4 : valB hi; · simp
  by_cases h5 : hi < lo; · simp [h5]
  obtain ⟨b1, b2, b3, b4, b5, b6, p1, p2, p3, _⟩ := chk_bounds (N := N) (by omega) (by omega) h3 h4
  simp only [b1, b2, b3, b4, b5, b6, h1, h2, h5, if_false, false_or, Bool.true_eq_false]
  by_cases h6 : S < N * lo; · simp [h6]
  by_cases h7 : N * hi < S; · simp [h6, h7]
  obtain ⟨s1, s2⟩ := chk_squares (Q := Q) (by omega) (by omega) h3 h4 h6 h7
  simp only [s1, h6, h7, if_false, false_or]
  have hone : N = 1 → lo = hi → S * S = hi * hi ∧ N * Q = Q := fun e1 e2 => by
    subst e1 e2
    have : S = lo := by omega
    subst this
    exact ⟨rfl, Int.one_mul _⟩
  by_cases q : 0 ≤ Q ∧ ¬ N * max (lo * lo) (hi * hi) < Q
  · rw [s2 q.1 q.2]
    repeat' split
    all_goals first | rfl | omega
  · repeat' split
    all_goals first | rfl | omega
end Go.Proofs.Ytfaghnapfkpdhaa
