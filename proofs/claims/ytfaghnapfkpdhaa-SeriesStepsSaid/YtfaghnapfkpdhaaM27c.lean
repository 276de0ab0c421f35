/-
  Chapter 27: a merged tally passes Check.
-/
import Derived.Test.YtfaghnapfkpdhaaM27b
namespace Go.Proofs.Ytfaghnapfkpdhaa
set_option linter.unusedSimpArgs false

theorem cauchy {N M Q R S T : Int} (hN : 1 ≤ N) (hM : 1 ≤ M) (h1 : S * S ≤ N * Q) (h2 : T * T ≤ M * R) : (S + T) * (S + T) ≤ (N + M) * (Q + R) := by
  have a1 : N * N * (T * T) ≤ N * N * (M * R) := Int.mul_le_mul_of_nonneg_left h2 (Int.mul_nonneg (by omega) (by omega))
  have a2 : M * M * (S * S) ≤ M * M * (N * Q) := Int.mul_le_mul_of_nonneg_left h1 (Int.mul_nonneg (by omega) (by omega))
  have a3 : 0 ≤ (N * T - M * S) * (N * T - M * S) := by
    rcases Int.le_total 0 (N * T - M * S) with h | h
    · exact Int.mul_nonneg h h
    · exact Int.mul_nonneg_of_nonpos_of_nonpos h h
  have a4 : N * M * (2 * (S * T)) ≤ N * M * (N * R + M * Q) := by grind
  have a5 : 2 * (S * T) ≤ N * R + M * Q := Int.le_of_mul_le_mul_left a4 (Int.mul_pos (by omega) (by omega))
  grind
theorem sq_nonneg (a : Int) : 0 ≤ a * a := by
  rcases Int.le_total 0 a with h | h
  · exact Int.mul_nonneg h h
  · exact Int.mul_nonneg_of_nonpos_of_nonpos h h
theorem sq_between {a m x : Int} (h1 : m ≤ a) (h2 : a ≤ x) : a * a ≤ max (m * m) (x * x) := by
  rcases Int.le_total 0 a with h | h
  · have : a * a ≤ x * x := Int.mul_le_mul h2 h2 h (by omega)
    omega
  · have : (-a) * (-a) ≤ (-m) * (-m) := Int.mul_le_mul (by omega) (by omega) (by omega) (by omega)
    have : a * a ≤ m * m := by grind
    omega

/-- What Check asks of a tally with entries. -/
structure Okay (N S Q lo hi : Int) : Prop where
  n0 : 1 ≤ N
  n1 : N ≤ 2000
  l0 : -1000000 ≤ lo
  h1 : hi ≤ 1000000
  lh : lo ≤ hi
  sl : N * lo ≤ S
  sh : S ≤ N * hi
  one : N = 1 → lo = hi
  ql : N ≠ 1 → lo * lo + hi * hi ≤ Q
  q1 : hi * hi ≤ Q
  qh : Q ≤ N * max (lo * lo) (hi * hi)
  qs : S * S ≤ N * Q
theorem chk_okay {N S Q lo hi : Int} (h : chk N S Q lo hi = 0) (hN : N ≠ 0) : Okay N S Q lo hi := by
  unfold chk at h
  rw [if_neg (fun e => hN e.1)] at h
  by_cases h2 : N < 1 ∨ 2000 < N ∨ valB lo = false ∨ valB hi = false ∨ hi < lo
  · rw [if_pos h2] at h; cases h
  rw [if_neg h2] at h
  by_cases h3 : S < N * lo ∨ N * hi < S ∨ (N = 1 ∧ lo ≠ hi)
  · rw [if_pos h3] at h; cases h
  rw [if_neg h3] at h
  by_cases h4 : Q < (if N = 1 then hi * hi else lo * lo + hi * hi) ∨ N * max (lo * lo) (hi * hi) < Q ∨ N * Q < S * S
  · rw [if_pos h4] at h; cases h
  have hl : valB lo = true := by cases hh : valB lo <;> simp_all
  have hh : valB hi = true := by cases hh : valB hi <;> simp_all
  simp only [valB, Bool.and_eq_true, decide_eq_true_eq] at hl hh
  have := sq_nonneg lo
  refine ⟨by omega, by omega, by omega, by omega, by omega, by omega, by omega, fun e => by omega, fun e => ?_, ?_, by omega, by omega⟩
  · rw [if_neg e] at h4; omega
  · by_cases e : N = 1
    · rw [if_pos e] at h4; omega
    · rw [if_neg e] at h4; omega
theorem okay_chk {N S Q lo hi : Int} (h : Okay N S Q lo hi) : chk N S Q lo hi = 0 := by
  obtain ⟨n0, n1, l0, h1, lh, sl, sh, one, ql, q1, qh, qs⟩ := h
  have hl : valB lo = true := by simp only [valB, Bool.and_eq_true, decide_eq_true_eq]; omega
  have hh : valB hi = true := by simp only [valB, Bool.and_eq_true, decide_eq_true_eq]; omega
  unfold chk
  rw [if_neg (by omega), if_neg (by rw [hl, hh]; simp; omega), if_neg (by omega), if_neg ?_]
  by_cases e : N = 1
  · rw [if_pos e]; omega
  · rw [if_neg e]; have := ql e; omega
theorem okay_merge {N S Q lo hi M T R l h : Int} (a : Okay N S Q lo hi) (b : Okay M T R l h) (hNM : N + M ≤ 2000) : Okay (N + M) (S + T) (Q + R) (min lo l) (max hi h) := by
  obtain ⟨n0, n1, l0, h1, lh, sl, sh, one, ql, q1, qh, qs⟩ := a
  obtain ⟨n0', n1', l0', h1', lh', sl', sh', one', ql', q1', qh', qs'⟩ := b
  have c1 : N * min lo l ≤ N * lo := Int.mul_le_mul_of_nonneg_left (by omega) (by omega)
  have c2 : M * min lo l ≤ M * l := Int.mul_le_mul_of_nonneg_left (by omega) (by omega)
  have c3 : N * hi ≤ N * max hi h := Int.mul_le_mul_of_nonneg_left (by omega) (by omega)
  have c4 : M * h ≤ M * max hi h := Int.mul_le_mul_of_nonneg_left (by omega) (by omega)
  have k1 := sq_between (a := lo) (m := min lo l) (x := max hi h) (by omega) (by omega)
  have k2 := sq_between (a := hi) (m := min lo l) (x := max hi h) (by omega) (by omega)
  have k3 := sq_between (a := l) (m := min lo l) (x := max hi h) (by omega) (by omega)
  have k4 := sq_between (a := h) (m := min lo l) (x := max hi h) (by omega) (by omega)
  have d1 : N * max (lo * lo) (hi * hi) ≤ N * max (min lo l * min lo l) (max hi h * max hi h) := Int.mul_le_mul_of_nonneg_left (by omega) (by omega)
  have d2 : M * max (l * l) (h * h) ≤ M * max (min lo l * min lo l) (max hi h * max hi h) := Int.mul_le_mul_of_nonneg_left (by omega) (by omega)
  have s1 := sq_nonneg lo
  have s2 := sq_nonneg hi
  have s3 := sq_nonneg l
  have s4 := sq_nonneg h
  have ql0 : lo * lo ≤ Q := by
    by_cases e : N = 1
    · rw [one e]; exact q1
    · have := ql e; omega
  have ql0' : l * l ≤ R := by
    by_cases e : M = 1
    · rw [one' e]; exact q1'
    · have := ql' e; omega
  have qq : min lo l * min lo l + max hi h * max hi h ≤ Q + R := by
    rcases Int.le_total lo l with e1 | e1 <;> rcases Int.le_total hi h with e2 | e2
    · rw [Int.min_eq_left e1, Int.max_eq_right e2]; omega
    · rw [Int.min_eq_left e1, Int.max_eq_left e2]
      by_cases e : N = 1
      · have e3 := one e
        have e4 : l = lo := by omega
        have e5 : h = hi := by omega
        rw [e5] at q1'; rw [e3]; omega
      · have := ql e; omega
    · rw [Int.min_eq_right e1, Int.max_eq_right e2]
      by_cases e : M = 1
      · have e3 := one' e
        have e4 : l = lo := by omega
        have e5 : h = hi := by omega
        rw [← e5] at q1; rw [e3]; omega
      · have := ql' e; omega
    · rw [Int.min_eq_right e1, Int.max_eq_left e2]; omega
  have s5 := sq_nonneg (min lo l)
  refine ⟨by omega, hNM, by omega, by omega, by omega, ?_, ?_, fun e => by omega, fun _ => qq, by omega, ?_, cauchy n0 n0' qs qs'⟩
  · rw [Int.add_mul]; omega
  · rw [Int.add_mul]; omega
  · rw [Int.add_mul]; omega

theorem mrg_spec (N S Q lo hi M T R l h : Int) : ∃ n s q a b e f, mrg N S Q lo hi M T R l h = [.i n, .i s, .i q, .i a, .i b, .i e] ∧ mrg M T R l h N S Q lo hi = [.i n, .i s, .i q, .i a, .i b, .i f] ∧ (e = 0 ↔ f = 0) ∧ (e = 0 → chk n s q a b = 0) := by
  have k0 : chk 0 0 0 0 0 = 0 := rfl
  unfold mrg
  by_cases c1 : chk N S Q lo hi = 0
  · by_cases c2 : chk M T R l h = 0
    · have f1 := chk_fine c1
      have f2 := chk_fine c2
      simp only [c1, c2, ne_eq, not_true_eq_false, if_false]
      rw [Int.add_comm M N]
      by_cases e0 : 2000 < N + M
      · rw [if_pos e0, if_pos e0]
        exact ⟨_, _, _, _, _, _, _, rfl, rfl, by simp, fun e => by cases e⟩
      · rw [if_neg e0, if_neg e0]
        by_cases e1 : N = 0
        · rw [if_pos e1]
          by_cases e2 : M = 0
          · rw [if_pos e2]
            have z1 : S = 0 ∧ Q = 0 ∧ lo = 0 ∧ hi = 0 := by
              have := c1; subst e1; unfold chk at this
              split at this
              · rename_i e; exact e.2
              · simp at this
            have z2 : T = 0 ∧ R = 0 ∧ l = 0 ∧ h = 0 := by
              have := c2; subst e2; unfold chk at this
              split at this
              · rename_i e; exact e.2
              · simp at this
            obtain ⟨rfl, rfl, rfl, rfl⟩ := z1
            obtain ⟨rfl, rfl, rfl, rfl⟩ := z2
            subst e1 e2
            exact ⟨_, _, _, _, _, _, _, rfl, rfl, Iff.rfl, fun _ => k0⟩
          · rw [if_neg e2, if_pos e1]
            exact ⟨_, _, _, _, _, _, _, rfl, rfl, Iff.rfl, fun _ => c2⟩
        · rw [if_neg e1]
          by_cases e2 : M = 0
          · rw [if_pos e2, if_pos e2]
            exact ⟨_, _, _, _, _, _, _, rfl, rfl, Iff.rfl, fun _ => c1⟩
          · rw [if_neg e2, if_neg e2, if_neg e1]
            refine ⟨_, _, _, _, _, _, 0, rfl, ?_, Iff.rfl, fun _ => okay_chk (okay_merge (chk_okay c1 e1) (chk_okay c2 e2) (by omega))⟩
            rw [Int.add_comm T S, Int.add_comm R Q, Int.min_comm l lo, Int.max_comm h hi]
    · simp only [c1, c2, ne_eq, not_true_eq_false, not_false_eq_true, if_false, if_true]
      exact ⟨_, _, _, _, _, _, _, rfl, rfl, Iff.rfl, fun e => absurd e c2⟩
  · simp only [c1, ne_eq, not_false_eq_true, if_true]
    by_cases c2 : chk M T R l h = 0
    · simp only [c2, not_true_eq_false, if_false]
      exact ⟨_, _, _, _, _, _, _, rfl, rfl, Iff.rfl, fun e => absurd e c1⟩
    · simp only [c2, not_false_eq_true, if_true]
      exact ⟨_, _, _, _, _, _, _, rfl, rfl, by simp [c1, c2], fun e => absurd e c1⟩
end Go.Proofs.Ytfaghnapfkpdhaa
