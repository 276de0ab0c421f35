/-
  Chapter 27: what Merge and its reference return.
-/
import Derived.Test.YtfaghnapfkpdhaaM27
namespace Go.Proofs.Ytfaghnapfkpdhaa
set_option linter.unusedSimpArgs false

/-- What a tally that passes Check looks like. -/
structure Fine (N S Q lo hi : Int) : Prop where
  n0 : 0 ≤ N
  n1 : N ≤ 2000
  s0 : -2000000000 ≤ S
  s1 : S ≤ 2000000000
  q0 : 0 ≤ Q
  q1 : Q ≤ 2000000000000000
  l0 : -1000000 ≤ lo
  l1 : lo ≤ 1000000
  h0 : -1000000 ≤ hi
  h1 : hi ≤ 1000000
theorem chk_fine {N S Q lo hi : Int} (h : chk N S Q lo hi = 0) : Fine N S Q lo hi := by
  unfold chk at h
  split at h
  · rename_i e; clear h; obtain ⟨rfl, rfl, rfl, rfl, rfl⟩ := e; exact ⟨by omega, by omega, by omega, by omega, by omega, by omega, by omega, by omega, by omega, by omega⟩
  · split at h
    · cases h
    · rename_i h2
      have hl : valB lo = true := by cases hh : valB lo <;> simp_all
      have hh : valB hi = true := by cases hh : valB hi <;> simp_all
      have hN : 1 ≤ N ∧ N ≤ 2000 := by omega
      obtain ⟨_, _, _, _, _, _, p1, p2, p3, p4, p5⟩ := chk_bounds (N := N) hN.1 hN.2 hl hh
      simp only [valB, Bool.and_eq_true, decide_eq_true_eq] at hl hh
      by_cases h3 : S < N * lo ∨ N * hi < S ∨ (N = 1 ∧ lo ≠ hi)
      · rw [if_pos h3] at h; cases h
      · rw [if_neg h3] at h
        by_cases h4 : Q < (if N = 1 then hi * hi else lo * lo + hi * hi) ∨ N * max (lo * lo) (hi * hi) < Q ∨ N * Q < S * S
        · rw [if_pos h4] at h; cases h
        · have : (if N = 1 then hi * hi else lo * lo + hi * hi) ≥ 0 := by split <;> omega
          exact ⟨by omega, by omega, by omega, by omega, by omega, by omega, by omega, by omega, by omega, by omega⟩

/-- What Merge returns. -/
def mrg (N S Q lo hi M T R l h : Int) : List Sc :=
  if chk N S Q lo hi ≠ 0 then [.i 0, .i 0, .i 0, .i 0, .i 0, .i (chk N S Q lo hi)]
  else if chk M T R l h ≠ 0 then [.i 0, .i 0, .i 0, .i 0, .i 0, .i (chk M T R l h)]
  else if 2000 < N + M then [.i 0, .i 0, .i 0, .i 0, .i 0, .i 13]
  else if N = 0 then [.i M, .i T, .i R, .i l, .i h, .i 0]
  else if M = 0 then [.i N, .i S, .i Q, .i lo, .i hi, .i 0]
  else [.i (N + M), .i (S + T), .i (Q + R), .i (min lo l), .i (max hi h), .i 0]
theorem min_if (a b : Int) : (if b < a then b else a) = min a b := by split <;> omega
theorem joined_F {N S Q lo hi M T R l h : Int} (h1 : Fine N S Q lo hi) (h2 : Fine M T R l h) : k_tally_joined.F [.i N, .i S, .i Q, .i lo, .i hi, .i M, .i T, .i R, .i l, .i h] =
    some (if N = 0 then [.i M, .i T, .i R, .i l, .i h] else if M = 0 then [.i N, .i S, .i Q, .i lo, .i hi] else [.i (N + M), .i (S + T), .i (Q + R), .i (min lo l), .i (max hi h)]) := by
  obtain ⟨a1, a2, a3, a4, a5, a6, a7, a8, a9, a10⟩ := h1
  obtain ⟨b1, b2, b3, b4, b5, b6, b7, b8, b9, b10⟩ := h2
  simp only [k_tally_joined_F, tk_tally_joined, Go.Proofs.Ytfaghnapfkpdhaa.T.den, Ex.ev, U1.ev, U2.ev, U3.ev, gam, List.map, List.getD_cons_zero, List.getD_cons_succ, List.length, List.cons_append, List.nil_append, if_true, Sc.int_i, Sc.bool_b, Sc.list_l, Sc.str_s, Nat.reduceEqDiff, if_false, List.getElem?_cons_zero, List.getElem?_cons_succ]
  rw [wr64 (z := N + M) (by omega) (by omega), wr64 (z := S + T) (by omega) (by omega), wr64 (z := Q + R) (by omega) (by omega), max_if, min_if]
  by_cases e1 : N = 0
  · simp [e1]
  · by_cases e2 : M = 0 <;> simp [e1, e2]
end Go.Proofs.Ytfaghnapfkpdhaa
