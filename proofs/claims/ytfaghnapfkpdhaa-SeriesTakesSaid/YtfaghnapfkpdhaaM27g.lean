/-
  Chapter 27: what Mean and Variance and their references return.
-/
import Derived.Test.YtfaghnapfkpdhaaM27f
import Derived.Test.YtfaghnapfkpdhaaFrA
namespace Go.Proofs.Ytfaghnapfkpdhaa
set_option linter.unusedSimpArgs false

def meanL (N S Q lo hi : Int) : List Sc := if chk N S Q lo hi = 0 ∧ N ≠ 0 then ofQ S N else noQ
def varL (N S Q lo hi : Int) : List Sc := if chk N S Q lo hi = 0 ∧ 2 ≤ N then ofQ (N * Q - S * S) (N * (N - 1)) else noQ
structure Bnd (N S Q : Int) : Prop where
  n0 : 1 ≤ N
  n1 : N ≤ 2000
  s0 : -2000000000 ≤ S
  s1 : S ≤ 2000000000
  q0 : 0 ≤ Q
  q1 : Q ≤ 2000000000000000
  nq : N * Q ≤ 4000000000000000000
  nq0 : 0 ≤ N * Q
  ss : S * S ≤ 4000000000000000000
  ss0 : 0 ≤ S * S
  nn : N * (N - 1) ≤ 4000000
  nn0 : 0 ≤ N * (N - 1)
theorem okay_bnd {N S Q lo hi : Int} (h : Okay N S Q lo hi) : Bnd N S Q := by
  obtain ⟨n0, n1, l0, h1, lh, sl, sh, one, ql, q1, qh, qs⟩ := h
  have b1 := mulB (a := N) (b := lo) (A := 2000) (B := 1000000) (by omega) (by omega) (by omega) (by omega) (by omega) (by omega)
  have b2 := mulB (a := N) (b := hi) (A := 2000) (B := 1000000) (by omega) (by omega) (by omega) (by omega) (by omega) (by omega)
  have b3 := mulB (a := lo) (b := lo) (A := 1000000) (B := 1000000) (by omega) (by omega) (by omega) (by omega) (by omega) (by omega)
  have b4 := mulB (a := hi) (b := hi) (A := 1000000) (B := 1000000) (by omega) (by omega) (by omega) (by omega) (by omega) (by omega)
  have p2 := sq_pos hi
  have b5 := mulB (a := N) (b := max (lo * lo) (hi * hi)) (A := 2000) (B := 1000000000000) (by omega) (by omega) (by omega) (by omega) (by omega) (by omega)
  have b6 := mulB (a := S) (b := S) (A := 2000000000) (B := 2000000000) (by omega) (by omega) (by omega) (by omega) (by omega) (by omega)
  have b7 := mulB (a := N) (b := Q) (A := 2000) (B := 2000000000000000) (by omega) (by omega) (by omega) (by omega) (by omega) (by omega)
  have b8 := mulB (a := N) (b := N - 1) (A := 2000) (B := 2000) (by omega) (by omega) (by omega) (by omega) (by omega) (by omega)
  have b9 := Int.mul_nonneg (a := N) (b := N - 1) (by omega) (by omega)
  have b10 := Int.mul_nonneg (a := N) (b := Q) (by omega) (by omega)
  exact ⟨n0, n1, by omega, by omega, by omega, by omega, by omega, b10, by omega, sq_pos S, by omega, b9⟩
theorem mean_F (N S Q lo hi : Int) : k_tally_Mean.F [.i N, .i S, .i Q, .i lo, .i hi] = some (meanL N S Q lo hi) := by
  simp only [k_tally_Mean_F, tk_tally_Mean, k_tally_Check_f, k_frac_Of_f, check_F, Go.Proofs.Ytfaghnapfkpdhaa.T.den, Ex.ev, U1.ev, U2.ev, U3.ev, gam, List.map, List.getD_cons_zero, List.getD_cons_succ, List.length, List.cons_append, List.nil_append, if_true, Sc.int_i, Sc.bool_b, Sc.list_l, Sc.str_s, Nat.reduceEqDiff, if_false, List.getElem?_cons_zero, List.getElem?_cons_succ]
  unfold meanL
  by_cases h0 : N = 0
  · simp only [h0, noQ, Int.natCast_nonneg, bne_iff_ne, beq_iff_eq, ne_eq, decide_eq_true_eq, Bool.and_eq_true, Bool.or_eq_true, Bool.not_eq_true', decide_eq_false_iff_not, beq_eq_false_iff_ne, bne_eq_false_iff_eq, not_true_eq_false, not_false_eq_true, if_true, if_false, reduceIte, and_true, true_and, and_false, false_and, or_false, false_or, or_true, true_or, List.getD_cons_zero, List.getD_cons_succ, List.length_cons, List.length_nil, List.cons_append, List.nil_append, Nat.reduceAdd, Nat.reduceEqDiff, reduceCtorEq, Bool.not_true, Bool.not_false, Bool.true_and, Bool.and_true, Bool.false_and, Bool.and_false, Bool.or_true, Bool.true_or, Bool.or_false, Bool.false_or, Bool.false_eq_true, Bool.true_eq_false, Sc.int_i, Sc.bool_b, Sc.list_l, Sc.str_s, Int.reduceEq, Int.reduceLT, Int.reduceLE, Int.reduceNe, decide_true, decide_false, decide_not, eq_self, Classical.not_not, List.getElem?_cons_zero, List.getElem?_cons_succ, beq_self_eq_true, bne_self_eq_false]
  by_cases h1 : chk N S Q lo hi = 0
  · have b := okay_bnd (chk_okay h1 h0)
    obtain ⟨n0, n1, s0, s1, _⟩ := b
    have e := fOf_F S N ⟨by omega, by omega⟩ ⟨by omega, by omega⟩
    obtain ⟨x, y, z, hx⟩ := ofQ_form S N
    rw [hx] at e ⊢
    simp only [h0, h1, e, Int.natCast_nonneg, bne_iff_ne, beq_iff_eq, ne_eq, decide_eq_true_eq, Bool.and_eq_true, Bool.or_eq_true, Bool.not_eq_true', decide_eq_false_iff_not, beq_eq_false_iff_ne, bne_eq_false_iff_eq, not_true_eq_false, not_false_eq_true, if_true, if_false, reduceIte, and_true, true_and, and_false, false_and, or_false, false_or, or_true, true_or, List.getD_cons_zero, List.getD_cons_succ, List.length_cons, List.length_nil, List.cons_append, List.nil_append, Nat.reduceAdd, Nat.reduceEqDiff, reduceCtorEq, Bool.not_true, Bool.not_false, Bool.true_and, Bool.and_true, Bool.false_and, Bool.and_false, Bool.or_true, Bool.true_or, Bool.or_false, Bool.false_or, Bool.false_eq_true, Bool.true_eq_false, Sc.int_i, Sc.bool_b, Sc.list_l, Sc.str_s, Int.reduceEq, Int.reduceLT, Int.reduceLE, Int.reduceNe, decide_true, decide_false, decide_not, eq_self, Classical.not_not, List.getElem?_cons_zero, List.getElem?_cons_succ, beq_self_eq_true, bne_self_eq_false]
  · simp only [h0, h1, noQ, Int.natCast_nonneg, bne_iff_ne, beq_iff_eq, ne_eq, decide_eq_true_eq, Bool.and_eq_true, Bool.or_eq_true, Bool.not_eq_true', decide_eq_false_iff_not, beq_eq_false_iff_ne, bne_eq_false_iff_eq, not_true_eq_false, not_false_eq_true, if_true, if_false, reduceIte, and_true, true_and, and_false, false_and, or_false, false_or, or_true, true_or, List.getD_cons_zero, List.getD_cons_succ, List.length_cons, List.length_nil, List.cons_append, List.nil_append, Nat.reduceAdd, Nat.reduceEqDiff, reduceCtorEq, Bool.not_true, Bool.not_false, Bool.true_and, Bool.and_true, Bool.false_and, Bool.and_false, Bool.or_true, Bool.true_or, Bool.or_false, Bool.false_or, Bool.false_eq_true, Bool.true_eq_false, Sc.int_i, Sc.bool_b, Sc.list_l, Sc.str_s, Int.reduceEq, Int.reduceLT, Int.reduceLE, Int.reduceNe, decide_true, decide_false, decide_not, eq_self, Classical.not_not, List.getElem?_cons_zero, List.getElem?_cons_succ, beq_self_eq_true, bne_self_eq_false]
theorem meanL_form (N S Q lo hi : Int) : ∃ a b c, meanL N S Q lo hi = [.i a, .i b, .b c] := by
  unfold meanL; split
  · exact ofQ_form _ _
  · exact ⟨_, _, _, rfl⟩
end Go.Proofs.Ytfaghnapfkpdhaa
