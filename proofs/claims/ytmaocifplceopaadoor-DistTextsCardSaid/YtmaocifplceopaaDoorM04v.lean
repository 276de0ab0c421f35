/-
  Trials, both ways. 
-/
import Derived.Test.YtmaocifplceopaaDoorM04t
namespace Go.Proofs.YtmaocifplceopaaDoor
set_option linter.unusedSimpArgs false
set_option linter.unusedVariables false

def trV (W : Int) (A B : Nat) : Nat → Nat → Nat → Nat
  | 0, _, _ => B
  | f + 1, t, k => if ((t * (A - 1) / A : Nat) : Int) ≤ W then k else trV W A B f (t * (A - 1) / A) (k + 1)
theorem trials_F (op n : Int) (L M : List Sc) (A B : Nat) (u : Int) (hA : 1 ≤ A ∧ A ≤ 1000) (hB : 1 ≤ B ∧ B ≤ 1000) : k_dist_trials.F [.i op, .i A, .i B, .i n, .l L, .l M, .i u] = some [.i (trV (xorU 18446744073709551615 u) A B (B - 1) 18446744073709551615 1 : Nat)] := by
  simp only [k_dist_trials_F, tk_dist_trials, k_bits_Mul64_f, k_bits_Div64_f, Go.Proofs.YtmaocifplceopaaDoor.T.den, Ex.ev, U1.ev, U2.ev, U3.ev, gam, List.map, List.getD_cons_zero, List.getD_cons_succ, List.length, List.cons_append, List.nil_append, if_true, int_n, bool_n, list_n, Sc.str_s, Nat.reduceEqDiff, if_false, List.getElem?_cons_zero, List.getElem?_cons_succ]
  refine loop_rounds (S := Nat × Nat) (fun s => [.i (s.1 : Int), .i (s.2 : Int)]) (fun s => some [.i (trV (xorU 18446744073709551615 u) A B (B - s.2) s.1 s.2 : Nat)]) (fun s => s.1 < 18446744073709551616 ∧ 1 ≤ s.2 ∧ s.2 ≤ B) (fun s => B - s.2) ?_ (18446744073709551615, 1) ⟨by simp only; omega, by simp only; omega, by simp only; omega⟩ (by simp only; omega)
  rintro ⟨t, k⟩ rec ⟨t1, k1, k2⟩ hrec
  simp only at t1 k1 k2 ⊢
  by_cases hlt : k < B
  · have c1 : (k : Int) < B := by omega
    have p1 : t * (A - 1) / A ≤ t := by
      refine Nat.div_le_of_le_mul ?_
      rw [Nat.mul_comm A t]; exact Nat.mul_le_mul_left _ (by omega)
    have hr := hrec (t * (A - 1) / A, k + 1) ⟨by simp only; omega, by simp only; omega, by simp only; omega⟩ (by simp only; omega)
    simp only at hr
    have wa : IntKind.u64.wrap (IntKind.i64.wrap ((A : Int) - 1)) = ((A - 1 : Nat) : Int) := by
      rw [show (A : Int) - 1 = ((A - 1 : Nat) : Int) by omega, wrJ (by omega) (by omega), wrU (by omega) (by omega)]
    have wA : IntKind.u64.wrap (A : Int) = A := wrU (by omega) (by omega)
    have m := mul64_F t (A - 1) t1 (by omega)
    have hq : t * (A - 1) < 18446744073709551616 * A := Nat.lt_of_le_of_lt (Nat.mul_le_mul_left _ (by omega : A - 1 ≤ A)) (Nat.mul_lt_mul_of_pos_right t1 (by omega))
    have d := div64_F (t * (A - 1) / 18446744073709551616) (t * (A - 1) % 18446744073709551616) A (by rw [Nat.div_lt_iff_lt_mul (by omega), Nat.mul_comm A 18446744073709551616]; exact hq) (Nat.mod_lt _ (by omega)) (by omega)
    have ej : t * (A - 1) / 18446744073709551616 * 18446744073709551616 + t * (A - 1) % 18446744073709551616 = t * (A - 1) := by omega
    rw [ej] at d
    unfold hiW loW at m
    have hk : IntKind.i64.wrap ((k : Int) + 1) = ((k + 1 : Nat) : Int) := by rw [wrJ (by omega) (by omega)]; omega
    have f1 : B - k = (B - (k + 1)) + 1 := by omega
    rw [f1]
    simp only [trV]
    by_cases c2 : ((t * (A - 1) / A : Nat) : Int) ≤ xorU 18446744073709551615 u
    · rw [if_pos c2]
      unfold xorU at c2
      simp only [c1, wa, wA, m, d, c2, Int.natCast_nonneg, bne_iff_ne, beq_iff_eq, ne_eq, decide_eq_true_eq, Bool.and_eq_true, Bool.or_eq_true, Bool.not_eq_true', decide_eq_false_iff_not, beq_eq_false_iff_ne, bne_eq_false_iff_eq, not_true_eq_false, not_false_eq_true, if_true, if_false, reduceIte, and_true, true_and, and_false, false_and, or_false, false_or, or_true, true_or, List.getD_cons_zero, List.getD_cons_succ, List.length_cons, List.length_nil, List.cons_append, List.nil_append, Nat.reduceAdd, Nat.reduceEqDiff, reduceCtorEq, Bool.not_true, Bool.not_false, Bool.true_and, Bool.and_true, Bool.false_and, Bool.and_false, Bool.or_true, Bool.true_or, Bool.or_false, Bool.false_or, Bool.false_eq_true, Bool.true_eq_false, int_n, bool_n, list_n, Sc.str_s, Int.reduceEq, Int.reduceLT, Int.reduceLE, Int.reduceNe, decide_true, decide_false, decide_not, eq_self, Classical.not_not, List.getElem?_cons_zero, List.getElem?_cons_succ, beq_self_eq_true, bne_self_eq_false]
    · rw [if_neg c2]
      unfold xorU at c2
      simp only [c1, wa, wA, m, d, c2, hk, hr, Int.natCast_nonneg, bne_iff_ne, beq_iff_eq, ne_eq, decide_eq_true_eq, Bool.and_eq_true, Bool.or_eq_true, Bool.not_eq_true', decide_eq_false_iff_not, beq_eq_false_iff_ne, bne_eq_false_iff_eq, not_true_eq_false, not_false_eq_true, if_true, if_false, reduceIte, and_true, true_and, and_false, false_and, or_false, false_or, or_true, true_or, List.getD_cons_zero, List.getD_cons_succ, List.length_cons, List.length_nil, List.cons_append, List.nil_append, Nat.reduceAdd, Nat.reduceEqDiff, reduceCtorEq, Bool.not_true, Bool.not_false, Bool.true_and, Bool.and_true, Bool.false_and, Bool.and_false, Bool.or_true, Bool.true_or, Bool.or_false, Bool.false_or, Bool.false_eq_true, Bool.true_eq_false, int_n, bool_n, list_n, Sc.str_s, Int.reduceEq, Int.reduceLT, Int.reduceLE, Int.reduceNe, decide_true, decide_false, decide_not, eq_self, Classical.not_not, List.getElem?_cons_zero, List.getElem?_cons_succ, beq_self_eq_true, bne_self_eq_false]
  · have c1 : ¬ (k : Int) < B := by omega
    have f1 : B - k = 0 := by omega
    rw [f1]
    simp only [c1, trV, Int.natCast_nonneg, bne_iff_ne, beq_iff_eq, ne_eq, decide_eq_true_eq, Bool.and_eq_true, Bool.or_eq_true, Bool.not_eq_true', decide_eq_false_iff_not, beq_eq_false_iff_ne, bne_eq_false_iff_eq, not_true_eq_false, not_false_eq_true, if_true, if_false, reduceIte, and_true, true_and, and_false, false_and, or_false, false_or, or_true, true_or, List.getD_cons_zero, List.getD_cons_succ, List.length_cons, List.length_nil, List.cons_append, List.nil_append, Nat.reduceAdd, Nat.reduceEqDiff, reduceCtorEq, Bool.not_true, Bool.not_false, Bool.true_and, Bool.and_true, Bool.false_and, Bool.and_false, Bool.or_true, Bool.true_or, Bool.or_false, Bool.false_or, Bool.false_eq_true, Bool.true_eq_false, int_n, bool_n, list_n, Sc.str_s, Int.reduceEq, Int.reduceLT, Int.reduceLE, Int.reduceNe, decide_true, decide_false, decide_not, eq_self, Classical.not_not, List.getElem?_cons_zero, List.getElem?_cons_succ, beq_self_eq_true, bne_self_eq_false]
theorem rgeo_F (A B : Nat) (u : Int) (hA : 1 ≤ A ∧ A ≤ 1000) (hB : 1 ≤ B ∧ B ≤ 1000) : k_simulatorref04_geometric.F [.i A, .i B, .i u] = some [.i (trV (xorU 18446744073709551615 u) A B (B - 1) 18446744073709551615 1 : Nat)] := by
  simp only [k_simulatorref04_geometric_F, tk_simulatorref04_geometric, Go.Proofs.YtmaocifplceopaaDoor.T.den, Ex.ev, U1.ev, U2.ev, U3.ev, gam, List.map, List.getD_cons_zero, List.getD_cons_succ, List.length, List.cons_append, List.nil_append, if_true, int_n, bool_n, list_n, Sc.str_s, Nat.reduceEqDiff, if_false, List.getElem?_cons_zero, List.getElem?_cons_succ]
  refine loop_rounds (S := Nat × Nat) (fun s => [.i (s.1 : Int), .i (s.2 : Int)]) (fun s => some [.i (trV (xorU 18446744073709551615 u) A B (B - s.2) s.1 s.2 : Nat)]) (fun s => s.1 < 18446744073709551616 ∧ 1 ≤ s.2 ∧ s.2 ≤ B) (fun s => B - s.2) ?_ (18446744073709551615, 1) ⟨by simp only; omega, by simp only; omega, by simp only; omega⟩ (by simp only; omega)
  rintro ⟨t, k⟩ rec ⟨t1, k1, k2⟩ hrec
  simp only at t1 k1 k2 ⊢
  by_cases hlt : k < B
  · have c1 : (k : Int) < B := by omega
    have p1 : t * (A - 1) / A ≤ t := by
      refine Nat.div_le_of_le_mul ?_
      rw [Nat.mul_comm A t]; exact Nat.mul_le_mul_left _ (by omega)
    have hr := hrec (t * (A - 1) / A, k + 1) ⟨by simp only; omega, by simp only; omega, by simp only; omega⟩ (by simp only; omega)
    simp only at hr
    have wA : IntKind.u64.wrap (A : Int) = A := wrU (by omega) (by omega)
    have nA : ¬ (A : Int) = 0 := by omega
    have qd := quo_nat (a := t) (b := A) t1
    have rm : Int.tmod (t : Int) A = ((t % A : Nat) : Int) := rfl
    have pe := part_eq t A hA.1
    have hk : IntKind.i64.wrap ((k : Int) + 1) = ((k + 1 : Nat) : Int) := by rw [wrJ (by omega) (by omega)]; omega
    have f1 : B - k = (B - (k + 1)) + 1 := by omega
    have dl := Nat.div_add_mod t A
    have dle : t / A ≤ t := Nat.div_le_self _ _
    have dpos : t % A ≠ 0 → t / A + 1 ≤ t := fun h => by
      have h2 : t / A ≤ A * (t / A) := Nat.le_mul_of_pos_left _ (by omega)
      omega
    rw [f1]
    simp only [trV]
    by_cases c0 : t % A = 0
    · rw [if_pos c0, Nat.add_zero] at pe
      rw [c0] at rm
      have ws : IntKind.u64.wrap ((t : Int) - ((t / A : Nat) : Int)) = ((t * (A - 1) / A : Nat) : Int) := by rw [pe, wrU (by omega) (by omega)]; omega
      have z0 : ((0 : Nat) : Int) = 0 := rfl
      by_cases c2 : ((t * (A - 1) / A : Nat) : Int) ≤ xorU 18446744073709551615 u
      · rw [if_pos c2]
        unfold xorU at c2
        simp only [c1, wA, nA, rm, z0, qd, ws, c2, Int.natCast_nonneg, bne_iff_ne, beq_iff_eq, ne_eq, decide_eq_true_eq, Bool.and_eq_true, Bool.or_eq_true, Bool.not_eq_true', decide_eq_false_iff_not, beq_eq_false_iff_ne, bne_eq_false_iff_eq, not_true_eq_false, not_false_eq_true, if_true, if_false, reduceIte, and_true, true_and, and_false, false_and, or_false, false_or, or_true, true_or, List.getD_cons_zero, List.getD_cons_succ, List.length_cons, List.length_nil, List.cons_append, List.nil_append, Nat.reduceAdd, Nat.reduceEqDiff, reduceCtorEq, Bool.not_true, Bool.not_false, Bool.true_and, Bool.and_true, Bool.false_and, Bool.and_false, Bool.or_true, Bool.true_or, Bool.or_false, Bool.false_or, Bool.false_eq_true, Bool.true_eq_false, int_n, bool_n, list_n, Sc.str_s, Int.reduceEq, Int.reduceLT, Int.reduceLE, Int.reduceNe, decide_true, decide_false, decide_not, eq_self, Classical.not_not, List.getElem?_cons_zero, List.getElem?_cons_succ, beq_self_eq_true, bne_self_eq_false]
      · rw [if_neg c2]
        unfold xorU at c2
        simp only [c1, wA, nA, rm, z0, qd, ws, c2, hk, hr, Int.natCast_nonneg, bne_iff_ne, beq_iff_eq, ne_eq, decide_eq_true_eq, Bool.and_eq_true, Bool.or_eq_true, Bool.not_eq_true', decide_eq_false_iff_not, beq_eq_false_iff_ne, bne_eq_false_iff_eq, not_true_eq_false, not_false_eq_true, if_true, if_false, reduceIte, and_true, true_and, and_false, false_and, or_false, false_or, or_true, true_or, List.getD_cons_zero, List.getD_cons_succ, List.length_cons, List.length_nil, List.cons_append, List.nil_append, Nat.reduceAdd, Nat.reduceEqDiff, reduceCtorEq, Bool.not_true, Bool.not_false, Bool.true_and, Bool.and_true, Bool.false_and, Bool.and_false, Bool.or_true, Bool.true_or, Bool.or_false, Bool.false_or, Bool.false_eq_true, Bool.true_eq_false, int_n, bool_n, list_n, Sc.str_s, Int.reduceEq, Int.reduceLT, Int.reduceLE, Int.reduceNe, decide_true, decide_false, decide_not, eq_self, Classical.not_not, List.getElem?_cons_zero, List.getElem?_cons_succ, beq_self_eq_true, bne_self_eq_false]
    · rw [if_neg c0] at pe
      have rm2 : ¬ ((t % A : Nat) : Int) = 0 := by omega
      have h3 := dpos c0
      have wp : IntKind.u64.wrap (((t / A : Nat) : Int) + 1) = ((t / A + 1 : Nat) : Int) := by rw [wrU (by omega) (by omega)]; omega
      have ws : IntKind.u64.wrap ((t : Int) - ((t / A + 1 : Nat) : Int)) = ((t * (A - 1) / A : Nat) : Int) := by rw [pe, wrU (by omega) (by omega)]; omega
      by_cases c2 : ((t * (A - 1) / A : Nat) : Int) ≤ xorU 18446744073709551615 u
      · rw [if_pos c2]
        unfold xorU at c2
        simp only [c1, wA, nA, rm, rm2, qd, wp, ws, c2, Int.natCast_nonneg, bne_iff_ne, beq_iff_eq, ne_eq, decide_eq_true_eq, Bool.and_eq_true, Bool.or_eq_true, Bool.not_eq_true', decide_eq_false_iff_not, beq_eq_false_iff_ne, bne_eq_false_iff_eq, not_true_eq_false, not_false_eq_true, if_true, if_false, reduceIte, and_true, true_and, and_false, false_and, or_false, false_or, or_true, true_or, List.getD_cons_zero, List.getD_cons_succ, List.length_cons, List.length_nil, List.cons_append, List.nil_append, Nat.reduceAdd, Nat.reduceEqDiff, reduceCtorEq, Bool.not_true, Bool.not_false, Bool.true_and, Bool.and_true, Bool.false_and, Bool.and_false, Bool.or_true, Bool.true_or, Bool.or_false, Bool.false_or, Bool.false_eq_true, Bool.true_eq_false, int_n, bool_n, list_n, Sc.str_s, Int.reduceEq, Int.reduceLT, Int.reduceLE, Int.reduceNe, decide_true, decide_false, decide_not, eq_self, Classical.not_not, List.getElem?_cons_zero, List.getElem?_cons_succ, beq_self_eq_true, bne_self_eq_false]
      · rw [if_neg c2]
        unfold xorU at c2
        simp only [c1, wA, nA, rm, rm2, qd, wp, ws, c2, hk, hr, Int.natCast_nonneg, bne_iff_ne, beq_iff_eq, ne_eq, decide_eq_true_eq, Bool.and_eq_true, Bool.or_eq_true, Bool.not_eq_true', decide_eq_false_iff_not, beq_eq_false_iff_ne, bne_eq_false_iff_eq, not_true_eq_false, not_false_eq_true, if_true, if_false, reduceIte, and_true, true_and, and_false, false_and, or_false, false_or, or_true, true_or, List.getD_cons_zero, List.getD_cons_succ, List.length_cons, List.length_nil, List.cons_append, List.nil_append, Nat.reduceAdd, Nat.reduceEqDiff, reduceCtorEq, Bool.not_true, Bool.not_false, Bool.true_and, Bool.and_true, Bool.false_and, Bool.and_false, Bool.or_true, Bool.true_or, Bool.or_false, Bool.false_or, Bool.false_eq_true, Bool.true_eq_false, int_n, bool_n, list_n, Sc.str_s, Int.reduceEq, Int.reduceLT, Int.reduceLE, Int.reduceNe, decide_true, decide_false, decide_not, eq_self, Classical.not_not, List.getElem?_cons_zero, List.getElem?_cons_succ, beq_self_eq_true, bne_self_eq_false]
  · have c1 : ¬ (k : Int) < B := by omega
    have f1 : B - k = 0 := by omega
    rw [f1]
    simp only [c1, trV, Int.natCast_nonneg, bne_iff_ne, beq_iff_eq, ne_eq, decide_eq_true_eq, Bool.and_eq_true, Bool.or_eq_true, Bool.not_eq_true', decide_eq_false_iff_not, beq_eq_false_iff_ne, bne_eq_false_iff_eq, not_true_eq_false, not_false_eq_true, if_true, if_false, reduceIte, and_true, true_and, and_false, false_and, or_false, false_or, or_true, true_or, List.getD_cons_zero, List.getD_cons_succ, List.length_cons, List.length_nil, List.cons_append, List.nil_append, Nat.reduceAdd, Nat.reduceEqDiff, reduceCtorEq, Bool.not_true, Bool.not_false, Bool.true_and, Bool.and_true, Bool.false_and, Bool.and_false, Bool.or_true, Bool.true_or, Bool.or_false, Bool.false_or, Bool.false_eq_true, Bool.true_eq_false, int_n, bool_n, list_n, Sc.str_s, Int.reduceEq, Int.reduceLT, Int.reduceLE, Int.reduceNe, decide_true, decide_false, decide_not, eq_self, Classical.not_not, List.getElem?_cons_zero, List.getElem?_cons_succ, beq_self_eq_true, bne_self_eq_false]
end Go.Proofs.YtmaocifplceopaaDoor
