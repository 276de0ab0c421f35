/-
  Sums of weights; names. 
-/
import Derived.Test.YtmaocifplceopaaDoorM04u
import Derived.Test.YtmaocifplceopaaDoorSq
namespace Go.Proofs.YtmaocifplceopaaDoor
set_option linter.unusedSimpArgs false
set_option linter.unusedVariables false

theorem inR_mem {lo hi : Int} {xs : List Int} (h : inR lo hi xs = true) : ∀ x ∈ xs, lo ≤ x ∧ x ≤ hi := by
  intro x hx
  have := List.all_eq_true.1 h x hx
  simp only [Bool.and_eq_true, decide_eq_true_eq] at this
  exact this
theorem take_in {lo hi : Int} {xs : List Int} (h : ∀ x ∈ xs, lo ≤ x ∧ x ≤ hi) (j : Nat) : ∀ x ∈ xs.take j, lo ≤ x ∧ x ≤ hi := fun x hx => h x (List.mem_of_mem_take hx)
theorem weight_F (op a b n : Int) (L : List Sc) (ws : List Int) (hw : ∀ x ∈ ws, 1 ≤ x ∧ x ≤ 1000) (hl : ws.length ≤ 20) : k_dist_weight.F [.i op, .i a, .i b, .i n, .l L, .l (ws.map .i)] = some [.i (sumI ws)] := by
  simp only [k_dist_weight_F, tk_dist_weight, List.length_map, Go.Proofs.YtmaocifplceopaaDoor.T.den, Ex.ev, U1.ev, U2.ev, U3.ev, gam, List.map, List.getD_cons_zero, List.getD_cons_succ, List.length, List.cons_append, List.nil_append, if_true, int_n, bool_n, list_n, Sc.str_s, Nat.reduceEqDiff, if_false, List.getElem?_cons_zero, List.getElem?_cons_succ]
  refine loop_rounds (S := Nat) (fun j => [.i (sumI (ws.take j)), .i (j : Int)]) (fun _ => some [.i (sumI ws)]) (fun j => j ≤ ws.length) (fun j => ws.length - j) ?_ 0 (by omega) (by omega)
  intro j rec hj hrec
  by_cases hlt : j < ws.length
  · have k1 : (j : Int) < ws.length := by omega
    have hix := idx_map Sc.i ws j hlt
    have hs := succ_w (n := ws.length) hlt (by omega)
    have hr := hrec (j + 1) (by omega) (by omega)
    have t : ws.take (j + 1) = ws.take j ++ [ws[j]] := by rw [List.take_add_one, List.getElem?_eq_getElem hlt]; rfl
    have e : sumI (ws.take (j + 1)) = sumI (ws.take j) + ws[j] := by rw [t, sumI_append]; simp only [sumI]; omega
    obtain ⟨b1, b2, _, _⟩ := sum_bound (B := 1000) (by omega) (ws.take j) (fun x hx => by have := take_in hw j x hx; omega)
    rw [List.length_take] at b1 b2
    have hb := hw _ (List.getElem_mem hlt)
    have w1 : IntKind.i64.wrap (sumI (ws.take j) + ws[j]) = sumI (ws.take j) + ws[j] := wrJ (by omega) (by omega)
    rw [e] at hr
    simp only [k1, hix, w1, hs, hr, Int.natCast_nonneg, bne_iff_ne, beq_iff_eq, ne_eq, decide_eq_true_eq, Bool.and_eq_true, Bool.or_eq_true, Bool.not_eq_true', decide_eq_false_iff_not, beq_eq_false_iff_ne, bne_eq_false_iff_eq, not_true_eq_false, not_false_eq_true, if_true, if_false, reduceIte, and_true, true_and, and_false, false_and, or_false, false_or, or_true, true_or, List.getD_cons_zero, List.getD_cons_succ, List.length_cons, List.length_nil, List.cons_append, List.nil_append, Nat.reduceAdd, Nat.reduceEqDiff, reduceCtorEq, Bool.not_true, Bool.not_false, Bool.true_and, Bool.and_true, Bool.false_and, Bool.and_false, Bool.or_true, Bool.true_or, Bool.or_false, Bool.false_or, Bool.false_eq_true, Bool.true_eq_false, int_n, bool_n, list_n, Sc.str_s, Int.reduceEq, Int.reduceLT, Int.reduceLE, Int.reduceNe, decide_true, decide_false, decide_not, eq_self, Classical.not_not, List.getElem?_cons_zero, List.getElem?_cons_succ, beq_self_eq_true, bne_self_eq_false]
  · have ej : j = ws.length := by omega
    subst ej
    have k1 : ¬ (ws.length : Int) < ws.length := by omega
    rw [List.take_length]
    simp only [k1, Int.natCast_nonneg, bne_iff_ne, beq_iff_eq, ne_eq, decide_eq_true_eq, Bool.and_eq_true, Bool.or_eq_true, Bool.not_eq_true', decide_eq_false_iff_not, beq_eq_false_iff_ne, bne_eq_false_iff_eq, not_true_eq_false, not_false_eq_true, if_true, if_false, reduceIte, and_true, true_and, and_false, false_and, or_false, false_or, or_true, true_or, List.getD_cons_zero, List.getD_cons_succ, List.length_cons, List.length_nil, List.cons_append, List.nil_append, Nat.reduceAdd, Nat.reduceEqDiff, reduceCtorEq, Bool.not_true, Bool.not_false, Bool.true_and, Bool.and_true, Bool.false_and, Bool.and_false, Bool.or_true, Bool.true_or, Bool.or_false, Bool.false_or, Bool.false_eq_true, Bool.true_eq_false, int_n, bool_n, list_n, Sc.str_s, Int.reduceEq, Int.reduceLT, Int.reduceLE, Int.reduceNe, decide_true, decide_false, decide_not, eq_self, Classical.not_not, List.getElem?_cons_zero, List.getElem?_cons_succ, beq_self_eq_true, bne_self_eq_false]
theorem rsum_F (ws : List Int) (hw : ∀ x ∈ ws, 1 ≤ x ∧ x ≤ 1000) (hl : ws.length ≤ 20) : k_simulatorref04_Sum.F [.l (ws.map .i)] = some [.i (sumI ws)] := by
  simp only [k_simulatorref04_Sum_F, tk_simulatorref04_Sum, List.length_map, Go.Proofs.YtmaocifplceopaaDoor.T.den, Ex.ev, U1.ev, U2.ev, U3.ev, gam, List.map, List.getD_cons_zero, List.getD_cons_succ, List.length, List.cons_append, List.nil_append, if_true, int_n, bool_n, list_n, Sc.str_s, Nat.reduceEqDiff, if_false, List.getElem?_cons_zero, List.getElem?_cons_succ]
  refine loop_rounds (S := Nat) (fun j => [.i (sumI (ws.take j)), .i (j : Int)]) (fun _ => some [.i (sumI ws)]) (fun j => j ≤ ws.length) (fun j => ws.length - j) ?_ 0 (by omega) (by omega)
  intro j rec hj hrec
  by_cases hlt : j < ws.length
  · have k1 : (j : Int) < ws.length := by omega
    have hix := idx_map Sc.i ws j hlt
    have hs := succ_w (n := ws.length) hlt (by omega)
    have hr := hrec (j + 1) (by omega) (by omega)
    have t : ws.take (j + 1) = ws.take j ++ [ws[j]] := by rw [List.take_add_one, List.getElem?_eq_getElem hlt]; rfl
    have e : sumI (ws.take (j + 1)) = sumI (ws.take j) + ws[j] := by rw [t, sumI_append]; simp only [sumI]; omega
    obtain ⟨b1, b2, _, _⟩ := sum_bound (B := 1000) (by omega) (ws.take j) (fun x hx => by have := take_in hw j x hx; omega)
    rw [List.length_take] at b1 b2
    have hb := hw _ (List.getElem_mem hlt)
    have w1 : IntKind.i64.wrap (sumI (ws.take j) + ws[j]) = sumI (ws.take j) + ws[j] := wrJ (by omega) (by omega)
    rw [e] at hr
    simp only [k1, hix, w1, hs, hr, Int.natCast_nonneg, bne_iff_ne, beq_iff_eq, ne_eq, decide_eq_true_eq, Bool.and_eq_true, Bool.or_eq_true, Bool.not_eq_true', decide_eq_false_iff_not, beq_eq_false_iff_ne, bne_eq_false_iff_eq, not_true_eq_false, not_false_eq_true, if_true, if_false, reduceIte, and_true, true_and, and_false, false_and, or_false, false_or, or_true, true_or, List.getD_cons_zero, List.getD_cons_succ, List.length_cons, List.length_nil, List.cons_append, List.nil_append, Nat.reduceAdd, Nat.reduceEqDiff, reduceCtorEq, Bool.not_true, Bool.not_false, Bool.true_and, Bool.and_true, Bool.false_and, Bool.and_false, Bool.or_true, Bool.true_or, Bool.or_false, Bool.false_or, Bool.false_eq_true, Bool.true_eq_false, int_n, bool_n, list_n, Sc.str_s, Int.reduceEq, Int.reduceLT, Int.reduceLE, Int.reduceNe, decide_true, decide_false, decide_not, eq_self, Classical.not_not, List.getElem?_cons_zero, List.getElem?_cons_succ, beq_self_eq_true, bne_self_eq_false]
  · have ej : j = ws.length := by omega
    subst ej
    have k1 : ¬ (ws.length : Int) < ws.length := by omega
    rw [List.take_length]
    simp only [k1, Int.natCast_nonneg, bne_iff_ne, beq_iff_eq, ne_eq, decide_eq_true_eq, Bool.and_eq_true, Bool.or_eq_true, Bool.not_eq_true', decide_eq_false_iff_not, beq_eq_false_iff_ne, bne_eq_false_iff_eq, not_true_eq_false, not_false_eq_true, if_true, if_false, reduceIte, and_true, true_and, and_false, false_and, or_false, false_or, or_true, true_or, List.getD_cons_zero, List.getD_cons_succ, List.length_cons, List.length_nil, List.cons_append, List.nil_append, Nat.reduceAdd, Nat.reduceEqDiff, reduceCtorEq, Bool.not_true, Bool.not_false, Bool.true_and, Bool.and_true, Bool.false_and, Bool.and_false, Bool.or_true, Bool.true_or, Bool.or_false, Bool.false_or, Bool.false_eq_true, Bool.true_eq_false, int_n, bool_n, list_n, Sc.str_s, Int.reduceEq, Int.reduceLT, Int.reduceLE, Int.reduceNe, decide_true, decide_false, decide_not, eq_self, Classical.not_not, List.getElem?_cons_zero, List.getElem?_cons_succ, beq_self_eq_true, bne_self_eq_false]
end Go.Proofs.YtmaocifplceopaaDoor
