/-
  The reference's Mean. 
-/
import Derived.Test.YtmaocifplceopaaDoorT04c
namespace Go.Proofs.YtmaocifplceopaaDoor
set_option linter.unusedSimpArgs false
set_option linter.unusedVariables false

theorem rmean_1 (a b n : Int) (vs ws : List Int) (C : k_simulatorref04_Check.F [.i 1, .i a, .i b, .i n, .l (vs.map .i), .l (ws.map .i)] = some [.i (chkD 1 a b n vs ws)]) (h0 : chkD 1 a b n vs ws = 0) : k_simulatorref04_Mean.F [.i 1, .i a, .i b, .i n, .l (vs.map .i), .l (ws.map .i)] = some (if (1 : Int) = 1 then ofQ a 1 else if (1 : Int) = 2 then ofQ (a + b) 2 else if (1 : Int) = 4 then ofQ (n * (a + b)) 2 else if (1 : Int) = 3 then ofQ (wsumP vs ws vs.length) (sumI ws) else if a = 1 then ofQ 1 1 else if b = 1 then ofQ 1 1 else [.i 0, .i 0, .b false]) := by
  obtain ⟨i1, i2⟩ := chk1 h0
  have o := rOf_F a 1 ⟨by omega, by omega⟩ ⟨by omega, by omega⟩
  obtain ⟨x, y, z, e⟩ := ofQ_form a 1
  rw [e] at o
  rw [if_pos rfl, e]
  simp only [k_simulatorref04_Mean_F, tk_simulatorref04_Mean, k_simulatorref04_Check_f, k_simulatorref02_Of_f, k_simulatorref04_Sum_f, List.length_map, C, Go.Proofs.YtmaocifplceopaaDoor.T.den, Ex.ev, U1.ev, U2.ev, U3.ev, gam, List.map, List.getD_cons_zero, List.getD_cons_succ, List.length, List.cons_append, List.nil_append, if_true, int_n, bool_n, list_n, Sc.str_s, Nat.reduceEqDiff, if_false, List.getElem?_cons_zero, List.getElem?_cons_succ]
  simp only [h0, o, Int.natCast_nonneg, bne_iff_ne, beq_iff_eq, ne_eq, decide_eq_true_eq, Bool.and_eq_true, Bool.or_eq_true, Bool.not_eq_true', decide_eq_false_iff_not, beq_eq_false_iff_ne, bne_eq_false_iff_eq, not_true_eq_false, not_false_eq_true, if_true, if_false, reduceIte, and_true, true_and, and_false, false_and, or_false, false_or, or_true, true_or, List.getD_cons_zero, List.getD_cons_succ, List.length_cons, List.length_nil, List.cons_append, List.nil_append, Nat.reduceAdd, Nat.reduceEqDiff, reduceCtorEq, Bool.not_true, Bool.not_false, Bool.true_and, Bool.and_true, Bool.false_and, Bool.and_false, Bool.or_true, Bool.true_or, Bool.or_false, Bool.false_or, Bool.false_eq_true, Bool.true_eq_false, int_n, bool_n, list_n, Sc.str_s, Int.reduceEq, Int.reduceLT, Int.reduceLE, Int.reduceNe, decide_true, decide_false, decide_not, eq_self, Classical.not_not, List.getElem?_cons_zero, List.getElem?_cons_succ, beq_self_eq_true, bne_self_eq_false]
theorem rmean_2 (a b n : Int) (vs ws : List Int) (C : k_simulatorref04_Check.F [.i 2, .i a, .i b, .i n, .l (vs.map .i), .l (ws.map .i)] = some [.i (chkD 2 a b n vs ws)]) (h0 : chkD 2 a b n vs ws = 0) : k_simulatorref04_Mean.F [.i 2, .i a, .i b, .i n, .l (vs.map .i), .l (ws.map .i)] = some (if (2 : Int) = 1 then ofQ a 1 else if (2 : Int) = 2 then ofQ (a + b) 2 else if (2 : Int) = 4 then ofQ (n * (a + b)) 2 else if (2 : Int) = 3 then ofQ (wsumP vs ws vs.length) (sumI ws) else if a = 1 then ofQ 1 1 else if b = 1 then ofQ 1 1 else [.i 0, .i 0, .b false]) := by
  obtain ⟨i1, i2, i3⟩ := chk2 h0
  have w : IntKind.i64.wrap (a + b) = a + b := wrJ (by omega) (by omega)
  have o := rOf_F (a + b) 2 ⟨by omega, by omega⟩ ⟨by omega, by omega⟩
  obtain ⟨x, y, z, e⟩ := ofQ_form (a + b) 2
  rw [e] at o
  rw [if_neg (by decide), if_pos rfl, e]
  simp only [k_simulatorref04_Mean_F, tk_simulatorref04_Mean, k_simulatorref04_Check_f, k_simulatorref02_Of_f, k_simulatorref04_Sum_f, List.length_map, C, Go.Proofs.YtmaocifplceopaaDoor.T.den, Ex.ev, U1.ev, U2.ev, U3.ev, gam, List.map, List.getD_cons_zero, List.getD_cons_succ, List.length, List.cons_append, List.nil_append, if_true, int_n, bool_n, list_n, Sc.str_s, Nat.reduceEqDiff, if_false, List.getElem?_cons_zero, List.getElem?_cons_succ]
  simp only [h0, w, o, Int.natCast_nonneg, bne_iff_ne, beq_iff_eq, ne_eq, decide_eq_true_eq, Bool.and_eq_true, Bool.or_eq_true, Bool.not_eq_true', decide_eq_false_iff_not, beq_eq_false_iff_ne, bne_eq_false_iff_eq, not_true_eq_false, not_false_eq_true, if_true, if_false, reduceIte, and_true, true_and, and_false, false_and, or_false, false_or, or_true, true_or, List.getD_cons_zero, List.getD_cons_succ, List.length_cons, List.length_nil, List.cons_append, List.nil_append, Nat.reduceAdd, Nat.reduceEqDiff, reduceCtorEq, Bool.not_true, Bool.not_false, Bool.true_and, Bool.and_true, Bool.false_and, Bool.and_false, Bool.or_true, Bool.true_or, Bool.or_false, Bool.false_or, Bool.false_eq_true, Bool.true_eq_false, int_n, bool_n, list_n, Sc.str_s, Int.reduceEq, Int.reduceLT, Int.reduceLE, Int.reduceNe, decide_true, decide_false, decide_not, eq_self, Classical.not_not, List.getElem?_cons_zero, List.getElem?_cons_succ, beq_self_eq_true, bne_self_eq_false]
theorem rmean_3 (a b n : Int) (vs ws : List Int) (C : k_simulatorref04_Check.F [.i 3, .i a, .i b, .i n, .l (vs.map .i), .l (ws.map .i)] = some [.i (chkD 3 a b n vs ws)]) (h0 : chkD 3 a b n vs ws = 0) : k_simulatorref04_Mean.F [.i 3, .i a, .i b, .i n, .l (vs.map .i), .l (ws.map .i)] = some (if (3 : Int) = 1 then ofQ a 1 else if (3 : Int) = 2 then ofQ (a + b) 2 else if (3 : Int) = 4 then ofQ (n * (a + b)) 2 else if (3 : Int) = 3 then ofQ (wsumP vs ws vs.length) (sumI ws) else if a = 1 then ofQ 1 1 else if b = 1 then ofQ 1 1 else [.i 0, .i 0, .b false]) := by
  obtain ⟨l1, l2, l3, l4, l5⟩ := chk3 h0
  have W := rsum_F ws l5 (by omega)
  have sb := sum_bound (B := 1000) (by omega) ws (fun x hx => by have := l5 x hx; omega)
  have bw := wsumP_in vs ws l4 l5 vs.length
  have o := rOf_F (wsumP vs ws vs.length) (sumI ws) ⟨by omega, by omega⟩ ⟨by omega, by omega⟩
  obtain ⟨x, y, z, e⟩ := ofQ_form (wsumP vs ws vs.length) (sumI ws)
  rw [e] at o
  rw [if_neg (by decide), if_neg (by decide), if_neg (by decide), if_pos rfl, e]
  simp only [k_simulatorref04_Mean_F, tk_simulatorref04_Mean, k_simulatorref04_Check_f, k_simulatorref02_Of_f, k_simulatorref04_Sum_f, List.length_map, C, W, Go.Proofs.YtmaocifplceopaaDoor.T.den, Ex.ev, U1.ev, U2.ev, U3.ev, gam, List.map, List.getD_cons_zero, List.getD_cons_succ, List.length, List.cons_append, List.nil_append, if_true, int_n, bool_n, list_n, Sc.str_s, Nat.reduceEqDiff, if_false, List.getElem?_cons_zero, List.getElem?_cons_succ]
  simp only [h0, Int.natCast_nonneg, bne_iff_ne, beq_iff_eq, ne_eq, decide_eq_true_eq, Bool.and_eq_true, Bool.or_eq_true, Bool.not_eq_true', decide_eq_false_iff_not, beq_eq_false_iff_ne, bne_eq_false_iff_eq, not_true_eq_false, not_false_eq_true, if_true, if_false, reduceIte, and_true, true_and, and_false, false_and, or_false, false_or, or_true, true_or, List.getD_cons_zero, List.getD_cons_succ, List.length_cons, List.length_nil, List.cons_append, List.nil_append, Nat.reduceAdd, Nat.reduceEqDiff, reduceCtorEq, Bool.not_true, Bool.not_false, Bool.true_and, Bool.and_true, Bool.false_and, Bool.and_false, Bool.or_true, Bool.true_or, Bool.or_false, Bool.false_or, Bool.false_eq_true, Bool.true_eq_false, int_n, bool_n, list_n, Sc.str_s, Int.reduceEq, Int.reduceLT, Int.reduceLE, Int.reduceNe, decide_true, decide_false, decide_not, eq_self, Classical.not_not, List.getElem?_cons_zero, List.getElem?_cons_succ, beq_self_eq_true, bne_self_eq_false]
  refine loop_from (S := Nat) (fun j => [.i (wsumP vs ws j), .i (j : Int)]) (fun _ => some [.i x, .i y, .b z]) (fun j => j ≤ vs.length) (fun j => vs.length - j) 0 (by unfold wsumP; rw [List.take_zero]; rfl) rfl (by omega) (by omega) ?_
  intro j rec hj hrec
  by_cases hlt : j < vs.length
  · have hlt2 : j < ws.length := by omega
    have k1 : (j : Int) < vs.length := by omega
    have k2 : (j : Int) < ws.length := by omega
    have h1 := idx_map Sc.i vs j hlt
    have h2 := idx_map Sc.i ws j hlt2
    have hs := succ_w (n := vs.length) hlt (by omega)
    have hr := hrec (j + 1) (by omega) (by omega)
    have bj := wsumP_in vs ws l4 l5 (j + 1)
    have hv1 := l4 _ (List.getElem_mem hlt)
    have hw1 := l5 _ (List.getElem_mem hlt2)
    have m1 : 0 ≤ vs[j] * ws[j] := Int.mul_nonneg (by omega) (by omega)
    have m2 : vs[j] * ws[j] ≤ 1000000000 * 1000 := Int.mul_le_mul (by omega) (by omega) (by omega) (by omega)
    have w1 : IntKind.i64.wrap (vs[j] * ws[j]) = vs[j] * ws[j] := wrJ (by omega) (by omega)
    have w2 : IntKind.i64.wrap (wsumP vs ws j + vs[j] * ws[j]) = wsumP vs ws (j + 1) := by rw [← wsumP_succ vs ws hlt hlt2]; exact wrJ (by omega) (by omega)
    simp only [k1, k2, h1, h2, w1, w2, hs, hr, Int.natCast_nonneg, bne_iff_ne, beq_iff_eq, ne_eq, decide_eq_true_eq, Bool.and_eq_true, Bool.or_eq_true, Bool.not_eq_true', decide_eq_false_iff_not, beq_eq_false_iff_ne, bne_eq_false_iff_eq, not_true_eq_false, not_false_eq_true, if_true, if_false, reduceIte, and_true, true_and, and_false, false_and, or_false, false_or, or_true, true_or, List.getD_cons_zero, List.getD_cons_succ, List.length_cons, List.length_nil, List.cons_append, List.nil_append, Nat.reduceAdd, Nat.reduceEqDiff, reduceCtorEq, Bool.not_true, Bool.not_false, Bool.true_and, Bool.and_true, Bool.false_and, Bool.and_false, Bool.or_true, Bool.true_or, Bool.or_false, Bool.false_or, Bool.false_eq_true, Bool.true_eq_false, int_n, bool_n, list_n, Sc.str_s, Int.reduceEq, Int.reduceLT, Int.reduceLE, Int.reduceNe, decide_true, decide_false, decide_not, eq_self, Classical.not_not, List.getElem?_cons_zero, List.getElem?_cons_succ, beq_self_eq_true, bne_self_eq_false]
  · have k1 : ¬ (j : Int) < vs.length := by omega
    have e : j = vs.length := by omega
    subst e
    simp only [k1, o, Int.natCast_nonneg, bne_iff_ne, beq_iff_eq, ne_eq, decide_eq_true_eq, Bool.and_eq_true, Bool.or_eq_true, Bool.not_eq_true', decide_eq_false_iff_not, beq_eq_false_iff_ne, bne_eq_false_iff_eq, not_true_eq_false, not_false_eq_true, if_true, if_false, reduceIte, and_true, true_and, and_false, false_and, or_false, false_or, or_true, true_or, List.getD_cons_zero, List.getD_cons_succ, List.length_cons, List.length_nil, List.cons_append, List.nil_append, Nat.reduceAdd, Nat.reduceEqDiff, reduceCtorEq, Bool.not_true, Bool.not_false, Bool.true_and, Bool.and_true, Bool.false_and, Bool.and_false, Bool.or_true, Bool.true_or, Bool.or_false, Bool.false_or, Bool.false_eq_true, Bool.true_eq_false, int_n, bool_n, list_n, Sc.str_s, Int.reduceEq, Int.reduceLT, Int.reduceLE, Int.reduceNe, decide_true, decide_false, decide_not, eq_self, Classical.not_not, List.getElem?_cons_zero, List.getElem?_cons_succ, beq_self_eq_true, bne_self_eq_false]
theorem rmean_4 (a b n : Int) (vs ws : List Int) (C : k_simulatorref04_Check.F [.i 4, .i a, .i b, .i n, .l (vs.map .i), .l (ws.map .i)] = some [.i (chkD 4 a b n vs ws)]) (h0 : chkD 4 a b n vs ws = 0) : k_simulatorref04_Mean.F [.i 4, .i a, .i b, .i n, .l (vs.map .i), .l (ws.map .i)] = some (if (4 : Int) = 1 then ofQ a 1 else if (4 : Int) = 2 then ofQ (a + b) 2 else if (4 : Int) = 4 then ofQ (n * (a + b)) 2 else if (4 : Int) = 3 then ofQ (wsumP vs ws vs.length) (sumI ws) else if a = 1 then ofQ 1 1 else if b = 1 then ofQ 1 1 else [.i 0, .i 0, .b false]) := by
  obtain ⟨i0, i1, i2, i3⟩ := chk4 h0
  have w : IntKind.i64.wrap (a + b) = a + b := wrJ (by omega) (by omega)
  have m1 : 0 ≤ n * (a + b) := Int.mul_nonneg (by omega) (by omega)
  have m2 : n * (a + b) ≤ 20 * 2000000 := Int.mul_le_mul (by omega) (by omega) (by omega) (by omega)
  have w2 : IntKind.i64.wrap (n * (a + b)) = n * (a + b) := wrJ (by omega) (by omega)
  have o := rOf_F (n * (a + b)) 2 ⟨by omega, by omega⟩ ⟨by omega, by omega⟩
  obtain ⟨x, y, z, e⟩ := ofQ_form (n * (a + b)) 2
  rw [e] at o
  rw [if_neg (by decide), if_neg (by decide), if_pos rfl, e]
  simp only [k_simulatorref04_Mean_F, tk_simulatorref04_Mean, k_simulatorref04_Check_f, k_simulatorref02_Of_f, k_simulatorref04_Sum_f, List.length_map, C, Go.Proofs.YtmaocifplceopaaDoor.T.den, Ex.ev, U1.ev, U2.ev, U3.ev, gam, List.map, List.getD_cons_zero, List.getD_cons_succ, List.length, List.cons_append, List.nil_append, if_true, int_n, bool_n, list_n, Sc.str_s, Nat.reduceEqDiff, if_false, List.getElem?_cons_zero, List.getElem?_cons_succ]
  simp only [h0, w, w2, o, Int.natCast_nonneg, bne_iff_ne, beq_iff_eq, ne_eq, decide_eq_true_eq, Bool.and_eq_true, Bool.or_eq_true, Bool.not_eq_true', decide_eq_false_iff_not, beq_eq_false_iff_ne, bne_eq_false_iff_eq, not_true_eq_false, not_false_eq_true, if_true, if_false, reduceIte, and_true, true_and, and_false, false_and, or_false, false_or, or_true, true_or, List.getD_cons_zero, List.getD_cons_succ, List.length_cons, List.length_nil, List.cons_append, List.nil_append, Nat.reduceAdd, Nat.reduceEqDiff, reduceCtorEq, Bool.not_true, Bool.not_false, Bool.true_and, Bool.and_true, Bool.false_and, Bool.and_false, Bool.or_true, Bool.true_or, Bool.or_false, Bool.false_or, Bool.false_eq_true, Bool.true_eq_false, int_n, bool_n, list_n, Sc.str_s, Int.reduceEq, Int.reduceLT, Int.reduceLE, Int.reduceNe, decide_true, decide_false, decide_not, eq_self, Classical.not_not, List.getElem?_cons_zero, List.getElem?_cons_succ, beq_self_eq_true, bne_self_eq_false]
theorem rmean_5 (a b n : Int) (vs ws : List Int) (C : k_simulatorref04_Check.F [.i 5, .i a, .i b, .i n, .l (vs.map .i), .l (ws.map .i)] = some [.i (chkD 5 a b n vs ws)]) (h0 : chkD 5 a b n vs ws = 0) : k_simulatorref04_Mean.F [.i 5, .i a, .i b, .i n, .l (vs.map .i), .l (ws.map .i)] = some (if (5 : Int) = 1 then ofQ a 1 else if (5 : Int) = 2 then ofQ (a + b) 2 else if (5 : Int) = 4 then ofQ (n * (a + b)) 2 else if (5 : Int) = 3 then ofQ (wsumP vs ws vs.length) (sumI ws) else if a = 1 then ofQ 1 1 else if b = 1 then ofQ 1 1 else [.i 0, .i 0, .b false]) := by
  have o := rOf_F 1 1 ⟨by omega, by omega⟩ ⟨by omega, by omega⟩
  obtain ⟨x, y, z, e⟩ := ofQ_form 1 1
  rw [e] at o
  rw [if_neg (by decide), if_neg (by decide), if_neg (by decide), if_neg (by decide), e]
  simp only [k_simulatorref04_Mean_F, tk_simulatorref04_Mean, k_simulatorref04_Check_f, k_simulatorref02_Of_f, k_simulatorref04_Sum_f, List.length_map, C, Go.Proofs.YtmaocifplceopaaDoor.T.den, Ex.ev, U1.ev, U2.ev, U3.ev, gam, List.map, List.getD_cons_zero, List.getD_cons_succ, List.length, List.cons_append, List.nil_append, if_true, int_n, bool_n, list_n, Sc.str_s, Nat.reduceEqDiff, if_false, List.getElem?_cons_zero, List.getElem?_cons_succ]
  by_cases a1 : a = 1
  · subst a1
    simp only [h0, o, Int.natCast_nonneg, bne_iff_ne, beq_iff_eq, ne_eq, decide_eq_true_eq, Bool.and_eq_true, Bool.or_eq_true, Bool.not_eq_true', decide_eq_false_iff_not, beq_eq_false_iff_ne, bne_eq_false_iff_eq, not_true_eq_false, not_false_eq_true, if_true, if_false, reduceIte, and_true, true_and, and_false, false_and, or_false, false_or, or_true, true_or, List.getD_cons_zero, List.getD_cons_succ, List.length_cons, List.length_nil, List.cons_append, List.nil_append, Nat.reduceAdd, Nat.reduceEqDiff, reduceCtorEq, Bool.not_true, Bool.not_false, Bool.true_and, Bool.and_true, Bool.false_and, Bool.and_false, Bool.or_true, Bool.true_or, Bool.or_false, Bool.false_or, Bool.false_eq_true, Bool.true_eq_false, int_n, bool_n, list_n, Sc.str_s, Int.reduceEq, Int.reduceLT, Int.reduceLE, Int.reduceNe, decide_true, decide_false, decide_not, eq_self, Classical.not_not, List.getElem?_cons_zero, List.getElem?_cons_succ, beq_self_eq_true, bne_self_eq_false]
  · by_cases b1 : b = 1
    · subst b1
      simp only [h0, a1, o, Int.natCast_nonneg, bne_iff_ne, beq_iff_eq, ne_eq, decide_eq_true_eq, Bool.and_eq_true, Bool.or_eq_true, Bool.not_eq_true', decide_eq_false_iff_not, beq_eq_false_iff_ne, bne_eq_false_iff_eq, not_true_eq_false, not_false_eq_true, if_true, if_false, reduceIte, and_true, true_and, and_false, false_and, or_false, false_or, or_true, true_or, List.getD_cons_zero, List.getD_cons_succ, List.length_cons, List.length_nil, List.cons_append, List.nil_append, Nat.reduceAdd, Nat.reduceEqDiff, reduceCtorEq, Bool.not_true, Bool.not_false, Bool.true_and, Bool.and_true, Bool.false_and, Bool.and_false, Bool.or_true, Bool.true_or, Bool.or_false, Bool.false_or, Bool.false_eq_true, Bool.true_eq_false, int_n, bool_n, list_n, Sc.str_s, Int.reduceEq, Int.reduceLT, Int.reduceLE, Int.reduceNe, decide_true, decide_false, decide_not, eq_self, Classical.not_not, List.getElem?_cons_zero, List.getElem?_cons_succ, beq_self_eq_true, bne_self_eq_false]
    · simp only [h0, a1, b1, Int.natCast_nonneg, bne_iff_ne, beq_iff_eq, ne_eq, decide_eq_true_eq, Bool.and_eq_true, Bool.or_eq_true, Bool.not_eq_true', decide_eq_false_iff_not, beq_eq_false_iff_ne, bne_eq_false_iff_eq, not_true_eq_false, not_false_eq_true, if_true, if_false, reduceIte, and_true, true_and, and_false, false_and, or_false, false_or, or_true, true_or, List.getD_cons_zero, List.getD_cons_succ, List.length_cons, List.length_nil, List.cons_append, List.nil_append, Nat.reduceAdd, Nat.reduceEqDiff, reduceCtorEq, Bool.not_true, Bool.not_false, Bool.true_and, Bool.and_true, Bool.false_and, Bool.and_false, Bool.or_true, Bool.true_or, Bool.or_false, Bool.false_or, Bool.false_eq_true, Bool.true_eq_false, int_n, bool_n, list_n, Sc.str_s, Int.reduceEq, Int.reduceLT, Int.reduceLE, Int.reduceNe, decide_true, decide_false, decide_not, eq_self, Classical.not_not, List.getElem?_cons_zero, List.getElem?_cons_succ, beq_self_eq_true, bne_self_eq_false]
theorem rmean_F (op a b n : Int) (vs ws : List Int) (hv : vs.length ≤ 17592186044416) (hw : ws.length ≤ 17592186044416) : k_simulatorref04_Mean.F [.i op, .i a, .i b, .i n, .l (vs.map .i), .l (ws.map .i)] = some (meanL op a b n vs ws) := by
  have C := rcheck_F op a b n vs ws hv hw
  by_cases h0 : chkD op a b n vs ws = 0
  rotate_left
  · simp only [k_simulatorref04_Mean_F, tk_simulatorref04_Mean, k_simulatorref04_Check_f, k_simulatorref02_Of_f, k_simulatorref04_Sum_f, List.length_map, C, Go.Proofs.YtmaocifplceopaaDoor.T.den, Ex.ev, U1.ev, U2.ev, U3.ev, gam, List.map, List.getD_cons_zero, List.getD_cons_succ, List.length, List.cons_append, List.nil_append, if_true, int_n, bool_n, list_n, Sc.str_s, Nat.reduceEqDiff, if_false, List.getElem?_cons_zero, List.getElem?_cons_succ]
    unfold meanL; rw [if_pos h0]
    simp only [h0, Int.natCast_nonneg, bne_iff_ne, beq_iff_eq, ne_eq, decide_eq_true_eq, Bool.and_eq_true, Bool.or_eq_true, Bool.not_eq_true', decide_eq_false_iff_not, beq_eq_false_iff_ne, bne_eq_false_iff_eq, not_true_eq_false, not_false_eq_true, if_true, if_false, reduceIte, and_true, true_and, and_false, false_and, or_false, false_or, or_true, true_or, List.getD_cons_zero, List.getD_cons_succ, List.length_cons, List.length_nil, List.cons_append, List.nil_append, Nat.reduceAdd, Nat.reduceEqDiff, reduceCtorEq, Bool.not_true, Bool.not_false, Bool.true_and, Bool.and_true, Bool.false_and, Bool.and_false, Bool.or_true, Bool.true_or, Bool.or_false, Bool.false_or, Bool.false_eq_true, Bool.true_eq_false, int_n, bool_n, list_n, Sc.str_s, Int.reduceEq, Int.reduceLT, Int.reduceLE, Int.reduceNe, decide_true, decide_false, decide_not, eq_self, Classical.not_not, List.getElem?_cons_zero, List.getElem?_cons_succ, beq_self_eq_true, bne_self_eq_false]
  have hT : meanL op a b n vs ws = if op = 1 then ofQ a 1 else if op = 2 then ofQ (a + b) 2 else if op = 4 then ofQ (n * (a + b)) 2 else if op = 3 then ofQ (wsumP vs ws vs.length) (sumI ws) else
    if a = 1 then ofQ 1 1 else if b = 1 then ofQ 1 1 else [.i 0, .i 0, .b false] := by
    unfold meanL; rw [if_neg (fun h => h h0)]
  rw [hT]
  rcases chk_op h0 with rfl | rfl | rfl | rfl | rfl
  · exact rmean_1 a b n vs ws C h0
  · exact rmean_2 a b n vs ws C h0
  · exact rmean_3 a b n vs ws C h0
  · exact rmean_4 a b n vs ws C h0
  · exact rmean_5 a b n vs ws C h0
end Go.Proofs.YtmaocifplceopaaDoor
