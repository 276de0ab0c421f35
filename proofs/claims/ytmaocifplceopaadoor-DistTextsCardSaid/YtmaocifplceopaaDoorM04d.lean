/-
  Distributions: what the two checks return. 
-/
import Derived.Test.YtmaocifplceopaaDoorM04
import Derived.Test.YtmaocifplceopaaDoorLp
namespace Go.Proofs.YtmaocifplceopaaDoor
set_option linter.unusedSimpArgs false
set_option linter.unusedVariables false

theorem int_n (z : Int) : (Sc.i z).int = z := id rfl
theorem bool_n (z : Bool) : (Sc.b z).bool = z := id rfl
theorem list_n (z : List Sc) : (Sc.l z).list = z := id rfl
def inR (lo hi : Int) (xs : List Int) : Bool := xs.all fun x => decide (lo ≤ x) && decide (x ≤ hi)
theorem within_F (lo hi : Int) (xs : List Int) (hl : xs.length ≤ 17592186044416) : k_dist_within.F [.i lo, .i hi, .l (xs.map .i)] = some [.b (inR lo hi xs)] := by
  simp only [k_dist_within_F, tk_dist_within, List.length_map, Go.Proofs.YtmaocifplceopaaDoor.T.den, Ex.ev, U1.ev, U2.ev, U3.ev, gam, List.map, List.getD_cons_zero, List.getD_cons_succ, List.length, List.cons_append, List.nil_append, if_true, int_n, bool_n, list_n, Sc.str_s, Nat.reduceEqDiff, if_false, List.getElem?_cons_zero, List.getElem?_cons_succ]
  refine (loop_rounds (S := Nat) (fun j => [.i (j : Int)]) (fun j => some [.b (inR lo hi (xs.drop j))]) (fun j => j ≤ xs.length) (fun j => xs.length - j) ?_ 0 (by omega) (by omega)).trans ?_
  · intro j rec hj hrec
    by_cases hlt : j < xs.length
    · have k1 : (j : Int) < xs.length := by omega
      have hi' := idx_map Sc.i xs j hlt
      have hw := succ_w (n := xs.length) hlt (by omega)
      have hr := hrec (j + 1) (by omega) (by omega)
      have e : inR lo hi (xs.drop j) = ((decide (lo ≤ xs[j]) && decide (xs[j] ≤ hi)) && inR lo hi (xs.drop (j + 1))) := by rw [List.drop_eq_getElem_cons hlt]; rfl
      have n0 : (0 : Int) ≤ j := by omega
      rw [e]
      by_cases c1 : xs[j] < lo
      · have c1' : ¬ lo ≤ xs[j] := by omega
        simp only [k1, hi', c1, c1', n0, Int.natCast_nonneg, bne_iff_ne, beq_iff_eq, ne_eq, decide_eq_true_eq, Bool.and_eq_true, Bool.or_eq_true, Bool.not_eq_true', decide_eq_false_iff_not, beq_eq_false_iff_ne, bne_eq_false_iff_eq, not_true_eq_false, not_false_eq_true, if_true, if_false, reduceIte, and_true, true_and, and_false, false_and, or_false, false_or, or_true, true_or, List.getD_cons_zero, List.getD_cons_succ, List.length_cons, List.length_nil, List.cons_append, List.nil_append, Nat.reduceAdd, Nat.reduceEqDiff, reduceCtorEq, Bool.not_true, Bool.not_false, Bool.true_and, Bool.and_true, Bool.false_and, Bool.and_false, Bool.or_true, Bool.true_or, Bool.or_false, Bool.false_or, Bool.false_eq_true, Bool.true_eq_false, int_n, bool_n, list_n, Sc.str_s, Int.reduceEq, Int.reduceLT, Int.reduceLE, Int.reduceNe, decide_true, decide_false, decide_not, eq_self, Classical.not_not, List.getElem?_cons_zero, List.getElem?_cons_succ, beq_self_eq_true, bne_self_eq_false]
      by_cases c2 : hi < xs[j]
      · have c2' : ¬ xs[j] ≤ hi := by omega
        simp only [k1, hi', c1, c2, c2', n0, Int.natCast_nonneg, bne_iff_ne, beq_iff_eq, ne_eq, decide_eq_true_eq, Bool.and_eq_true, Bool.or_eq_true, Bool.not_eq_true', decide_eq_false_iff_not, beq_eq_false_iff_ne, bne_eq_false_iff_eq, not_true_eq_false, not_false_eq_true, if_true, if_false, reduceIte, and_true, true_and, and_false, false_and, or_false, false_or, or_true, true_or, List.getD_cons_zero, List.getD_cons_succ, List.length_cons, List.length_nil, List.cons_append, List.nil_append, Nat.reduceAdd, Nat.reduceEqDiff, reduceCtorEq, Bool.not_true, Bool.not_false, Bool.true_and, Bool.and_true, Bool.false_and, Bool.and_false, Bool.or_true, Bool.true_or, Bool.or_false, Bool.false_or, Bool.false_eq_true, Bool.true_eq_false, int_n, bool_n, list_n, Sc.str_s, Int.reduceEq, Int.reduceLT, Int.reduceLE, Int.reduceNe, decide_true, decide_false, decide_not, eq_self, Classical.not_not, List.getElem?_cons_zero, List.getElem?_cons_succ, beq_self_eq_true, bne_self_eq_false]
      have c1' : lo ≤ xs[j] := by omega
      have c2' : xs[j] ≤ hi := by omega
      simp only [k1, hi', c1, c2, c1', c2', hw, hr, Int.natCast_nonneg, bne_iff_ne, beq_iff_eq, ne_eq, decide_eq_true_eq, Bool.and_eq_true, Bool.or_eq_true, Bool.not_eq_true', decide_eq_false_iff_not, beq_eq_false_iff_ne, bne_eq_false_iff_eq, not_true_eq_false, not_false_eq_true, if_true, if_false, reduceIte, and_true, true_and, and_false, false_and, or_false, false_or, or_true, true_or, List.getD_cons_zero, List.getD_cons_succ, List.length_cons, List.length_nil, List.cons_append, List.nil_append, Nat.reduceAdd, Nat.reduceEqDiff, reduceCtorEq, Bool.not_true, Bool.not_false, Bool.true_and, Bool.and_true, Bool.false_and, Bool.and_false, Bool.or_true, Bool.true_or, Bool.or_false, Bool.false_or, Bool.false_eq_true, Bool.true_eq_false, int_n, bool_n, list_n, Sc.str_s, Int.reduceEq, Int.reduceLT, Int.reduceLE, Int.reduceNe, decide_true, decide_false, decide_not, eq_self, Classical.not_not, List.getElem?_cons_zero, List.getElem?_cons_succ, beq_self_eq_true, bne_self_eq_false]
    · have k1 : ¬ (j : Int) < xs.length := by omega
      have e : inR lo hi (xs.drop j) = true := by rw [List.drop_eq_nil_of_le (by omega)]; rfl
      simp only [k1, e, Int.natCast_nonneg, bne_iff_ne, beq_iff_eq, ne_eq, decide_eq_true_eq, Bool.and_eq_true, Bool.or_eq_true, Bool.not_eq_true', decide_eq_false_iff_not, beq_eq_false_iff_ne, bne_eq_false_iff_eq, not_true_eq_false, not_false_eq_true, if_true, if_false, reduceIte, and_true, true_and, and_false, false_and, or_false, false_or, or_true, true_or, List.getD_cons_zero, List.getD_cons_succ, List.length_cons, List.length_nil, List.cons_append, List.nil_append, Nat.reduceAdd, Nat.reduceEqDiff, reduceCtorEq, Bool.not_true, Bool.not_false, Bool.true_and, Bool.and_true, Bool.false_and, Bool.and_false, Bool.or_true, Bool.true_or, Bool.or_false, Bool.false_or, Bool.false_eq_true, Bool.true_eq_false, int_n, bool_n, list_n, Sc.str_s, Int.reduceEq, Int.reduceLT, Int.reduceLE, Int.reduceNe, decide_true, decide_false, decide_not, eq_self, Classical.not_not, List.getElem?_cons_zero, List.getElem?_cons_succ, beq_self_eq_true, bne_self_eq_false]
  · rw [List.drop_zero]
theorem between_F (x lo hi : Int) : k_simulatorref04_between.F [.i x, .i lo, .i hi] = some [.b (decide (lo ≤ x) && decide (x ≤ hi))] := by
  simp only [k_simulatorref04_between_F, tk_simulatorref04_between, Go.Proofs.YtmaocifplceopaaDoor.T.den, Ex.ev, U1.ev, U2.ev, U3.ev, gam, List.map, List.getD_cons_zero, List.getD_cons_succ, List.length, List.cons_append, List.nil_append, if_true, int_n, bool_n, list_n, Sc.str_s, Nat.reduceEqDiff, if_false, List.getElem?_cons_zero, List.getElem?_cons_succ]
  by_cases c : lo ≤ x
  · simp only [c, Int.natCast_nonneg, bne_iff_ne, beq_iff_eq, ne_eq, decide_eq_true_eq, Bool.and_eq_true, Bool.or_eq_true, Bool.not_eq_true', decide_eq_false_iff_not, beq_eq_false_iff_ne, bne_eq_false_iff_eq, not_true_eq_false, not_false_eq_true, if_true, if_false, reduceIte, and_true, true_and, and_false, false_and, or_false, false_or, or_true, true_or, List.getD_cons_zero, List.getD_cons_succ, List.length_cons, List.length_nil, List.cons_append, List.nil_append, Nat.reduceAdd, Nat.reduceEqDiff, reduceCtorEq, Bool.not_true, Bool.not_false, Bool.true_and, Bool.and_true, Bool.false_and, Bool.and_false, Bool.or_true, Bool.true_or, Bool.or_false, Bool.false_or, Bool.false_eq_true, Bool.true_eq_false, int_n, bool_n, list_n, Sc.str_s, Int.reduceEq, Int.reduceLT, Int.reduceLE, Int.reduceNe, decide_true, decide_false, decide_not, eq_self, Classical.not_not, List.getElem?_cons_zero, List.getElem?_cons_succ, beq_self_eq_true, bne_self_eq_false]
  · simp only [c, Int.natCast_nonneg, bne_iff_ne, beq_iff_eq, ne_eq, decide_eq_true_eq, Bool.and_eq_true, Bool.or_eq_true, Bool.not_eq_true', decide_eq_false_iff_not, beq_eq_false_iff_ne, bne_eq_false_iff_eq, not_true_eq_false, not_false_eq_true, if_true, if_false, reduceIte, and_true, true_and, and_false, false_and, or_false, false_or, or_true, true_or, List.getD_cons_zero, List.getD_cons_succ, List.length_cons, List.length_nil, List.cons_append, List.nil_append, Nat.reduceAdd, Nat.reduceEqDiff, reduceCtorEq, Bool.not_true, Bool.not_false, Bool.true_and, Bool.and_true, Bool.false_and, Bool.and_false, Bool.or_true, Bool.true_or, Bool.or_false, Bool.false_or, Bool.false_eq_true, Bool.true_eq_false, int_n, bool_n, list_n, Sc.str_s, Int.reduceEq, Int.reduceLT, Int.reduceLE, Int.reduceNe, decide_true, decide_false, decide_not, eq_self, Classical.not_not, List.getElem?_cons_zero, List.getElem?_cons_succ, beq_self_eq_true, bne_self_eq_false]
def unusedB (op a b n : Int) (v w : Nat) : Bool :=
  if op = 1 then decide (v + w = 0) && (decide (b = 0) && decide (n = 0)) else if op = 2 then decide (v + w = 0) && decide (n = 0) else if op = 5 then decide (v + w = 0) && decide (n = 0) else if op = 4 then decide (v + w = 0) else
  if op = 3 then decide (a = 0) && (decide (b = 0) && decide (n = 0)) else false
theorem funused_F (op a b n : Int) (vs ws : List Int) (hv : vs.length ≤ 4611686018427387904) (hw : ws.length ≤ 4611686018427387903) : k_dist_unused.F [.i op, .i a, .i b, .i n, .l (vs.map .i), .l (ws.map .i)] = some [.b (unusedB op a b n vs.length ws.length)] := by
  have e : IntKind.i64.wrap ((vs.length : Int) + ws.length) = ((vs.length + ws.length : Nat) : Int) := by rw [wrJ (by omega) (by omega)]; omega
  have z : (((vs.length + ws.length : Nat) : Int) = 0) ↔ (vs.length + ws.length = 0) := by omega
  simp only [k_dist_unused_F, tk_dist_unused, List.length_map, e, Go.Proofs.YtmaocifplceopaaDoor.T.den, Ex.ev, U1.ev, U2.ev, U3.ev, gam, List.map, List.getD_cons_zero, List.getD_cons_succ, List.length, List.cons_append, List.nil_append, if_true, int_n, bool_n, list_n, Sc.str_s, Nat.reduceEqDiff, if_false, List.getElem?_cons_zero, List.getElem?_cons_succ]
  unfold unusedB
  generalize vs.length + ws.length = N at *
  by_cases o1 : op = 1
  · subst o1; by_cases h1 : N = 0 <;> by_cases h2 : b = 0 <;> simp [h1, h2, z] <;> rfl
  by_cases o2 : op = 2
  · subst o2; by_cases h1 : N = 0 <;> simp [h1, z] <;> rfl
  by_cases o5 : op = 5
  · subst o5; by_cases h1 : N = 0 <;> simp [h1, z] <;> rfl
  by_cases o4 : op = 4
  · subst o4; by_cases h1 : N = 0 <;> simp [h1, z] <;> rfl
  by_cases o3 : op = 3
  · subst o3; by_cases h1 : a = 0 <;> by_cases h2 : b = 0 <;> simp [h1, h2, z] <;> rfl
  simp [o1, o2, o3, o4, o5]
theorem runused_F (op a b n : Int) (vs ws : List Int) : k_simulatorref04_unused.F [.i op, .i a, .i b, .i n, .l (vs.map .i), .l (ws.map .i)] = some [.b (unusedB op a b n vs.length ws.length)] := by
  simp only [k_simulatorref04_unused_F, tk_simulatorref04_unused, List.length_map, Go.Proofs.YtmaocifplceopaaDoor.T.den, Ex.ev, U1.ev, U2.ev, U3.ev, gam, List.map, List.getD_cons_zero, List.getD_cons_succ, List.length, List.cons_append, List.nil_append, if_true, int_n, bool_n, list_n, Sc.str_s, Nat.reduceEqDiff, if_false, List.getElem?_cons_zero, List.getElem?_cons_succ]
  unfold unusedB
  have zv : ((vs.length : Int) = 0) ↔ vs.length = 0 := by omega
  have zw : ((ws.length : Int) = 0) ↔ ws.length = 0 := by omega
  generalize vs.length = V at *
  generalize ws.length = W at *
  have zs : (V + W = 0) ↔ (V = 0 ∧ W = 0) := by omega
  by_cases o1 : op = 1
  · subst o1; by_cases h1 : V = 0 <;> by_cases h4 : W = 0 <;> by_cases h2 : b = 0 <;> by_cases h3 : n = 0 <;> simp [h1, h2, h3, h4]
  by_cases o2 : op = 2
  · subst o2; by_cases h1 : V = 0 <;> by_cases h4 : W = 0 <;> by_cases h3 : n = 0 <;> simp [h1, h3, h4]
  by_cases o5 : op = 5
  · subst o5; by_cases h1 : V = 0 <;> by_cases h4 : W = 0 <;> by_cases h3 : n = 0 <;> simp [h1, h3, h4]
  by_cases o4 : op = 4
  · subst o4; by_cases h1 : V = 0 <;> by_cases h4 : W = 0 <;> simp [h1, h4]
  by_cases o3 : op = 3
  · subst o3; by_cases h0 : V = 0 <;> by_cases h1 : a = 0 <;> by_cases h2 : b = 0 <;> by_cases h3 : n = 0 <;> simp [h0, h1, h2, h3]
  by_cases h1 : V = 0 <;> simp [h1, o1, o2, o3, o4, o5]
def chkD (op a b n : Int) (vs ws : List Int) : Int :=
  if unusedB op a b n vs.length ws.length = true then
    (if op = 1 then (if 0 ≤ a ∧ a ≤ 1000000000 then 0 else 2)
    else if op = 2 then (if 0 ≤ a ∧ a ≤ b ∧ b ≤ 1000000000 then 0 else 2)
    else if op = 4 then (if (1 ≤ n ∧ n ≤ 20) ∧ 0 ≤ a ∧ a ≤ b ∧ b ≤ 1000000 then 0 else 2)
    else if op = 5 then (if (1 ≤ a ∧ a ≤ 1000) ∧ 1 ≤ b ∧ b ≤ 1000 then 0 else 2)
    else if op = 3 then (if vs.length ≠ ws.length then 8 else if vs.length = 0 then 7 else if 20 < vs.length then 6 else if inR 0 1000000000 vs = true ∧ inR 1 1000 ws = true then 0 else 2)
    else 2)
  else 1
theorem one_F (lo hi x : Int) : k_dist_within.F [.i lo, .i hi, .l [.i x]] = some [.b (decide (lo ≤ x) && decide (x ≤ hi))] := by
  have := within_F lo hi [x] (by simp)
  simp only [List.map_cons, List.map_nil, inR, List.all_cons, List.all_nil, Bool.and_true] at this
  exact this
theorem two_F (lo hi x y : Int) : k_dist_within.F [.i lo, .i hi, .l [.i x, .i y]] = some [.b ((decide (lo ≤ x) && decide (x ≤ hi)) && (decide (lo ≤ y) && decide (y ≤ hi)))] := by
  have := within_F lo hi [x, y] (by simp)
  simp only [List.map_cons, List.map_nil, inR, List.all_cons, List.all_nil, Bool.and_true] at this
  exact this
theorem fcheck_F (op a b n : Int) (vs ws : List Int) (hv : vs.length ≤ 17592186044416) (hw : ws.length ≤ 17592186044416) : k_dist_Check.F [.i op, .i a, .i b, .i n, .l (vs.map .i), .l (ws.map .i)] = some [.i (chkD op a b n vs ws)] := by
  have u := funused_F op a b n vs ws (by omega) (by omega)
  have w1 := within_F 0 1000000000 vs hv
  have w2 := within_F 1 1000 ws hw
  simp only [k_dist_Check_F, tk_dist_Check, k_dist_unused_f, k_dist_within_f, List.length_map, one_F, two_F, u, w1, w2, Go.Proofs.YtmaocifplceopaaDoor.T.den, Ex.ev, U1.ev, U2.ev, U3.ev, gam, List.map, List.getD_cons_zero, List.getD_cons_succ, List.length, List.cons_append, List.nil_append, if_true, int_n, bool_n, list_n, Sc.str_s, Nat.reduceEqDiff, if_false, List.getElem?_cons_zero, List.getElem?_cons_succ]
  unfold chkD
  cases hu : unusedB op a b n vs.length ws.length
  · simp
  by_cases o1 : op = 1
  · subst o1; by_cases h1 : 0 ≤ a <;> by_cases h2 : a ≤ 1000000000 <;> simp [h1, h2]
  by_cases o2 : op = 2
  · subst o2; by_cases h1 : 0 ≤ a <;> by_cases h2 : a ≤ 1000000000 <;> by_cases h3 : 0 ≤ b <;> by_cases h4 : b ≤ 1000000000 <;> by_cases h5 : a ≤ b <;> simp [h1, h2, h3, h4, h5] <;> omega
  by_cases o4 : op = 4
  · subst o4; by_cases h0 : 1 ≤ n <;> by_cases h01 : n ≤ 20 <;> by_cases h1 : 0 ≤ a <;> by_cases h2 : a ≤ 1000000 <;> by_cases h3 : 0 ≤ b <;> by_cases h4 : b ≤ 1000000 <;> by_cases h5 : a ≤ b <;> simp [h0, h01, h1, h2, h3, h4, h5] <;> omega
  by_cases o5 : op = 5
  · subst o5; by_cases h1 : 1 ≤ a <;> by_cases h2 : a ≤ 1000 <;> by_cases h3 : 1 ≤ b <;> by_cases h4 : b ≤ 1000 <;> simp [h1, h2, h3, h4]
  by_cases o3 : op = 3
  · subst o3
    have e1 : ((vs.length : Int) = ws.length) ↔ vs.length = ws.length := by omega
    have e2 : ((vs.length : Int) = 0) ↔ vs.length = 0 := by omega
    have e3 : ((20 : Int) < vs.length) ↔ 20 < vs.length := by omega
    clear u w1 w2 hu
    generalize inR 0 1000000000 vs = p1
    generalize inR 1 1000 ws = p2
    generalize vs.length = V at *
    generalize ws.length = W at *
    by_cases d1 : V = W
    · subst d1
      by_cases d2 : V = 0 <;> by_cases d3 : 20 < V <;> cases p1 <;> cases p2 <;> simp [e2, e3, d2, d3]
    · simp [e1, d1]
  simp [o1, o2, o3, o4, o5]
theorem rtable_F (op a b n : Int) (vs ws : List Int) (hv : vs.length ≤ 17592186044416) (hw : ws.length ≤ 17592186044416) : k_simulatorref04_table.F [.i op, .i a, .i b, .i n, .l (vs.map .i), .l (ws.map .i)] = some [.i (if vs.length ≠ ws.length then 8 else if vs.length = 0 then 7 else if 20 < vs.length then 6 else if inR 0 1000000000 vs = true ∧ inR 1 1000 ws = true then 0 else 2)] := by
  simp only [k_simulatorref04_table_F, tk_simulatorref04_table, k_simulatorref04_between_f, List.length_map, between_F, Go.Proofs.YtmaocifplceopaaDoor.T.den, Ex.ev, U1.ev, U2.ev, U3.ev, gam, List.map, List.getD_cons_zero, List.getD_cons_succ, List.length, List.cons_append, List.nil_append, if_true, int_n, bool_n, list_n, Sc.str_s, Nat.reduceEqDiff, if_false, List.getElem?_cons_zero, List.getElem?_cons_succ]
  have e1 : ((vs.length : Int) = ws.length) ↔ vs.length = ws.length := by omega
  have e2 : ((vs.length : Int) = 0) ↔ vs.length = 0 := by omega
  have e3 : ((20 : Int) < vs.length) ↔ 20 < vs.length := by omega
  by_cases c1 : vs.length = ws.length
  rotate_left
  · simp [e1, c1]
  by_cases c2 : vs.length = 0
  · simp [← c1, c2]
  by_cases c3 : 20 < vs.length
  · simp [← c1, c2, c3, e3]
  have c1' : ((vs.length : Int) = ws.length) := by omega
  have c2' : ¬ ((vs.length : Int) = 0) := by omega
  have c3' : ¬ ((20 : Int) < vs.length) := by omega
  have c1'' : ¬ vs.length ≠ ws.length := by omega
  rw [if_neg c1'', if_neg c2, if_neg c3]
  have c2w : ¬ ((ws.length : Int) = 0) := by omega
  have c3w : ¬ ((20 : Int) < ws.length) := by omega
  simp only [c1', c2w, c3w, Int.natCast_nonneg, bne_iff_ne, beq_iff_eq, ne_eq, decide_eq_true_eq, Bool.and_eq_true, Bool.or_eq_true, Bool.not_eq_true', decide_eq_false_iff_not, beq_eq_false_iff_ne, bne_eq_false_iff_eq, not_true_eq_false, not_false_eq_true, if_true, if_false, reduceIte, and_true, true_and, and_false, false_and, or_false, false_or, or_true, true_or, List.getD_cons_zero, List.getD_cons_succ, List.length_cons, List.length_nil, List.cons_append, List.nil_append, Nat.reduceAdd, Nat.reduceEqDiff, reduceCtorEq, Bool.not_true, Bool.not_false, Bool.true_and, Bool.and_true, Bool.false_and, Bool.and_false, Bool.or_true, Bool.true_or, Bool.or_false, Bool.false_or, Bool.false_eq_true, Bool.true_eq_false, int_n, bool_n, list_n, Sc.str_s, Int.reduceEq, Int.reduceLT, Int.reduceLE, Int.reduceNe, decide_true, decide_false, decide_not, eq_self, Classical.not_not, List.getElem?_cons_zero, List.getElem?_cons_succ, beq_self_eq_true, bne_self_eq_false]
  refine (loop_rounds (S := Nat) (fun j => [.i (j : Int)]) (fun j => some [.i (if inR 0 1000000000 (vs.drop j) = true ∧ inR 1 1000 (ws.drop j) = true then 0 else 2)]) (fun j => j ≤ vs.length) (fun j => vs.length - j) ?_ 0 (by omega) (by omega)).trans ?_
  · intro j rec hj hrec
    by_cases hlt : j < vs.length
    · have k1 : (j : Int) < vs.length := by omega
      have k2 : (j : Int) < ws.length := by omega
      have hlt2 : j < ws.length := by omega
      have h1 := idx_map Sc.i vs j hlt
      have h2 := idx_map Sc.i ws j hlt2
      have hw := succ_w (n := vs.length) hlt (by omega)
      have hr := hrec (j + 1) (by omega) (by omega)
      have e : inR 0 1000000000 (vs.drop j) = ((decide (0 ≤ vs[j]) && decide (vs[j] ≤ 1000000000)) && inR 0 1000000000 (vs.drop (j + 1))) := by rw [List.drop_eq_getElem_cons hlt]; rfl
      have e' : inR 1 1000 (ws.drop j) = ((decide (1 ≤ ws[j]) && decide (ws[j] ≤ 1000)) && inR 1 1000 (ws.drop (j + 1))) := by rw [List.drop_eq_getElem_cons hlt2]; rfl
      rw [e, e']
      generalize vs[j] = x at *
      generalize ws[j] = y at *
      cases ex : (decide (0 ≤ x) && decide (x ≤ 1000000000))
      · simp only [k2, h1, between_F, ex, Int.natCast_nonneg, bne_iff_ne, beq_iff_eq, ne_eq, decide_eq_true_eq, Bool.and_eq_true, Bool.or_eq_true, Bool.not_eq_true', decide_eq_false_iff_not, beq_eq_false_iff_ne, bne_eq_false_iff_eq, not_true_eq_false, not_false_eq_true, if_true, if_false, reduceIte, and_true, true_and, and_false, false_and, or_false, false_or, or_true, true_or, List.getD_cons_zero, List.getD_cons_succ, List.length_cons, List.length_nil, List.cons_append, List.nil_append, Nat.reduceAdd, Nat.reduceEqDiff, reduceCtorEq, Bool.not_true, Bool.not_false, Bool.true_and, Bool.and_true, Bool.false_and, Bool.and_false, Bool.or_true, Bool.true_or, Bool.or_false, Bool.false_or, Bool.false_eq_true, Bool.true_eq_false, int_n, bool_n, list_n, Sc.str_s, Int.reduceEq, Int.reduceLT, Int.reduceLE, Int.reduceNe, decide_true, decide_false, decide_not, eq_self, Classical.not_not, List.getElem?_cons_zero, List.getElem?_cons_succ, beq_self_eq_true, bne_self_eq_false]
      cases ey : (decide (1 ≤ y) && decide (y ≤ 1000))
      · simp only [k1, k2, h1, h2, between_F, ex, ey, Int.natCast_nonneg, bne_iff_ne, beq_iff_eq, ne_eq, decide_eq_true_eq, Bool.and_eq_true, Bool.or_eq_true, Bool.not_eq_true', decide_eq_false_iff_not, beq_eq_false_iff_ne, bne_eq_false_iff_eq, not_true_eq_false, not_false_eq_true, if_true, if_false, reduceIte, and_true, true_and, and_false, false_and, or_false, false_or, or_true, true_or, List.getD_cons_zero, List.getD_cons_succ, List.length_cons, List.length_nil, List.cons_append, List.nil_append, Nat.reduceAdd, Nat.reduceEqDiff, reduceCtorEq, Bool.not_true, Bool.not_false, Bool.true_and, Bool.and_true, Bool.false_and, Bool.and_false, Bool.or_true, Bool.true_or, Bool.or_false, Bool.false_or, Bool.false_eq_true, Bool.true_eq_false, int_n, bool_n, list_n, Sc.str_s, Int.reduceEq, Int.reduceLT, Int.reduceLE, Int.reduceNe, decide_true, decide_false, decide_not, eq_self, Classical.not_not, List.getElem?_cons_zero, List.getElem?_cons_succ, beq_self_eq_true, bne_self_eq_false]
      simp only [k1, k2, h1, h2, between_F, ex, ey, hw, hr, Int.natCast_nonneg, bne_iff_ne, beq_iff_eq, ne_eq, decide_eq_true_eq, Bool.and_eq_true, Bool.or_eq_true, Bool.not_eq_true', decide_eq_false_iff_not, beq_eq_false_iff_ne, bne_eq_false_iff_eq, not_true_eq_false, not_false_eq_true, if_true, if_false, reduceIte, and_true, true_and, and_false, false_and, or_false, false_or, or_true, true_or, List.getD_cons_zero, List.getD_cons_succ, List.length_cons, List.length_nil, List.cons_append, List.nil_append, Nat.reduceAdd, Nat.reduceEqDiff, reduceCtorEq, Bool.not_true, Bool.not_false, Bool.true_and, Bool.and_true, Bool.false_and, Bool.and_false, Bool.or_true, Bool.true_or, Bool.or_false, Bool.false_or, Bool.false_eq_true, Bool.true_eq_false, int_n, bool_n, list_n, Sc.str_s, Int.reduceEq, Int.reduceLT, Int.reduceLE, Int.reduceNe, decide_true, decide_false, decide_not, eq_self, Classical.not_not, List.getElem?_cons_zero, List.getElem?_cons_succ, beq_self_eq_true, bne_self_eq_false]
    · have k1 : ¬ (j : Int) < vs.length := by omega
      have e : inR 0 1000000000 (vs.drop j) = true := by rw [List.drop_eq_nil_of_le (by omega)]; rfl
      have e' : inR 1 1000 (ws.drop j) = true := by rw [List.drop_eq_nil_of_le (by omega)]; rfl
      have k2 : ¬ (j : Int) < ws.length := by omega
      simp only [k2, e, e', Int.natCast_nonneg, bne_iff_ne, beq_iff_eq, ne_eq, decide_eq_true_eq, Bool.and_eq_true, Bool.or_eq_true, Bool.not_eq_true', decide_eq_false_iff_not, beq_eq_false_iff_ne, bne_eq_false_iff_eq, not_true_eq_false, not_false_eq_true, if_true, if_false, reduceIte, and_true, true_and, and_false, false_and, or_false, false_or, or_true, true_or, List.getD_cons_zero, List.getD_cons_succ, List.length_cons, List.length_nil, List.cons_append, List.nil_append, Nat.reduceAdd, Nat.reduceEqDiff, reduceCtorEq, Bool.not_true, Bool.not_false, Bool.true_and, Bool.and_true, Bool.false_and, Bool.and_false, Bool.or_true, Bool.true_or, Bool.or_false, Bool.false_or, Bool.false_eq_true, Bool.true_eq_false, int_n, bool_n, list_n, Sc.str_s, Int.reduceEq, Int.reduceLT, Int.reduceLE, Int.reduceNe, decide_true, decide_false, decide_not, eq_self, Classical.not_not, List.getElem?_cons_zero, List.getElem?_cons_succ, beq_self_eq_true, bne_self_eq_false]
  · rw [List.drop_zero, List.drop_zero]
theorem rcheck_F (op a b n : Int) (vs ws : List Int) (hv : vs.length ≤ 17592186044416) (hw : ws.length ≤ 17592186044416) : k_simulatorref04_Check.F [.i op, .i a, .i b, .i n, .l (vs.map .i), .l (ws.map .i)] = some [.i (chkD op a b n vs ws)] := by
  have u := runused_F op a b n vs ws
  have t := rtable_F op a b n vs ws hv hw
  simp only [k_simulatorref04_Check_F, tk_simulatorref04_Check, k_simulatorref04_unused_f, k_simulatorref04_between_f, k_simulatorref04_table_f, List.length_map, between_F, u, t, Go.Proofs.YtmaocifplceopaaDoor.T.den, Ex.ev, U1.ev, U2.ev, U3.ev, gam, List.map, List.getD_cons_zero, List.getD_cons_succ, List.length, List.cons_append, List.nil_append, if_true, int_n, bool_n, list_n, Sc.str_s, Nat.reduceEqDiff, if_false, List.getElem?_cons_zero, List.getElem?_cons_succ]
  unfold chkD
  cases hu : unusedB op a b n vs.length ws.length
  · simp
  by_cases o1 : op = 1
  · subst o1; by_cases h1 : 0 ≤ a <;> by_cases h2 : a ≤ 1000000000 <;> simp [h1, h2]
  by_cases o2 : op = 2
  · subst o2; by_cases h1 : 0 ≤ a <;> by_cases h4 : b ≤ 1000000000 <;> by_cases h5 : a ≤ b <;> simp [h1, h4, h5]
  by_cases o3 : op = 3
  · subst o3; simp
  by_cases o4 : op = 4
  · subst o4; by_cases h0 : 1 ≤ n <;> by_cases h01 : n ≤ 20 <;> by_cases h1 : 0 ≤ a <;> by_cases h4 : b ≤ 1000000 <;> by_cases h5 : a ≤ b <;> simp [h0, h01, h1, h4, h5]
  by_cases o5 : op = 5
  · subst o5; by_cases h1 : 1 ≤ a <;> by_cases h2 : a ≤ 1000 <;> by_cases h3 : 1 ≤ b <;> by_cases h4 : b ≤ 1000 <;> simp [h1, h2, h3, h4]
  have hf : unusedB op a b n vs.length ws.length = false := by unfold unusedB; simp [o1, o2, o3, o4, o5]
  rw [hu] at hf; cases hf
end Go.Proofs.YtmaocifplceopaaDoor
