/-
  At and Draw, both ways. 
-/
import Derived.Test.YtmaocifplceopaaDoorM04z
import Derived.Test.YtmaocifplceopaaDoorM04v
namespace Go.Proofs.YtmaocifplceopaaDoor
set_option linter.unusedSimpArgs false
set_option linter.unusedVariables false

def uniV (a b : Int) (u : Nat) : Int := a + hiW (u * (b - a + 1).toNat)
theorem uniV_in {a b : Int} {u : Nat} (h : a ≤ b) (hu : u < 18446744073709551616) : a ≤ uniV a b u ∧ uniV a b u ≤ b := by
  unfold uniV
  have h1 := hi_nonneg (u * (b - a + 1).toNat)
  have h2 : u * (b - a + 1).toNat / 18446744073709551616 < (b - a + 1).toNat := by
    rw [Nat.div_lt_iff_lt_mul (by omega), Nat.mul_comm u]
    exact Nat.mul_lt_mul_of_pos_left hu (by omega)
  have h3 : hiW (u * (b - a + 1).toNat) < (b - a + 1).toNat := by unfold hiW; omega
  omega
theorem uniform_F (a b : Int) (u : Nat) (ha : 0 ≤ a) (hab : a ≤ b) (hb : b ≤ 1000000000) (hu : u < 18446744073709551616) : k_simulatorref04_uniform.F [.i a, .i b, .i u] = some [.i (uniV a b u)] := by
  have h := uniV_in hab hu
  have e1 : IntKind.i64.wrap (b - a) = b - a := wrJ (by omega) (by omega)
  have e2 : IntKind.i64.wrap (b - a + 1) = ((b - a + 1).toNat : Int) := by rw [wrJ (by omega) (by omega)]; omega
  have e3 : IntKind.u64.wrap ((b - a + 1).toNat : Int) = ((b - a + 1).toNat : Int) := by rw [IntKind.wrap_u64]; omega
  have U := rupper_F u (b - a + 1).toNat hu (by omega)
  unfold uniV at h ⊢
  have e4 : IntKind.i64.wrap (hiW (u * (b - a + 1).toNat)) = hiW (u * (b - a + 1).toNat) := wrJ (by omega) (by omega)
  have e5 : IntKind.i64.wrap (a + hiW (u * (b - a + 1).toNat)) = a + hiW (u * (b - a + 1).toNat) := wrJ (by omega) (by omega)
  simp only [k_simulatorref04_uniform_F, tk_simulatorref04_uniform, k_simulatorref04_Upper_f, e1, e2, e3, e4, e5, U, Go.Proofs.YtmaocifplceopaaDoor.T.den, Ex.ev, U1.ev, U2.ev, U3.ev, gam, List.map, List.getD_cons_zero, List.getD_cons_succ, List.length, List.cons_append, List.nil_append, if_true, int_n, bool_n, list_n, Sc.str_s, Nat.reduceEqDiff, if_false, List.getElem?_cons_zero, List.getElem?_cons_succ]
/-- What At returns. -/
noncomputable def atV (op a b n : Int) (vs ws : List Int) (u : Nat) : Int × Bool :=
  if chkD op a b n vs ws ≠ 0 then (0, false) else
  if op = 1 then (a, true) else if op = 2 then (uniV a b u, true) else if op = 3 then (tabV vs ws u, true) else
  if op = 5 then ((trV (xorU 18446744073709551615 u) a.toNat b.toNat (b.toNat - 1) 18446744073709551615 1 : Nat), true) else (0, false)
theorem chk2 {a b n : Int} {vs ws : List Int} (h : chkD 2 a b n vs ws = 0) : 0 ≤ a ∧ a ≤ b ∧ b ≤ 1000000000 := by
  unfold chkD at h
  simp only [Int.reduceEq, if_true, if_false] at h
  split at h
  · split at h
    · assumption
    · omega
  · omega
theorem chk4 {a b n : Int} {vs ws : List Int} (h : chkD 4 a b n vs ws = 0) : (1 ≤ n ∧ n ≤ 20) ∧ 0 ≤ a ∧ a ≤ b ∧ b ≤ 1000000 := by
  unfold chkD at h
  simp only [Int.reduceEq, if_true, if_false] at h
  split at h
  · split at h
    · assumption
    · omega
  · omega
theorem chk1 {a b n : Int} {vs ws : List Int} (h : chkD 1 a b n vs ws = 0) : 0 ≤ a ∧ a ≤ 1000000000 := by
  unfold chkD at h
  simp only [Int.reduceEq, if_true, if_false] at h
  split at h
  · split at h
    · assumption
    · omega
  · omega
theorem chk5 {a b n : Int} {vs ws : List Int} (h : chkD 5 a b n vs ws = 0) : (1 ≤ a ∧ a ≤ 1000) ∧ 1 ≤ b ∧ b ≤ 1000 := by
  unfold chkD at h
  simp only [Int.reduceEq, if_true, if_false] at h
  split at h
  · split at h
    · assumption
    · omega
  · omega
theorem chk3 {a b n : Int} {vs ws : List Int} (h : chkD 3 a b n vs ws = 0) : vs.length = ws.length ∧ 1 ≤ vs.length ∧ vs.length ≤ 20 ∧ (∀ x ∈ vs, 0 ≤ x ∧ x ≤ 1000000000) ∧ (∀ x ∈ ws, 1 ≤ x ∧ x ≤ 1000) := by
  unfold chkD at h
  simp only [Int.reduceEq, if_true, if_false] at h
  split at h
  · split at h
    · omega
    split at h
    · omega
    split at h
    · omega
    split at h
    · rename_i h1 h2 h3 h4
      exact ⟨by omega, by omega, by omega, inR_mem h4.1, inR_mem h4.2⟩
    · omega
  · omega
theorem chk_op {op a b n : Int} {vs ws : List Int} (h : chkD op a b n vs ws = 0) : op = 1 ∨ op = 2 ∨ op = 3 ∨ op = 4 ∨ op = 5 := by
  unfold chkD at h
  split at h
  · split at h
    · omega
    split at h
    · omega
    split at h
    · omega
    split at h
    · omega
    split at h
    · omega
    · omega
  · omega
theorem at_F (op a b n : Int) (vs ws : List Int) (u : Nat) (hv : vs.length ≤ 17592186044416) (hw : ws.length ≤ 17592186044416) (hu : u < 18446744073709551616) : k_dist_At.F [.i op, .i a, .i b, .i n, .l (vs.map .i), .l (ws.map .i), .i u] = some [.i (atV op a b n vs ws u).1, .b (atV op a b n vs ws u).2] := by
  have C := fcheck_F op a b n vs ws hv hw
  simp only [k_dist_At_F, tk_dist_At, k_dist_Check_f, k_dist_upper_f, k_dist_choose_f, k_dist_trials_f, C, Go.Proofs.YtmaocifplceopaaDoor.T.den, Ex.ev, U1.ev, U2.ev, U3.ev, gam, List.map, List.getD_cons_zero, List.getD_cons_succ, List.length, List.cons_append, List.nil_append, if_true, int_n, bool_n, list_n, Sc.str_s, Nat.reduceEqDiff, if_false, List.getElem?_cons_zero, List.getElem?_cons_succ]
  by_cases h0 : chkD op a b n vs ws = 0
  rotate_left
  · unfold atV; rw [if_pos h0]
    simp only [h0, Int.natCast_nonneg, bne_iff_ne, beq_iff_eq, ne_eq, decide_eq_true_eq, Bool.and_eq_true, Bool.or_eq_true, Bool.not_eq_true', decide_eq_false_iff_not, beq_eq_false_iff_ne, bne_eq_false_iff_eq, not_true_eq_false, not_false_eq_true, if_true, if_false, reduceIte, and_true, true_and, and_false, false_and, or_false, false_or, or_true, true_or, List.getD_cons_zero, List.getD_cons_succ, List.length_cons, List.length_nil, List.cons_append, List.nil_append, Nat.reduceAdd, Nat.reduceEqDiff, reduceCtorEq, Bool.not_true, Bool.not_false, Bool.true_and, Bool.and_true, Bool.false_and, Bool.and_false, Bool.or_true, Bool.true_or, Bool.or_false, Bool.false_or, Bool.false_eq_true, Bool.true_eq_false, int_n, bool_n, list_n, Sc.str_s, Int.reduceEq, Int.reduceLT, Int.reduceLE, Int.reduceNe, decide_true, decide_false, decide_not, eq_self, Classical.not_not, List.getElem?_cons_zero, List.getElem?_cons_succ, beq_self_eq_true, bne_self_eq_false]
  have hA : atV op a b n vs ws u = if op = 1 then (a, true) else if op = 2 then (uniV a b u, true) else if op = 3 then (tabV vs ws u, true) else
    if op = 5 then ((trV (xorU 18446744073709551615 u) a.toNat b.toNat (b.toNat - 1) 18446744073709551615 1 : Nat), true) else (0, false) := by
    unfold atV; rw [if_neg (fun h => h h0)]
  rw [hA]
  rcases chk_op h0 with rfl | rfl | rfl | rfl | rfl
  · simp only [h0, Int.natCast_nonneg, bne_iff_ne, beq_iff_eq, ne_eq, decide_eq_true_eq, Bool.and_eq_true, Bool.or_eq_true, Bool.not_eq_true', decide_eq_false_iff_not, beq_eq_false_iff_ne, bne_eq_false_iff_eq, not_true_eq_false, not_false_eq_true, if_true, if_false, reduceIte, and_true, true_and, and_false, false_and, or_false, false_or, or_true, true_or, List.getD_cons_zero, List.getD_cons_succ, List.length_cons, List.length_nil, List.cons_append, List.nil_append, Nat.reduceAdd, Nat.reduceEqDiff, reduceCtorEq, Bool.not_true, Bool.not_false, Bool.true_and, Bool.and_true, Bool.false_and, Bool.and_false, Bool.or_true, Bool.true_or, Bool.or_false, Bool.false_or, Bool.false_eq_true, Bool.true_eq_false, int_n, bool_n, list_n, Sc.str_s, Int.reduceEq, Int.reduceLT, Int.reduceLE, Int.reduceNe, decide_true, decide_false, decide_not, eq_self, Classical.not_not, List.getElem?_cons_zero, List.getElem?_cons_succ, beq_self_eq_true, bne_self_eq_false]
  · obtain ⟨h1, h2, h3⟩ := chk2 h0
    have e1 : IntKind.i64.wrap (b - a) = b - a := wrJ (by omega) (by omega)
    have e2 : IntKind.i64.wrap (b - a + 1) = ((b - a + 1).toNat : Int) := by rw [wrJ (by omega) (by omega)]; omega
    have U := fupper_F u (b - a + 1).toNat hu (by omega)
    have h := uniV_in h2 hu
    unfold uniV at h ⊢
    have e5 : IntKind.i64.wrap (a + hiW (u * (b - a + 1).toNat)) = a + hiW (u * (b - a + 1).toNat) := wrJ (by omega) (by omega)
    simp only [h0, e1, e2, e5, U, Int.natCast_nonneg, bne_iff_ne, beq_iff_eq, ne_eq, decide_eq_true_eq, Bool.and_eq_true, Bool.or_eq_true, Bool.not_eq_true', decide_eq_false_iff_not, beq_eq_false_iff_ne, bne_eq_false_iff_eq, not_true_eq_false, not_false_eq_true, if_true, if_false, reduceIte, and_true, true_and, and_false, false_and, or_false, false_or, or_true, true_or, List.getD_cons_zero, List.getD_cons_succ, List.length_cons, List.length_nil, List.cons_append, List.nil_append, Nat.reduceAdd, Nat.reduceEqDiff, reduceCtorEq, Bool.not_true, Bool.not_false, Bool.true_and, Bool.and_true, Bool.false_and, Bool.and_false, Bool.or_true, Bool.true_or, Bool.or_false, Bool.false_or, Bool.false_eq_true, Bool.true_eq_false, int_n, bool_n, list_n, Sc.str_s, Int.reduceEq, Int.reduceLT, Int.reduceLE, Int.reduceNe, decide_true, decide_false, decide_not, eq_self, Classical.not_not, List.getElem?_cons_zero, List.getElem?_cons_succ, beq_self_eq_true, bne_self_eq_false]
  · obtain ⟨h1, h2, h3, h4, h5⟩ := chk3 h0
    have c := choose_F 3 a b n vs ws u h1 h2 h3 h5 hu
    simp only [h0, c, Int.natCast_nonneg, bne_iff_ne, beq_iff_eq, ne_eq, decide_eq_true_eq, Bool.and_eq_true, Bool.or_eq_true, Bool.not_eq_true', decide_eq_false_iff_not, beq_eq_false_iff_ne, bne_eq_false_iff_eq, not_true_eq_false, not_false_eq_true, if_true, if_false, reduceIte, and_true, true_and, and_false, false_and, or_false, false_or, or_true, true_or, List.getD_cons_zero, List.getD_cons_succ, List.length_cons, List.length_nil, List.cons_append, List.nil_append, Nat.reduceAdd, Nat.reduceEqDiff, reduceCtorEq, Bool.not_true, Bool.not_false, Bool.true_and, Bool.and_true, Bool.false_and, Bool.and_false, Bool.or_true, Bool.true_or, Bool.or_false, Bool.false_or, Bool.false_eq_true, Bool.true_eq_false, int_n, bool_n, list_n, Sc.str_s, Int.reduceEq, Int.reduceLT, Int.reduceLE, Int.reduceNe, decide_true, decide_false, decide_not, eq_self, Classical.not_not, List.getElem?_cons_zero, List.getElem?_cons_succ, beq_self_eq_true, bne_self_eq_false]
  · simp only [h0, Int.natCast_nonneg, bne_iff_ne, beq_iff_eq, ne_eq, decide_eq_true_eq, Bool.and_eq_true, Bool.or_eq_true, Bool.not_eq_true', decide_eq_false_iff_not, beq_eq_false_iff_ne, bne_eq_false_iff_eq, not_true_eq_false, not_false_eq_true, if_true, if_false, reduceIte, and_true, true_and, and_false, false_and, or_false, false_or, or_true, true_or, List.getD_cons_zero, List.getD_cons_succ, List.length_cons, List.length_nil, List.cons_append, List.nil_append, Nat.reduceAdd, Nat.reduceEqDiff, reduceCtorEq, Bool.not_true, Bool.not_false, Bool.true_and, Bool.and_true, Bool.false_and, Bool.and_false, Bool.or_true, Bool.true_or, Bool.or_false, Bool.false_or, Bool.false_eq_true, Bool.true_eq_false, int_n, bool_n, list_n, Sc.str_s, Int.reduceEq, Int.reduceLT, Int.reduceLE, Int.reduceNe, decide_true, decide_false, decide_not, eq_self, Classical.not_not, List.getElem?_cons_zero, List.getElem?_cons_succ, beq_self_eq_true, bne_self_eq_false]
  · obtain ⟨h1, h2⟩ := chk5 h0
    have t := trials_F 5 n (vs.map .i) (ws.map .i) a.toNat b.toNat u (by omega) (by omega)
    rw [show ((a.toNat : Nat) : Int) = a by omega, show ((b.toNat : Nat) : Int) = b by omega] at t
    simp only [h0, t, Int.natCast_nonneg, bne_iff_ne, beq_iff_eq, ne_eq, decide_eq_true_eq, Bool.and_eq_true, Bool.or_eq_true, Bool.not_eq_true', decide_eq_false_iff_not, beq_eq_false_iff_ne, bne_eq_false_iff_eq, not_true_eq_false, not_false_eq_true, if_true, if_false, reduceIte, and_true, true_and, and_false, false_and, or_false, false_or, or_true, true_or, List.getD_cons_zero, List.getD_cons_succ, List.length_cons, List.length_nil, List.cons_append, List.nil_append, Nat.reduceAdd, Nat.reduceEqDiff, reduceCtorEq, Bool.not_true, Bool.not_false, Bool.true_and, Bool.and_true, Bool.false_and, Bool.and_false, Bool.or_true, Bool.true_or, Bool.or_false, Bool.false_or, Bool.false_eq_true, Bool.true_eq_false, int_n, bool_n, list_n, Sc.str_s, Int.reduceEq, Int.reduceLT, Int.reduceLE, Int.reduceNe, decide_true, decide_false, decide_not, eq_self, Classical.not_not, List.getElem?_cons_zero, List.getElem?_cons_succ, beq_self_eq_true, bne_self_eq_false]
theorem rat_F (op a b n : Int) (vs ws : List Int) (u : Nat) (hv : vs.length ≤ 17592186044416) (hw : ws.length ≤ 17592186044416) (hu : u < 18446744073709551616) : k_simulatorref04_At.F [.i op, .i a, .i b, .i n, .l (vs.map .i), .l (ws.map .i), .i u] = some [.i (atV op a b n vs ws u).1, .b (atV op a b n vs ws u).2] := by
  have C := rcheck_F op a b n vs ws hv hw
  simp only [k_simulatorref04_At_F, tk_simulatorref04_At, k_simulatorref04_Check_f, k_simulatorref04_uniform_f, k_simulatorref04_tabled_f, k_simulatorref04_geometric_f, C, Go.Proofs.YtmaocifplceopaaDoor.T.den, Ex.ev, U1.ev, U2.ev, U3.ev, gam, List.map, List.getD_cons_zero, List.getD_cons_succ, List.length, List.cons_append, List.nil_append, if_true, int_n, bool_n, list_n, Sc.str_s, Nat.reduceEqDiff, if_false, List.getElem?_cons_zero, List.getElem?_cons_succ]
  by_cases h0 : chkD op a b n vs ws = 0
  rotate_left
  · unfold atV; rw [if_pos h0]
    simp only [h0, Int.natCast_nonneg, bne_iff_ne, beq_iff_eq, ne_eq, decide_eq_true_eq, Bool.and_eq_true, Bool.or_eq_true, Bool.not_eq_true', decide_eq_false_iff_not, beq_eq_false_iff_ne, bne_eq_false_iff_eq, not_true_eq_false, not_false_eq_true, if_true, if_false, reduceIte, and_true, true_and, and_false, false_and, or_false, false_or, or_true, true_or, List.getD_cons_zero, List.getD_cons_succ, List.length_cons, List.length_nil, List.cons_append, List.nil_append, Nat.reduceAdd, Nat.reduceEqDiff, reduceCtorEq, Bool.not_true, Bool.not_false, Bool.true_and, Bool.and_true, Bool.false_and, Bool.and_false, Bool.or_true, Bool.true_or, Bool.or_false, Bool.false_or, Bool.false_eq_true, Bool.true_eq_false, int_n, bool_n, list_n, Sc.str_s, Int.reduceEq, Int.reduceLT, Int.reduceLE, Int.reduceNe, decide_true, decide_false, decide_not, eq_self, Classical.not_not, List.getElem?_cons_zero, List.getElem?_cons_succ, beq_self_eq_true, bne_self_eq_false]
  have hA : atV op a b n vs ws u = if op = 1 then (a, true) else if op = 2 then (uniV a b u, true) else if op = 3 then (tabV vs ws u, true) else
    if op = 5 then ((trV (xorU 18446744073709551615 u) a.toNat b.toNat (b.toNat - 1) 18446744073709551615 1 : Nat), true) else (0, false) := by
    unfold atV; rw [if_neg (fun h => h h0)]
  rw [hA]
  rcases chk_op h0 with rfl | rfl | rfl | rfl | rfl
  · simp only [h0, Int.natCast_nonneg, bne_iff_ne, beq_iff_eq, ne_eq, decide_eq_true_eq, Bool.and_eq_true, Bool.or_eq_true, Bool.not_eq_true', decide_eq_false_iff_not, beq_eq_false_iff_ne, bne_eq_false_iff_eq, not_true_eq_false, not_false_eq_true, if_true, if_false, reduceIte, and_true, true_and, and_false, false_and, or_false, false_or, or_true, true_or, List.getD_cons_zero, List.getD_cons_succ, List.length_cons, List.length_nil, List.cons_append, List.nil_append, Nat.reduceAdd, Nat.reduceEqDiff, reduceCtorEq, Bool.not_true, Bool.not_false, Bool.true_and, Bool.and_true, Bool.false_and, Bool.and_false, Bool.or_true, Bool.true_or, Bool.or_false, Bool.false_or, Bool.false_eq_true, Bool.true_eq_false, int_n, bool_n, list_n, Sc.str_s, Int.reduceEq, Int.reduceLT, Int.reduceLE, Int.reduceNe, decide_true, decide_false, decide_not, eq_self, Classical.not_not, List.getElem?_cons_zero, List.getElem?_cons_succ, beq_self_eq_true, bne_self_eq_false]
  · obtain ⟨h1, h2, h3⟩ := chk2 h0
    have U := uniform_F a b u h1 h2 h3 hu
    simp only [h0, U, Int.natCast_nonneg, bne_iff_ne, beq_iff_eq, ne_eq, decide_eq_true_eq, Bool.and_eq_true, Bool.or_eq_true, Bool.not_eq_true', decide_eq_false_iff_not, beq_eq_false_iff_ne, bne_eq_false_iff_eq, not_true_eq_false, not_false_eq_true, if_true, if_false, reduceIte, and_true, true_and, and_false, false_and, or_false, false_or, or_true, true_or, List.getD_cons_zero, List.getD_cons_succ, List.length_cons, List.length_nil, List.cons_append, List.nil_append, Nat.reduceAdd, Nat.reduceEqDiff, reduceCtorEq, Bool.not_true, Bool.not_false, Bool.true_and, Bool.and_true, Bool.false_and, Bool.and_false, Bool.or_true, Bool.true_or, Bool.or_false, Bool.false_or, Bool.false_eq_true, Bool.true_eq_false, int_n, bool_n, list_n, Sc.str_s, Int.reduceEq, Int.reduceLT, Int.reduceLE, Int.reduceNe, decide_true, decide_false, decide_not, eq_self, Classical.not_not, List.getElem?_cons_zero, List.getElem?_cons_succ, beq_self_eq_true, bne_self_eq_false]
  · obtain ⟨h1, h2, h3, h4, h5⟩ := chk3 h0
    have c := tabled_F 3 a b n vs ws u h1 h2 h3 h5 hu
    simp only [h0, c, Int.natCast_nonneg, bne_iff_ne, beq_iff_eq, ne_eq, decide_eq_true_eq, Bool.and_eq_true, Bool.or_eq_true, Bool.not_eq_true', decide_eq_false_iff_not, beq_eq_false_iff_ne, bne_eq_false_iff_eq, not_true_eq_false, not_false_eq_true, if_true, if_false, reduceIte, and_true, true_and, and_false, false_and, or_false, false_or, or_true, true_or, List.getD_cons_zero, List.getD_cons_succ, List.length_cons, List.length_nil, List.cons_append, List.nil_append, Nat.reduceAdd, Nat.reduceEqDiff, reduceCtorEq, Bool.not_true, Bool.not_false, Bool.true_and, Bool.and_true, Bool.false_and, Bool.and_false, Bool.or_true, Bool.true_or, Bool.or_false, Bool.false_or, Bool.false_eq_true, Bool.true_eq_false, int_n, bool_n, list_n, Sc.str_s, Int.reduceEq, Int.reduceLT, Int.reduceLE, Int.reduceNe, decide_true, decide_false, decide_not, eq_self, Classical.not_not, List.getElem?_cons_zero, List.getElem?_cons_succ, beq_self_eq_true, bne_self_eq_false]
  · simp only [h0, Int.natCast_nonneg, bne_iff_ne, beq_iff_eq, ne_eq, decide_eq_true_eq, Bool.and_eq_true, Bool.or_eq_true, Bool.not_eq_true', decide_eq_false_iff_not, beq_eq_false_iff_ne, bne_eq_false_iff_eq, not_true_eq_false, not_false_eq_true, if_true, if_false, reduceIte, and_true, true_and, and_false, false_and, or_false, false_or, or_true, true_or, List.getD_cons_zero, List.getD_cons_succ, List.length_cons, List.length_nil, List.cons_append, List.nil_append, Nat.reduceAdd, Nat.reduceEqDiff, reduceCtorEq, Bool.not_true, Bool.not_false, Bool.true_and, Bool.and_true, Bool.false_and, Bool.and_false, Bool.or_true, Bool.true_or, Bool.or_false, Bool.false_or, Bool.false_eq_true, Bool.true_eq_false, int_n, bool_n, list_n, Sc.str_s, Int.reduceEq, Int.reduceLT, Int.reduceLE, Int.reduceNe, decide_true, decide_false, decide_not, eq_self, Classical.not_not, List.getElem?_cons_zero, List.getElem?_cons_succ, beq_self_eq_true, bne_self_eq_false]
  · obtain ⟨h1, h2⟩ := chk5 h0
    have t := rgeo_F a.toNat b.toNat u (by omega) (by omega)
    rw [show ((a.toNat : Nat) : Int) = a by omega, show ((b.toNat : Nat) : Int) = b by omega] at t
    simp only [h0, t, Int.natCast_nonneg, bne_iff_ne, beq_iff_eq, ne_eq, decide_eq_true_eq, Bool.and_eq_true, Bool.or_eq_true, Bool.not_eq_true', decide_eq_false_iff_not, beq_eq_false_iff_ne, bne_eq_false_iff_eq, not_true_eq_false, not_false_eq_true, if_true, if_false, reduceIte, and_true, true_and, and_false, false_and, or_false, false_or, or_true, true_or, List.getD_cons_zero, List.getD_cons_succ, List.length_cons, List.length_nil, List.cons_append, List.nil_append, Nat.reduceAdd, Nat.reduceEqDiff, reduceCtorEq, Bool.not_true, Bool.not_false, Bool.true_and, Bool.and_true, Bool.false_and, Bool.and_false, Bool.or_true, Bool.true_or, Bool.or_false, Bool.false_or, Bool.false_eq_true, Bool.true_eq_false, int_n, bool_n, list_n, Sc.str_s, Int.reduceEq, Int.reduceLT, Int.reduceLE, Int.reduceNe, decide_true, decide_false, decide_not, eq_self, Classical.not_not, List.getElem?_cons_zero, List.getElem?_cons_succ, beq_self_eq_true, bne_self_eq_false]
end Go.Proofs.YtmaocifplceopaaDoor
