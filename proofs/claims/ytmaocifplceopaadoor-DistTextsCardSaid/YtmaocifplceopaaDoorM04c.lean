/-
  Equal distributions. 
-/
import Derived.Test.YtmaocifplceopaaDoorM04b
namespace Go.Proofs.YtmaocifplceopaaDoor
set_option linter.unusedSimpArgs false
set_option linter.unusedVariables false

theorem equal_F (xs ys : List Int) (hx : xs.length ≤ 17592186044416) : k_slices_Equal___int_int_.F [.l (xs.map .i), .l (ys.map .i)] = some [.b (decide (xs = ys))] := by
  simp only [k_slices_Equal___int_int__F, tk_slices_Equal___int_int_, List.length_map, Go.Proofs.YtmaocifplceopaaDoor.T.den, Ex.ev, U1.ev, U2.ev, U3.ev, gam, List.map, List.getD_cons_zero, List.getD_cons_succ, List.length, List.cons_append, List.nil_append, if_true, int_n, bool_n, list_n, Sc.str_s, Nat.reduceEqDiff, if_false, List.getElem?_cons_zero, List.getElem?_cons_succ]
  by_cases hl : xs.length = ys.length
  rotate_left
  · have hl' : ¬ (xs.length : Int) = ys.length := by omega
    have hn : ¬ xs = ys := fun e => hl (by rw [e])
    simp only [hl', hn, Int.natCast_nonneg, bne_iff_ne, beq_iff_eq, ne_eq, decide_eq_true_eq, Bool.and_eq_true, Bool.or_eq_true, Bool.not_eq_true', decide_eq_false_iff_not, beq_eq_false_iff_ne, bne_eq_false_iff_eq, not_true_eq_false, not_false_eq_true, if_true, if_false, reduceIte, and_true, true_and, and_false, false_and, or_false, false_or, or_true, true_or, List.getD_cons_zero, List.getD_cons_succ, List.length_cons, List.length_nil, List.cons_append, List.nil_append, Nat.reduceAdd, Nat.reduceEqDiff, reduceCtorEq, Bool.not_true, Bool.not_false, Bool.true_and, Bool.and_true, Bool.false_and, Bool.and_false, Bool.or_true, Bool.true_or, Bool.or_false, Bool.false_or, Bool.false_eq_true, Bool.true_eq_false, int_n, bool_n, list_n, Sc.str_s, Int.reduceEq, Int.reduceLT, Int.reduceLE, Int.reduceNe, decide_true, decide_false, decide_not, eq_self, Classical.not_not, List.getElem?_cons_zero, List.getElem?_cons_succ, beq_self_eq_true, bne_self_eq_false]
  have hl' : (xs.length : Int) = ys.length := by omega
  have kl : (ys.length : Int) = xs.length := by omega
  simp only [kl, Int.natCast_nonneg, bne_iff_ne, beq_iff_eq, ne_eq, decide_eq_true_eq, Bool.and_eq_true, Bool.or_eq_true, Bool.not_eq_true', decide_eq_false_iff_not, beq_eq_false_iff_ne, bne_eq_false_iff_eq, not_true_eq_false, not_false_eq_true, if_true, if_false, reduceIte, and_true, true_and, and_false, false_and, or_false, false_or, or_true, true_or, List.getD_cons_zero, List.getD_cons_succ, List.length_cons, List.length_nil, List.cons_append, List.nil_append, Nat.reduceAdd, Nat.reduceEqDiff, reduceCtorEq, Bool.not_true, Bool.not_false, Bool.true_and, Bool.and_true, Bool.false_and, Bool.and_false, Bool.or_true, Bool.true_or, Bool.or_false, Bool.false_or, Bool.false_eq_true, Bool.true_eq_false, int_n, bool_n, list_n, Sc.str_s, Int.reduceEq, Int.reduceLT, Int.reduceLE, Int.reduceNe, decide_true, decide_false, decide_not, eq_self, Classical.not_not, List.getElem?_cons_zero, List.getElem?_cons_succ, beq_self_eq_true, bne_self_eq_false]
  refine loop_from (S := Nat) (fun j => [.i (j : Int)]) (fun j => some [.b (decide (xs.drop j = ys.drop j))]) (fun j => j ≤ xs.length) (fun j => xs.length - j) 0 rfl (by rw [List.drop_zero, List.drop_zero]) (by omega) (by omega) ?_
  intro j rec hj hrec
  by_cases hlt : j < xs.length
  · have k1 : (j : Int) < xs.length := by omega
    have h1 := idx_map Sc.i xs j hlt
    have h2 := idx_map Sc.i ys j (by omega)
    have hw := succ_w (n := xs.length) hlt (by omega)
    have hr := hrec (j + 1) (by omega) (by omega)
    rw [List.drop_eq_getElem_cons hlt, List.drop_eq_getElem_cons (show j < ys.length by omega)]
    generalize xs[j] = x at *
    generalize ys[j] = y at *
    generalize xs.drop (j + 1) = xr at *
    generalize ys.drop (j + 1) = yr at *
    by_cases c : x = y
    · subst c
      have e : decide (x :: xr = x :: yr) = decide (xr = yr) := by simp
      rw [e]
      simp only [k1, h1, h2, hw, hr, Int.natCast_nonneg, bne_iff_ne, beq_iff_eq, ne_eq, decide_eq_true_eq, Bool.and_eq_true, Bool.or_eq_true, Bool.not_eq_true', decide_eq_false_iff_not, beq_eq_false_iff_ne, bne_eq_false_iff_eq, not_true_eq_false, not_false_eq_true, if_true, if_false, reduceIte, and_true, true_and, and_false, false_and, or_false, false_or, or_true, true_or, List.getD_cons_zero, List.getD_cons_succ, List.length_cons, List.length_nil, List.cons_append, List.nil_append, Nat.reduceAdd, Nat.reduceEqDiff, reduceCtorEq, Bool.not_true, Bool.not_false, Bool.true_and, Bool.and_true, Bool.false_and, Bool.and_false, Bool.or_true, Bool.true_or, Bool.or_false, Bool.false_or, Bool.false_eq_true, Bool.true_eq_false, int_n, bool_n, list_n, Sc.str_s, Int.reduceEq, Int.reduceLT, Int.reduceLE, Int.reduceNe, decide_true, decide_false, decide_not, eq_self, Classical.not_not, List.getElem?_cons_zero, List.getElem?_cons_succ, beq_self_eq_true, bne_self_eq_false]
    · have e : decide (x :: xr = y :: yr) = false := by simp [c]
      rw [e]
      simp only [k1, h1, h2, c, Int.natCast_nonneg, bne_iff_ne, beq_iff_eq, ne_eq, decide_eq_true_eq, Bool.and_eq_true, Bool.or_eq_true, Bool.not_eq_true', decide_eq_false_iff_not, beq_eq_false_iff_ne, bne_eq_false_iff_eq, not_true_eq_false, not_false_eq_true, if_true, if_false, reduceIte, and_true, true_and, and_false, false_and, or_false, false_or, or_true, true_or, List.getD_cons_zero, List.getD_cons_succ, List.length_cons, List.length_nil, List.cons_append, List.nil_append, Nat.reduceAdd, Nat.reduceEqDiff, reduceCtorEq, Bool.not_true, Bool.not_false, Bool.true_and, Bool.and_true, Bool.false_and, Bool.and_false, Bool.or_true, Bool.true_or, Bool.or_false, Bool.false_or, Bool.false_eq_true, Bool.true_eq_false, int_n, bool_n, list_n, Sc.str_s, Int.reduceEq, Int.reduceLT, Int.reduceLE, Int.reduceNe, decide_true, decide_false, decide_not, eq_self, Classical.not_not, List.getElem?_cons_zero, List.getElem?_cons_succ, beq_self_eq_true, bne_self_eq_false]
  · have k1 : ¬ (j : Int) < xs.length := by omega
    have e : decide (xs.drop j = ys.drop j) = true := by rw [List.drop_eq_nil_of_le (by omega), List.drop_eq_nil_of_le (by omega)]; rfl
    rw [e]
    simp only [k1, Int.natCast_nonneg, bne_iff_ne, beq_iff_eq, ne_eq, decide_eq_true_eq, Bool.and_eq_true, Bool.or_eq_true, Bool.not_eq_true', decide_eq_false_iff_not, beq_eq_false_iff_ne, bne_eq_false_iff_eq, not_true_eq_false, not_false_eq_true, if_true, if_false, reduceIte, and_true, true_and, and_false, false_and, or_false, false_or, or_true, true_or, List.getD_cons_zero, List.getD_cons_succ, List.length_cons, List.length_nil, List.cons_append, List.nil_append, Nat.reduceAdd, Nat.reduceEqDiff, reduceCtorEq, Bool.not_true, Bool.not_false, Bool.true_and, Bool.and_true, Bool.false_and, Bool.and_false, Bool.or_true, Bool.true_or, Bool.or_false, Bool.false_or, Bool.false_eq_true, Bool.true_eq_false, int_n, bool_n, list_n, Sc.str_s, Int.reduceEq, Int.reduceLT, Int.reduceLE, Int.reduceNe, decide_true, decide_false, decide_not, eq_self, Classical.not_not, List.getElem?_cons_zero, List.getElem?_cons_succ, beq_self_eq_true, bne_self_eq_false]
/-- A distribution. -/
structure DD where
  op : Int
  a : Int
  b : Int
  n : Int
  vs : List Int
  ws : List Int
def DD.chk (d : DD) : Int := chkD d.op d.a d.b d.n d.vs d.ws
def DD.small (d : DD) : Prop := d.vs.length ≤ 17592186044416 ∧ d.ws.length ≤ 17592186044416
def DD.zero (d : DD) : Bool := decide (d.op = 0) && (decide (d.a = 0) && (decide (d.b = 0) && (decide (d.n = 0) && (decide (d.vs = []) && decide (d.ws = [])))))
theorem same_F (d e : DD) (hd : d.small) : k_dist_Same.F [.i d.op, .i d.a, .i d.b, .i d.n, .l (d.vs.map .i), .l (d.ws.map .i), .i e.op, .i e.a, .i e.b, .i e.n, .l (e.vs.map .i), .l (e.ws.map .i)] = some [.b (decide (d.op = e.op) && (decide (d.a = e.a) && (decide (d.b = e.b) && (decide (d.n = e.n) && (decide (d.vs = e.vs) && decide (d.ws = e.ws))))))] := by
  have q1 := equal_F d.vs e.vs hd.1
  have q2 := equal_F d.ws e.ws hd.2
  simp only [k_dist_Same_F, tk_dist_Same, k_slices_Equal___int_int__f, q1, q2, Go.Proofs.YtmaocifplceopaaDoor.T.den, Ex.ev, U1.ev, U2.ev, U3.ev, gam, List.map, List.getD_cons_zero, List.getD_cons_succ, List.length, List.cons_append, List.nil_append, if_true, int_n, bool_n, list_n, Sc.str_s, Nat.reduceEqDiff, if_false, List.getElem?_cons_zero, List.getElem?_cons_succ]
  by_cases h1 : d.op = e.op <;> by_cases h2 : d.a = e.a <;> by_cases h3 : d.b = e.b <;> by_cases h4 : d.n = e.n <;> by_cases h5 : d.vs = e.vs <;> simp [h1, h2, h3, h4, h5]
theorem rsameInts_F (xs ys : List Int) (hx : xs.length ≤ 17592186044416) : k_simulatorref04_sameInts.F [.l (xs.map .i), .l (ys.map .i)] = some [.b (decide (xs = ys))] := by
  have e := equal_F xs ys hx
  rw [k_slices_Equal___int_int__F] at e
  rw [k_simulatorref04_sameInts_F]
  exact e
theorem rsame_F (d e : DD) (hd : d.small) : k_simulatorref04_Same.F [.i d.op, .i d.a, .i d.b, .i d.n, .l (d.vs.map .i), .l (d.ws.map .i), .i e.op, .i e.a, .i e.b, .i e.n, .l (e.vs.map .i), .l (e.ws.map .i)] = some [.b (decide (d.op = e.op) && (decide (d.a = e.a) && (decide (d.b = e.b) && (decide (d.n = e.n) && (decide (d.vs = e.vs) && decide (d.ws = e.ws))))))] := by
  have q1 := rsameInts_F d.vs e.vs hd.1
  have q2 := rsameInts_F d.ws e.ws hd.2
  simp only [k_simulatorref04_Same_F, tk_simulatorref04_Same, k_simulatorref04_sameInts_f, q1, q2, Go.Proofs.YtmaocifplceopaaDoor.T.den, Ex.ev, U1.ev, U2.ev, U3.ev, gam, List.map, List.getD_cons_zero, List.getD_cons_succ, List.length, List.cons_append, List.nil_append, if_true, int_n, bool_n, list_n, Sc.str_s, Nat.reduceEqDiff, if_false, List.getElem?_cons_zero, List.getElem?_cons_succ]
  by_cases h1 : d.op = e.op <;> by_cases h2 : d.a = e.a <;> by_cases h3 : d.b = e.b <;> by_cases h4 : d.n = e.n <;> by_cases h5 : d.vs = e.vs <;> simp [h1, h2, h3, h4, h5]
/-- A value, a stream, an error. -/
structure NT where
  x : Int
  k : Int
  p : Int
  m : Bool
  e : Int
def NT.bad (e : Int) : NT := ⟨0, 0, 0, false, e⟩
def NT.l (t : NT) : List Sc := [.i t.x, .i t.k, .i t.p, .b t.m, .i t.e]
noncomputable def drawT (d : DD) (k p : Int) (m : Bool) : NT :=
  if d.chk ≠ 0 then .bad d.chk else if scheck p ≠ 0 then .bad (scheck p) else
  if d.op = 4 then (if 1000000000000 - d.n < p then .bad 2 else ⟨drwS d.a d.b k p m d.n.toNat, k, p + d.n, m, 0⟩)
  else if 999999999999 < p then .bad 2 else ⟨(atV d.op d.a d.b d.n d.vs d.ws (numN k (p + 1) m)).1, k, p + 1, m, 0⟩
theorem drawT_l (d : DD) (k p : Int) (m : Bool) : drawV d.op d.a d.b d.n d.vs d.ws k p m = (drawT d k p m).l := by
  unfold drawV drawT DD.chk
  repeat (split; rfl)
  split
  · split <;> rfl
  · split <;> rfl
theorem drawT_in (d : DD) (k p : Int) (m : Bool) : 0 ≤ (drawT d k p m).x ∧ (drawT d k p m).x ≤ 1000000000 := by
  unfold drawT
  split
  · simp only [NT.bad]; omega
  rename_i h0
  have h0 : d.chk = 0 := Classical.not_not.1 h0
  split
  · simp only [NT.bad]; omega
  split
  · rename_i h4
    split
    · simp only [NT.bad]; omega
    · unfold DD.chk at h0
      rw [h4] at h0
      obtain ⟨hn, hab⟩ := chk4 h0
      have := drwS_in hab.1 hab.2.1 k p m d.n.toNat
      have hb2 : ((d.n.toNat : Nat) : Int) * d.b ≤ 20 * 1000000 := Int.mul_le_mul (by omega) (by omega) (by omega) (by omega)
      have hb1 : (0 : Int) ≤ ((d.n.toNat : Nat) : Int) * d.a := Int.mul_nonneg (by omega) (by omega)
      simp only; omega
  split
  · simp only [NT.bad]; omega
  · exact atV_in _ _ _ _ _ _ _ (numN_lt ..)
theorem fdraw_F (d : DD) (k p : Int) (m : Bool) (hd : d.small) : k_dist_Draw.F [.i d.op, .i d.a, .i d.b, .i d.n, .l (d.vs.map .i), .l (d.ws.map .i), .i k, .i p, .b m] = some (drawT d k p m).l := by
  rw [← drawT_l]; exact draw_F _ _ _ _ _ _ _ _ _ hd.1 hd.2
theorem rfdraw_F (d : DD) (k p : Int) (m : Bool) (hd : d.small) : k_simulatorref04_Draw.F [.i d.op, .i d.a, .i d.b, .i d.n, .l (d.vs.map .i), .l (d.ws.map .i), .i k, .i p, .b m] = some (drawT d k p m).l := by
  rw [← drawT_l]; exact rdraw_F _ _ _ _ _ _ _ _ _ hd.1 hd.2
end Go.Proofs.YtmaocifplceopaaDoor
