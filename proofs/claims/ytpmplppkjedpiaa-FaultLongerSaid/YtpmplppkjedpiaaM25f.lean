/-
  fault.Check, Next and Course, both ways. 
-/
import Derived.Test.YtpmplppkjedpiaaM25n
namespace Go.Proofs.Ytpmplppkjedpiaa
set_option linter.unusedSimpArgs false
set_option linter.unusedVariables false

theorem equal_F (xs ys : List Int) (hx : xs.length ≤ 17592186044416) : k_slices_Equal___int_int_.F [.l (xs.map .i), .l (ys.map .i)] = some [.b (decide (xs = ys))] := by
  simp only [k_slices_Equal___int_int__F, tk_slices_Equal___int_int_, List.length_map, Go.Proofs.Ytpmplppkjedpiaa.T.den, Ex.ev, U1.ev, U2.ev, U3.ev, gam, List.map, List.getD_cons_zero, List.getD_cons_succ, List.length, List.cons_append, List.nil_append, if_true, int_n, bool_n, list_n, Sc.str_s, Nat.reduceEqDiff, if_false, List.getElem?_cons_zero, List.getElem?_cons_succ]
  by_cases hl : xs.length = ys.length
  rotate_left
  · have hl' : ¬ (xs.length : Int) = ys.length := by omega
    have hn : ¬ xs = ys := fun e => hl (by rw [e])
    simp only [hl', hn, Int.natCast_nonneg, bne_iff_ne, beq_iff_eq, ne_eq, decide_eq_true_eq, Bool.and_eq_true, Bool.or_eq_true, Bool.not_eq_true', decide_eq_false_iff_not, beq_eq_false_iff_ne, bne_eq_false_iff_eq, not_true_eq_false, not_false_eq_true, if_true, if_false, reduceIte, and_true, true_and, and_false, false_and, or_false, false_or, or_true, true_or, List.getD_cons_zero, List.getD_cons_succ, List.length_cons, List.length_nil, List.cons_append, List.nil_append, Nat.reduceAdd, Nat.reduceEqDiff, reduceCtorEq, Bool.not_true, Bool.not_false, Bool.true_and, Bool.and_true, Bool.false_and, Bool.and_false, Bool.or_true, Bool.true_or, Bool.or_false, Bool.false_or, Bool.false_eq_true, Bool.true_eq_false, int_n, bool_n, list_n, Sc.str_s, Int.reduceEq, Int.reduceLT, Int.reduceLE, Int.reduceNe, decide_true, decide_false, decide_not, eq_self, Classical.not_not, List.getElem?_cons_zero, List.getElem?_cons_succ, beq_self_eq_true, bne_self_eq_false]
  have hl' : (xs.length : Int) = ys.length := by omega
  have kl : (ys.length : Int) = xs.length := by omega
  simp only [kl, Int.natCast_nonneg, bne_iff_ne, beq_iff_eq, ne_eq, decide_eq_true_eq, Bool.and_eq_true, Bool.or_eq_true, Bool.not_eq_true', decide_eq_false_iff_not, beq_eq_false_iff_ne, bne_eq_false_iff_eq, not_true_eq_false, not_false_eq_true, if_true, if_false, reduceIte, and_true, true_and, and_false, false_and, or_false, false_or, or_true, true_or, List.getD_cons_zero, List.getD_cons_succ, List.length_cons, List.length_nil, List.cons_append, List.nil_append, Nat.reduceAdd, Nat.reduceEqDiff, reduceCtorEq, Bool.not_true, Bool.not_false, Bool.true_and, Bool.and_true, Bool.false_and, Bool.and_false, Bool.or_true, Bool.true_or, Bool.or_false, Bool.false_or, Bool.false_eq_true, Bool.true_eq_false, int_n, bool_n, list_n, Sc.str_s, Int.reduceEq, Int.reduceLT, Int.reduceLE, Int.reduceNe, decide_true, decide_false, decide_not, eq_self, Classical.not_not, List.getElem?_cons_zero, List.getElem?_cons_succ, beq_self_eq_true, bne_self_eq_false]
  refine loop_from (S := Nat) (fun j => [.i (j : Int)]) (fun j => some [.b (decide (xs.drop j = ys.drop j))]) (fun j => j ≤ xs.length) (fun j => xs.length - j) 0 rfl (by rw [List.drop_zero, List.drop_zero]) (by omega) (by omega) ?_
  intro j rec hj hrec
  by_cases hlt : j < xs.length
  · have k1 : (j : Int) < xs.length := by omega
    have h1 := idx_map Sc.i xs j hlt
    have h2 := idx_map Sc.i ys j (by omega)
    have hw := succ_w (n := xs.length) hlt (by omega)
    have hr := hrec (j + 1) (by omega) (by omega)
    rw [List.drop_eq_getElem_cons hlt, List.drop_eq_getElem_cons (show j < ys.length by omega)]
    generalize xs[j] = x at *
    generalize ys[j] = y at *
    generalize xs.drop (j + 1) = xr at *
    generalize ys.drop (j + 1) = yr at *
    by_cases c : x = y
    · subst c
      have e : decide (x :: xr = x :: yr) = decide (xr = yr) := by simp
      rw [e]
      simp only [k1, h1, h2, hw, hr, Int.natCast_nonneg, bne_iff_ne, beq_iff_eq, ne_eq, decide_eq_true_eq, Bool.and_eq_true, Bool.or_eq_true, Bool.not_eq_true', decide_eq_false_iff_not, beq_eq_false_iff_ne, bne_eq_false_iff_eq, not_true_eq_false, not_false_eq_true, if_true, if_false, reduceIte, and_true, true_and, and_false, false_and, or_false, false_or, or_true, true_or, List.getD_cons_zero, List.getD_cons_succ, List.length_cons, List.length_nil, List.cons_append, List.nil_append, Nat.reduceAdd, Nat.reduceEqDiff, reduceCtorEq, Bool.not_true, Bool.not_false, Bool.true_and, Bool.and_true, Bool.false_and, Bool.and_false, Bool.or_true, Bool.true_or, Bool.or_false, Bool.false_or, Bool.false_eq_true, Bool.true_eq_false, int_n, bool_n, list_n, Sc.str_s, Int.reduceEq, Int.reduceLT, Int.reduceLE, Int.reduceNe, decide_true, decide_false, decide_not, eq_self, Classical.not_not, List.getElem?_cons_zero, List.getElem?_cons_succ, beq_self_eq_true, bne_self_eq_false]
    · have e : decide (x :: xr = y :: yr) = false := by simp [c]
      rw [e]
      simp only [k1, h1, h2, c, Int.natCast_nonneg, bne_iff_ne, beq_iff_eq, ne_eq, decide_eq_true_eq, Bool.and_eq_true, Bool.or_eq_true, Bool.not_eq_true', decide_eq_false_iff_not, beq_eq_false_iff_ne, bne_eq_false_iff_eq, not_true_eq_false, not_false_eq_true, if_true, if_false, reduceIte, and_true, true_and, and_false, false_and, or_false, false_or, or_true, true_or, List.getD_cons_zero, List.getD_cons_succ, List.length_cons, List.length_nil, List.cons_append, List.nil_append, Nat.reduceAdd, Nat.reduceEqDiff, reduceCtorEq, Bool.not_true, Bool.not_false, Bool.true_and, Bool.and_true, Bool.false_and, Bool.and_false, Bool.or_true, Bool.true_or, Bool.or_false, Bool.false_or, Bool.false_eq_true, Bool.true_eq_false, int_n, bool_n, list_n, Sc.str_s, Int.reduceEq, Int.reduceLT, Int.reduceLE, Int.reduceNe, decide_true, decide_false, decide_not, eq_self, Classical.not_not, List.getElem?_cons_zero, List.getElem?_cons_succ, beq_self_eq_true, bne_self_eq_false]
  · have k1 : ¬ (j : Int) < xs.length := by omega
    have e : decide (xs.drop j = ys.drop j) = true := by rw [List.drop_eq_nil_of_le (by omega), List.drop_eq_nil_of_le (by omega)]; rfl
    rw [e]
    simp only [k1, Int.natCast_nonneg, bne_iff_ne, beq_iff_eq, ne_eq, decide_eq_true_eq, Bool.and_eq_true, Bool.or_eq_true, Bool.not_eq_true', decide_eq_false_iff_not, beq_eq_false_iff_ne, bne_eq_false_iff_eq, not_true_eq_false, not_false_eq_true, if_true, if_false, reduceIte, and_true, true_and, and_false, false_and, or_false, false_or, or_true, true_or, List.getD_cons_zero, List.getD_cons_succ, List.length_cons, List.length_nil, List.cons_append, List.nil_append, Nat.reduceAdd, Nat.reduceEqDiff, reduceCtorEq, Bool.not_true, Bool.not_false, Bool.true_and, Bool.and_true, Bool.false_and, Bool.and_false, Bool.or_true, Bool.true_or, Bool.or_false, Bool.false_or, Bool.false_eq_true, Bool.true_eq_false, int_n, bool_n, list_n, Sc.str_s, Int.reduceEq, Int.reduceLT, Int.reduceLE, Int.reduceNe, decide_true, decide_false, decide_not, eq_self, Classical.not_not, List.getElem?_cons_zero, List.getElem?_cons_succ, beq_self_eq_true, bne_self_eq_false]
/-- A distribution. -/
structure DD where
  op : Int
  a : Int
  b : Int
  n : Int
  vs : List Int
  ws : List Int
def DD.chk (d : DD) : Int := chkD d.op d.a d.b d.n d.vs d.ws
def DD.small (d : DD) : Prop := d.vs.length ≤ 17592186044416 ∧ d.ws.length ≤ 17592186044416
def DD.zero (d : DD) : Bool := decide (d.op = 0) && (decide (d.a = 0) && (decide (d.b = 0) && (decide (d.n = 0) && (decide (d.vs = []) && decide (d.ws = [])))))
theorem same_F (d e : DD) (hd : d.small) : k_dist_Same.F [.i d.op, .i d.a, .i d.b, .i d.n, .l (d.vs.map .i), .l (d.ws.map .i), .i e.op, .i e.a, .i e.b, .i e.n, .l (e.vs.map .i), .l (e.ws.map .i)] = some [.b (decide (d.op = e.op) && (decide (d.a = e.a) && (decide (d.b = e.b) && (decide (d.n = e.n) && (decide (d.vs = e.vs) && decide (d.ws = e.ws))))))] := by
  have q1 := equal_F d.vs e.vs hd.1
  have q2 := equal_F d.ws e.ws hd.2
  simp only [k_dist_Same_F, tk_dist_Same, k_slices_Equal___int_int__f, q1, q2, Go.Proofs.Ytpmplppkjedpiaa.T.den, Ex.ev, U1.ev, U2.ev, U3.ev, gam, List.map, List.getD_cons_zero, List.getD_cons_succ, List.length, List.cons_append, List.nil_append, if_true, int_n, bool_n, list_n, Sc.str_s, Nat.reduceEqDiff, if_false, List.getElem?_cons_zero, List.getElem?_cons_succ]
  by_cases h1 : d.op = e.op <;> by_cases h2 : d.a = e.a <;> by_cases h3 : d.b = e.b <;> by_cases h4 : d.n = e.n <;> by_cases h5 : d.vs = e.vs <;> simp [h1, h2, h3, h4, h5]
theorem fzero_F (d : DD) (hd : d.small) : k_dist_Same.F [.i d.op, .i d.a, .i d.b, .i d.n, .l (d.vs.map .i), .l (d.ws.map .i), .i 0, .i 0, .i 0, .i 0, .l [], .l []] = some [.b d.zero] := same_F d ⟨0, 0, 0, 0, [], []⟩ hd
theorem rzero_F (d : DD) : k_simulatorref25_zero.F [.i d.op, .i d.a, .i d.b, .i d.n, .l (d.vs.map .i), .l (d.ws.map .i)] = some [.b d.zero] := by
  simp only [k_simulatorref25_zero_F, tk_simulatorref25_zero, List.length_map, Go.Proofs.Ytpmplppkjedpiaa.T.den, Ex.ev, U1.ev, U2.ev, U3.ev, gam, List.map, List.getD_cons_zero, List.getD_cons_succ, List.length, List.cons_append, List.nil_append, if_true, int_n, bool_n, list_n, Sc.str_s, Nat.reduceEqDiff, if_false, List.getElem?_cons_zero, List.getElem?_cons_succ]
  unfold DD.zero
  by_cases h1 : d.op = 0 <;> by_cases h2 : d.a = 0 <;> by_cases h3 : d.b = 0 <;> by_cases h4 : d.n = 0 <;> by_cases h5 : d.vs = [] <;> by_cases h6 : d.ws = [] <;> simp [h1, h2, h3, h4, h5, h6]
def chkF (st : ByteArray) (u v : DD) : Int :=
  if st.size = 0 then (if (u.zero && v.zero) = true then 0 else 1) else if nameV st ≠ 0 then nameV st else if u.chk ≠ 0 then u.chk else v.chk
theorem fault_check_F (x0 x1 x2 x3 : Sc) (st : ByteArray) (u v : DD) (hs : st.size ≤ 17592186044416) (hu : u.small) (hv : v.small) : k_fault_Check.F [x0, x1, x2, x3, .s st, .i u.op, .i u.a, .i u.b, .i u.n, .l (u.vs.map .i), .l (u.ws.map .i), .i v.op, .i v.a, .i v.b, .i v.n, .l (v.vs.map .i), .l (v.ws.map .i)] = some [.i (chkF st u v)] := by
  have q1 := fzero_F u hu
  have q2 := fzero_F v hv
  have q3 := fcheck_F u.op u.a u.b u.n u.vs u.ws hu.1 hu.2
  have q4 := fcheck_F v.op v.a v.b v.n v.vs v.ws hv.1 hv.2
  have q5 := ncheck_F st hs
  simp only [k_fault_Check_F, tk_fault_Check, k_dist_Same_f, k_names_Check_f, k_dist_Check_f, q1, q2, q3, q4, q5, Go.Proofs.Ytpmplppkjedpiaa.T.den, Ex.ev, U1.ev, U2.ev, U3.ev, gam, List.map, List.getD_cons_zero, List.getD_cons_succ, List.length, List.cons_append, List.nil_append, if_true, int_n, bool_n, list_n, Sc.str_s, Nat.reduceEqDiff, if_false, List.getElem?_cons_zero, List.getElem?_cons_succ]
  unfold chkF DD.chk
  simp only [List.map_nil, strE]
  generalize chkD u.op u.a u.b u.n u.vs u.ws = U
  generalize chkD v.op v.a v.b v.n v.vs v.ws = V
  generalize nameV st = M
  by_cases c : st.size = 0
  · cases u.zero <;> cases v.zero <;> simp [c]
  · by_cases c1 : M = 0 <;> by_cases c2 : U = 0 <;> simp [c, c1, c2]
theorem rfault_check_F (x0 x1 x2 x3 : Sc) (st : ByteArray) (u v : DD) (hs : st.size ≤ 17592186044416) (hu : u.small) (hv : v.small) : k_simulatorref25_Check.F [x0, x1, x2, x3, .s st, .i u.op, .i u.a, .i u.b, .i u.n, .l (u.vs.map .i), .l (u.ws.map .i), .i v.op, .i v.a, .i v.b, .i v.n, .l (v.vs.map .i), .l (v.ws.map .i)] = some [.i (chkF st u v)] := by
  have q1 := rzero_F u
  have q2 := rzero_F v
  have q3 := rcheck_F u.op u.a u.b u.n u.vs u.ws hu.1 hu.2
  have q4 := rcheck_F v.op v.a v.b v.n v.vs v.ws hv.1 hv.2
  have q5 := rncheck_F st hs
  simp only [k_simulatorref25_Check_F, tk_simulatorref25_Check, k_simulatorref25_zero_f, k_simulatorref07_Check_f, k_simulatorref04_Check_f, q1, q2, q3, q4, q5, Go.Proofs.Ytpmplppkjedpiaa.T.den, Ex.ev, U1.ev, U2.ev, U3.ev, gam, List.map, List.getD_cons_zero, List.getD_cons_succ, List.length, List.cons_append, List.nil_append, if_true, int_n, bool_n, list_n, Sc.str_s, Nat.reduceEqDiff, if_false, List.getElem?_cons_zero, List.getElem?_cons_succ]
  unfold chkF DD.chk
  simp only [List.map_nil, strE]
  generalize chkD u.op u.a u.b u.n u.vs u.ws = U
  generalize chkD v.op v.a v.b v.n v.vs v.ws = V
  generalize nameV st = M
  by_cases c : st.size = 0
  · cases u.zero <;> cases v.zero <;> simp [c]
  · by_cases c1 : M = 0 <;> by_cases c2 : U = 0 <;> simp [c, c1, c2]
def begV (st : ByteArray) (u v : DD) : Int := if chkF st u v ≠ 0 then chkF st u v else if st.size = 0 then 15 else 0
def rdyV (st : ByteArray) (u v : DD) (t : Int) : Int := if begV st u v ≠ 0 then begV st u v else if t < 0 then 2 else if 1000000000 < t then 2 else 0
theorem ready_F (x0 x1 x2 x3 : Sc) (st : ByteArray) (u v : DD) (t : Int) (hs : st.size ≤ 17592186044416) (hu : u.small) (hv : v.small) : k_fault_ready.F [x0, x1, x2, x3, .s st, .i u.op, .i u.a, .i u.b, .i u.n, .l (u.vs.map .i), .l (u.ws.map .i), .i v.op, .i v.a, .i v.b, .i v.n, .l (v.vs.map .i), .l (v.ws.map .i), .i t] = some [.i (rdyV st u v t)] := by
  have q := fault_check_F x0 x1 x2 x3 st u v hs hu hv
  simp only [k_fault_ready_F, tk_fault_ready, k_fault_Check_f, q, Go.Proofs.Ytpmplppkjedpiaa.T.den, Ex.ev, U1.ev, U2.ev, U3.ev, gam, List.map, List.getD_cons_zero, List.getD_cons_succ, List.length, List.cons_append, List.nil_append, if_true, int_n, bool_n, list_n, Sc.str_s, Nat.reduceEqDiff, if_false, List.getElem?_cons_zero, List.getElem?_cons_succ]
  unfold rdyV begV
  simp only [List.map_nil, strE]
  generalize chkF st u v = C
  by_cases c1 : C = 0
  · by_cases c2 : st.size = 0
    · simp [c1, c2]
    · by_cases c3 : t < 0 <;> by_cases c4 : 1000000000 < t <;> simp [c1, c2, c3, c4]
  · simp [c1]
theorem begun_F (x0 x1 x2 x3 : Sc) (st : ByteArray) (u v : DD) (hs : st.size ≤ 17592186044416) (hu : u.small) (hv : v.small) : k_simulatorref25_begun.F [x0, x1, x2, x3, .s st, .i u.op, .i u.a, .i u.b, .i u.n, .l (u.vs.map .i), .l (u.ws.map .i), .i v.op, .i v.a, .i v.b, .i v.n, .l (v.vs.map .i), .l (v.ws.map .i)] = some [.i (begV st u v)] := by
  have q := rfault_check_F x0 x1 x2 x3 st u v hs hu hv
  simp only [k_simulatorref25_begun_F, tk_simulatorref25_begun, k_simulatorref25_Check_f, q, Go.Proofs.Ytpmplppkjedpiaa.T.den, Ex.ev, U1.ev, U2.ev, U3.ev, gam, List.map, List.getD_cons_zero, List.getD_cons_succ, List.length, List.cons_append, List.nil_append, if_true, int_n, bool_n, list_n, Sc.str_s, Nat.reduceEqDiff, if_false, List.getElem?_cons_zero, List.getElem?_cons_succ]
  unfold begV
  simp only [List.map_nil, strE]
  generalize chkF st u v = C
  by_cases c1 : C = 0
  · by_cases c2 : st.size = 0
    · simp [c1, c2]
    · simp [c1, c2]
  · simp [c1]
/-- A value, a stream, an error. -/
structure NT where
  x : Int
  k : Int
  p : Int
  m : Bool
  e : Int
def NT.bad (e : Int) : NT := ⟨0, 0, 0, false, e⟩
def NT.l (t : NT) : List Sc := [.i t.x, .i t.k, .i t.p, .b t.m, .i t.e]
noncomputable def drawT (d : DD) (k p : Int) (m : Bool) : NT :=
  if d.chk ≠ 0 then .bad d.chk else if scheck p ≠ 0 then .bad (scheck p) else
  if d.op = 4 then (if 1000000000000 - d.n < p then .bad 2 else ⟨drwS d.a d.b k p m d.n.toNat, k, p + d.n, m, 0⟩)
  else if 999999999999 < p then .bad 2 else ⟨(atV d.op d.a d.b d.n d.vs d.ws (numN k (p + 1) m)).1, k, p + 1, m, 0⟩
theorem drawT_l (d : DD) (k p : Int) (m : Bool) : drawV d.op d.a d.b d.n d.vs d.ws k p m = (drawT d k p m).l := by
  unfold drawV drawT DD.chk
  repeat (split; rfl)
  split
  · split <;> rfl
  · split <;> rfl
theorem drawT_in (d : DD) (k p : Int) (m : Bool) : 0 ≤ (drawT d k p m).x ∧ (drawT d k p m).x ≤ 1000000000 := by
  unfold drawT
  split
  · simp only [NT.bad]; omega
  rename_i h0
  have h0 : d.chk = 0 := Classical.not_not.1 h0
  split
  · simp only [NT.bad]; omega
  split
  · rename_i h4
    split
    · simp only [NT.bad]; omega
    · unfold DD.chk at h0
      rw [h4] at h0
      obtain ⟨hn, hab⟩ := chk4 h0
      have := drwS_in hab.1 hab.2.1 k p m d.n.toNat
      have hb2 : ((d.n.toNat : Nat) : Int) * d.b ≤ 20 * 1000000 := Int.mul_le_mul (by omega) (by omega) (by omega) (by omega)
      have hb1 : (0 : Int) ≤ ((d.n.toNat : Nat) : Int) * d.a := Int.mul_nonneg (by omega) (by omega)
      simp only; omega
  split
  · simp only [NT.bad]; omega
  · exact atV_in _ _ _ _ _ _ _ (numN_lt ..)
theorem fdraw_F (d : DD) (k p : Int) (m : Bool) (hd : d.small) : k_dist_Draw.F [.i d.op, .i d.a, .i d.b, .i d.n, .l (d.vs.map .i), .l (d.ws.map .i), .i k, .i p, .b m] = some (drawT d k p m).l := by
  rw [← drawT_l]; exact draw_F _ _ _ _ _ _ _ _ _ hd.1 hd.2
theorem rfdraw_F (d : DD) (k p : Int) (m : Bool) (hd : d.small) : k_simulatorref04_Draw.F [.i d.op, .i d.a, .i d.b, .i d.n, .l (d.vs.map .i), .l (d.ws.map .i), .i k, .i p, .b m] = some (drawT d k p m).l := by
  rw [← drawT_l]; exact rdraw_F _ _ _ _ _ _ _ _ _ hd.1 hd.2
def nxtD (D : NT) (now : Int) : NT := if D.e ≠ 0 then .bad D.e else ⟨now + (if D.x ≤ 1 then 1 else D.x), D.k, D.p, D.m, 0⟩
/-- What Next returns. -/
noncomputable def nextT (st : ByteArray) (u v : DD) (k p : Int) (m : Bool) (now : Int) (down : Bool) : NT :=
  if rdyV st u v now ≠ 0 then .bad (rdyV st u v now) else nxtD (drawT (if down = true then v else u) k p m) now
theorem next_F (x0 x1 x2 x3 : Sc) (st : ByteArray) (u v : DD) (k p : Int) (m : Bool) (now : Int) (down : Bool) (hs : st.size ≤ 17592186044416) (hu : u.small) (hv : v.small) : k_fault_Next.F [x0, x1, x2, x3, .s st, .i u.op, .i u.a, .i u.b, .i u.n, .l (u.vs.map .i), .l (u.ws.map .i), .i v.op, .i v.a, .i v.b, .i v.n, .l (v.vs.map .i), .l (v.ws.map .i), .i k, .i p, .b m, .i now, .b down] = some (nextT st u v k p m now down).l := by
  have q := ready_F x0 x1 x2 x3 st u v now hs hu hv
  have q1 := fdraw_F u k p m hu
  have q2 := fdraw_F v k p m hv
  have b1 := drawT_in u k p m
  have b2 := drawT_in v k p m
  simp only [k_fault_Next_F, tk_fault_Next, k_fault_ready_f, k_dist_Draw_f, q, q1, q2, NT.l, Go.Proofs.Ytpmplppkjedpiaa.T.den, Ex.ev, U1.ev, U2.ev, U3.ev, gam, List.map, List.getD_cons_zero, List.getD_cons_succ, List.length, List.cons_append, List.nil_append, if_true, int_n, bool_n, list_n, Sc.str_s, Nat.reduceEqDiff, if_false, List.getElem?_cons_zero, List.getElem?_cons_succ]
  unfold nextT
  by_cases c : rdyV st u v now = 0
  rotate_left
  · rw [if_pos c]
    simp only [c, NT.bad, Int.natCast_nonneg, bne_iff_ne, beq_iff_eq, ne_eq, decide_eq_true_eq, Bool.and_eq_true, Bool.or_eq_true, Bool.not_eq_true', decide_eq_false_iff_not, beq_eq_false_iff_ne, bne_eq_false_iff_eq, not_true_eq_false, not_false_eq_true, if_true, if_false, reduceIte, and_true, true_and, and_false, false_and, or_false, false_or, or_true, true_or, List.getD_cons_zero, List.getD_cons_succ, List.length_cons, List.length_nil, List.cons_append, List.nil_append, Nat.reduceAdd, Nat.reduceEqDiff, reduceCtorEq, Bool.not_true, Bool.not_false, Bool.true_and, Bool.and_true, Bool.false_and, Bool.and_false, Bool.or_true, Bool.true_or, Bool.or_false, Bool.false_or, Bool.false_eq_true, Bool.true_eq_false, int_n, bool_n, list_n, Sc.str_s, Int.reduceEq, Int.reduceLT, Int.reduceLE, Int.reduceNe, decide_true, decide_false, decide_not, eq_self, Classical.not_not, List.getElem?_cons_zero, List.getElem?_cons_succ, beq_self_eq_true, bne_self_eq_false]
  rw [if_neg (fun h : rdyV st u v now ≠ 0 => h c)]
  have ht : 0 ≤ now ∧ now ≤ 1000000000 := by
    unfold rdyV at c
    split at c
    · rename_i h; exact absurd c h
    split at c
    · omega
    split at c
    · omega
    · omega
  cases down
  · simp only [Bool.false_eq_true, if_false]
    generalize drawT u k p m = D at *
    obtain ⟨x, k', p', m', e⟩ := D
    simp only at b1
    unfold nxtD
    by_cases ce : e = 0
    · by_cases cx : x ≤ 1
      · have cx' : ¬ x > 1 := by omega
        have w : IntKind.i64.wrap (now + 1) = now + 1 := wrJ (by omega) (by omega)
        simp only [c, ce, cx, cx', w, NT.l, Int.natCast_nonneg, bne_iff_ne, beq_iff_eq, ne_eq, decide_eq_true_eq, Bool.and_eq_true, Bool.or_eq_true, Bool.not_eq_true', decide_eq_false_iff_not, beq_eq_false_iff_ne, bne_eq_false_iff_eq, not_true_eq_false, not_false_eq_true, if_true, if_false, reduceIte, and_true, true_and, and_false, false_and, or_false, false_or, or_true, true_or, List.getD_cons_zero, List.getD_cons_succ, List.length_cons, List.length_nil, List.cons_append, List.nil_append, Nat.reduceAdd, Nat.reduceEqDiff, reduceCtorEq, Bool.not_true, Bool.not_false, Bool.true_and, Bool.and_true, Bool.false_and, Bool.and_false, Bool.or_true, Bool.true_or, Bool.or_false, Bool.false_or, Bool.false_eq_true, Bool.true_eq_false, int_n, bool_n, list_n, Sc.str_s, Int.reduceEq, Int.reduceLT, Int.reduceLE, Int.reduceNe, decide_true, decide_false, decide_not, eq_self, Classical.not_not, List.getElem?_cons_zero, List.getElem?_cons_succ, beq_self_eq_true, bne_self_eq_false]
      · have cx' : x > 1 := by omega
        have w : IntKind.i64.wrap (now + x) = now + x := wrJ (by omega) (by omega)
        simp only [c, ce, cx, cx', w, NT.l, Int.natCast_nonneg, bne_iff_ne, beq_iff_eq, ne_eq, decide_eq_true_eq, Bool.and_eq_true, Bool.or_eq_true, Bool.not_eq_true', decide_eq_false_iff_not, beq_eq_false_iff_ne, bne_eq_false_iff_eq, not_true_eq_false, not_false_eq_true, if_true, if_false, reduceIte, and_true, true_and, and_false, false_and, or_false, false_or, or_true, true_or, List.getD_cons_zero, List.getD_cons_succ, List.length_cons, List.length_nil, List.cons_append, List.nil_append, Nat.reduceAdd, Nat.reduceEqDiff, reduceCtorEq, Bool.not_true, Bool.not_false, Bool.true_and, Bool.and_true, Bool.false_and, Bool.and_false, Bool.or_true, Bool.true_or, Bool.or_false, Bool.false_or, Bool.false_eq_true, Bool.true_eq_false, int_n, bool_n, list_n, Sc.str_s, Int.reduceEq, Int.reduceLT, Int.reduceLE, Int.reduceNe, decide_true, decide_false, decide_not, eq_self, Classical.not_not, List.getElem?_cons_zero, List.getElem?_cons_succ, beq_self_eq_true, bne_self_eq_false]
    · simp only [c, ce, NT.l, NT.bad, Int.natCast_nonneg, bne_iff_ne, beq_iff_eq, ne_eq, decide_eq_true_eq, Bool.and_eq_true, Bool.or_eq_true, Bool.not_eq_true', decide_eq_false_iff_not, beq_eq_false_iff_ne, bne_eq_false_iff_eq, not_true_eq_false, not_false_eq_true, if_true, if_false, reduceIte, and_true, true_and, and_false, false_and, or_false, false_or, or_true, true_or, List.getD_cons_zero, List.getD_cons_succ, List.length_cons, List.length_nil, List.cons_append, List.nil_append, Nat.reduceAdd, Nat.reduceEqDiff, reduceCtorEq, Bool.not_true, Bool.not_false, Bool.true_and, Bool.and_true, Bool.false_and, Bool.and_false, Bool.or_true, Bool.true_or, Bool.or_false, Bool.false_or, Bool.false_eq_true, Bool.true_eq_false, int_n, bool_n, list_n, Sc.str_s, Int.reduceEq, Int.reduceLT, Int.reduceLE, Int.reduceNe, decide_true, decide_false, decide_not, eq_self, Classical.not_not, List.getElem?_cons_zero, List.getElem?_cons_succ, beq_self_eq_true, bne_self_eq_false]
  · simp only [if_true]
    generalize drawT v k p m = D at *
    obtain ⟨x, k', p', m', e⟩ := D
    simp only at b2
    unfold nxtD
    by_cases ce : e = 0
    · by_cases cx : x ≤ 1
      · have cx' : ¬ x > 1 := by omega
        have w : IntKind.i64.wrap (now + 1) = now + 1 := wrJ (by omega) (by omega)
        simp only [c, ce, cx, cx', w, NT.l, Int.natCast_nonneg, bne_iff_ne, beq_iff_eq, ne_eq, decide_eq_true_eq, Bool.and_eq_true, Bool.or_eq_true, Bool.not_eq_true', decide_eq_false_iff_not, beq_eq_false_iff_ne, bne_eq_false_iff_eq, not_true_eq_false, not_false_eq_true, if_true, if_false, reduceIte, and_true, true_and, and_false, false_and, or_false, false_or, or_true, true_or, List.getD_cons_zero, List.getD_cons_succ, List.length_cons, List.length_nil, List.cons_append, List.nil_append, Nat.reduceAdd, Nat.reduceEqDiff, reduceCtorEq, Bool.not_true, Bool.not_false, Bool.true_and, Bool.and_true, Bool.false_and, Bool.and_false, Bool.or_true, Bool.true_or, Bool.or_false, Bool.false_or, Bool.false_eq_true, Bool.true_eq_false, int_n, bool_n, list_n, Sc.str_s, Int.reduceEq, Int.reduceLT, Int.reduceLE, Int.reduceNe, decide_true, decide_false, decide_not, eq_self, Classical.not_not, List.getElem?_cons_zero, List.getElem?_cons_succ, beq_self_eq_true, bne_self_eq_false]
      · have cx' : x > 1 := by omega
        have w : IntKind.i64.wrap (now + x) = now + x := wrJ (by omega) (by omega)
        simp only [c, ce, cx, cx', w, NT.l, Int.natCast_nonneg, bne_iff_ne, beq_iff_eq, ne_eq, decide_eq_true_eq, Bool.and_eq_true, Bool.or_eq_true, Bool.not_eq_true', decide_eq_false_iff_not, beq_eq_false_iff_ne, bne_eq_false_iff_eq, not_true_eq_false, not_false_eq_true, if_true, if_false, reduceIte, and_true, true_and, and_false, false_and, or_false, false_or, or_true, true_or, List.getD_cons_zero, List.getD_cons_succ, List.length_cons, List.length_nil, List.cons_append, List.nil_append, Nat.reduceAdd, Nat.reduceEqDiff, reduceCtorEq, Bool.not_true, Bool.not_false, Bool.true_and, Bool.and_true, Bool.false_and, Bool.and_false, Bool.or_true, Bool.true_or, Bool.or_false, Bool.false_or, Bool.false_eq_true, Bool.true_eq_false, int_n, bool_n, list_n, Sc.str_s, Int.reduceEq, Int.reduceLT, Int.reduceLE, Int.reduceNe, decide_true, decide_false, decide_not, eq_self, Classical.not_not, List.getElem?_cons_zero, List.getElem?_cons_succ, beq_self_eq_true, bne_self_eq_false]
    · simp only [c, ce, NT.l, NT.bad, Int.natCast_nonneg, bne_iff_ne, beq_iff_eq, ne_eq, decide_eq_true_eq, Bool.and_eq_true, Bool.or_eq_true, Bool.not_eq_true', decide_eq_false_iff_not, beq_eq_false_iff_ne, bne_eq_false_iff_eq, not_true_eq_false, not_false_eq_true, if_true, if_false, reduceIte, and_true, true_and, and_false, false_and, or_false, false_or, or_true, true_or, List.getD_cons_zero, List.getD_cons_succ, List.length_cons, List.length_nil, List.cons_append, List.nil_append, Nat.reduceAdd, Nat.reduceEqDiff, reduceCtorEq, Bool.not_true, Bool.not_false, Bool.true_and, Bool.and_true, Bool.false_and, Bool.and_false, Bool.or_true, Bool.true_or, Bool.or_false, Bool.false_or, Bool.false_eq_true, Bool.true_eq_false, int_n, bool_n, list_n, Sc.str_s, Int.reduceEq, Int.reduceLT, Int.reduceLE, Int.reduceNe, decide_true, decide_false, decide_not, eq_self, Classical.not_not, List.getElem?_cons_zero, List.getElem?_cons_succ, beq_self_eq_true, bne_self_eq_false]
theorem refnext_F (x0 x1 x2 x3 : Sc) (st : ByteArray) (u v : DD) (k p : Int) (m : Bool) (now : Int) (down : Bool) (hs : st.size ≤ 17592186044416) (hu : u.small) (hv : v.small) : k_simulatorref25_Next.F [x0, x1, x2, x3, .s st, .i u.op, .i u.a, .i u.b, .i u.n, .l (u.vs.map .i), .l (u.ws.map .i), .i v.op, .i v.a, .i v.b, .i v.n, .l (v.vs.map .i), .l (v.ws.map .i), .i k, .i p, .b m, .i now, .b down] = some (nextT st u v k p m now down).l := by
  have q := begun_F x0 x1 x2 x3 st u v hs hu hv
  have q1 := rfdraw_F u k p m hu
  have q2 := rfdraw_F v k p m hv
  have b1 := drawT_in u k p m
  have b2 := drawT_in v k p m
  simp only [k_simulatorref25_Next_F, tk_simulatorref25_Next, k_simulatorref25_begun_f, k_simulatorref04_Draw_f, q, q1, q2, NT.l, Go.Proofs.Ytpmplppkjedpiaa.T.den, Ex.ev, U1.ev, U2.ev, U3.ev, gam, List.map, List.getD_cons_zero, List.getD_cons_succ, List.length, List.cons_append, List.nil_append, if_true, int_n, bool_n, list_n, Sc.str_s, Nat.reduceEqDiff, if_false, List.getElem?_cons_zero, List.getElem?_cons_succ]
  unfold nextT rdyV
  by_cases c : begV st u v = 0
  rotate_left
  · simp only [c, NT.bad, NT.l, Int.natCast_nonneg, bne_iff_ne, beq_iff_eq, ne_eq, decide_eq_true_eq, Bool.and_eq_true, Bool.or_eq_true, Bool.not_eq_true', decide_eq_false_iff_not, beq_eq_false_iff_ne, bne_eq_false_iff_eq, not_true_eq_false, not_false_eq_true, if_true, if_false, reduceIte, and_true, true_and, and_false, false_and, or_false, false_or, or_true, true_or, List.getD_cons_zero, List.getD_cons_succ, List.length_cons, List.length_nil, List.cons_append, List.nil_append, Nat.reduceAdd, Nat.reduceEqDiff, reduceCtorEq, Bool.not_true, Bool.not_false, Bool.true_and, Bool.and_true, Bool.false_and, Bool.and_false, Bool.or_true, Bool.true_or, Bool.or_false, Bool.false_or, Bool.false_eq_true, Bool.true_eq_false, int_n, bool_n, list_n, Sc.str_s, Int.reduceEq, Int.reduceLT, Int.reduceLE, Int.reduceNe, decide_true, decide_false, decide_not, eq_self, Classical.not_not, List.getElem?_cons_zero, List.getElem?_cons_succ, beq_self_eq_true, bne_self_eq_false]
  by_cases t1 : now < 0
  · simp only [c, t1, NT.bad, NT.l, Int.natCast_nonneg, bne_iff_ne, beq_iff_eq, ne_eq, decide_eq_true_eq, Bool.and_eq_true, Bool.or_eq_true, Bool.not_eq_true', decide_eq_false_iff_not, beq_eq_false_iff_ne, bne_eq_false_iff_eq, not_true_eq_false, not_false_eq_true, if_true, if_false, reduceIte, and_true, true_and, and_false, false_and, or_false, false_or, or_true, true_or, List.getD_cons_zero, List.getD_cons_succ, List.length_cons, List.length_nil, List.cons_append, List.nil_append, Nat.reduceAdd, Nat.reduceEqDiff, reduceCtorEq, Bool.not_true, Bool.not_false, Bool.true_and, Bool.and_true, Bool.false_and, Bool.and_false, Bool.or_true, Bool.true_or, Bool.or_false, Bool.false_or, Bool.false_eq_true, Bool.true_eq_false, int_n, bool_n, list_n, Sc.str_s, Int.reduceEq, Int.reduceLT, Int.reduceLE, Int.reduceNe, decide_true, decide_false, decide_not, eq_self, Classical.not_not, List.getElem?_cons_zero, List.getElem?_cons_succ, beq_self_eq_true, bne_self_eq_false]
  by_cases t2 : 1000000000 < now
  · simp only [c, t1, t2, NT.bad, NT.l, Int.natCast_nonneg, bne_iff_ne, beq_iff_eq, ne_eq, decide_eq_true_eq, Bool.and_eq_true, Bool.or_eq_true, Bool.not_eq_true', decide_eq_false_iff_not, beq_eq_false_iff_ne, bne_eq_false_iff_eq, not_true_eq_false, not_false_eq_true, if_true, if_false, reduceIte, and_true, true_and, and_false, false_and, or_false, false_or, or_true, true_or, List.getD_cons_zero, List.getD_cons_succ, List.length_cons, List.length_nil, List.cons_append, List.nil_append, Nat.reduceAdd, Nat.reduceEqDiff, reduceCtorEq, Bool.not_true, Bool.not_false, Bool.true_and, Bool.and_true, Bool.false_and, Bool.and_false, Bool.or_true, Bool.true_or, Bool.or_false, Bool.false_or, Bool.false_eq_true, Bool.true_eq_false, int_n, bool_n, list_n, Sc.str_s, Int.reduceEq, Int.reduceLT, Int.reduceLE, Int.reduceNe, decide_true, decide_false, decide_not, eq_self, Classical.not_not, List.getElem?_cons_zero, List.getElem?_cons_succ, beq_self_eq_true, bne_self_eq_false]
  cases down
  · simp only [Bool.false_eq_true, if_false]
    generalize drawT u k p m = D at *
    obtain ⟨x, k', p', m', e⟩ := D
    simp only at b1
    unfold nxtD
    by_cases ce : e = 0
    · by_cases cx : x ≤ 1
      · have w : IntKind.i64.wrap (now + 1) = now + 1 := wrJ (by omega) (by omega)
        by_cases c1 : x = 1
        · simp only [c, t1, t2, ce, c1, w, NT.l, Int.natCast_nonneg, bne_iff_ne, beq_iff_eq, ne_eq, decide_eq_true_eq, Bool.and_eq_true, Bool.or_eq_true, Bool.not_eq_true', decide_eq_false_iff_not, beq_eq_false_iff_ne, bne_eq_false_iff_eq, not_true_eq_false, not_false_eq_true, if_true, if_false, reduceIte, and_true, true_and, and_false, false_and, or_false, false_or, or_true, true_or, List.getD_cons_zero, List.getD_cons_succ, List.length_cons, List.length_nil, List.cons_append, List.nil_append, Nat.reduceAdd, Nat.reduceEqDiff, reduceCtorEq, Bool.not_true, Bool.not_false, Bool.true_and, Bool.and_true, Bool.false_and, Bool.and_false, Bool.or_true, Bool.true_or, Bool.or_false, Bool.false_or, Bool.false_eq_true, Bool.true_eq_false, int_n, bool_n, list_n, Sc.str_s, Int.reduceEq, Int.reduceLT, Int.reduceLE, Int.reduceNe, decide_true, decide_false, decide_not, eq_self, Classical.not_not, List.getElem?_cons_zero, List.getElem?_cons_succ, beq_self_eq_true, bne_self_eq_false]
          simp [w]
        · have cx' : 1 > x := by omega
          simp only [c, t1, t2, ce, cx, cx', w, NT.l, Int.natCast_nonneg, bne_iff_ne, beq_iff_eq, ne_eq, decide_eq_true_eq, Bool.and_eq_true, Bool.or_eq_true, Bool.not_eq_true', decide_eq_false_iff_not, beq_eq_false_iff_ne, bne_eq_false_iff_eq, not_true_eq_false, not_false_eq_true, if_true, if_false, reduceIte, and_true, true_and, and_false, false_and, or_false, false_or, or_true, true_or, List.getD_cons_zero, List.getD_cons_succ, List.length_cons, List.length_nil, List.cons_append, List.nil_append, Nat.reduceAdd, Nat.reduceEqDiff, reduceCtorEq, Bool.not_true, Bool.not_false, Bool.true_and, Bool.and_true, Bool.false_and, Bool.and_false, Bool.or_true, Bool.true_or, Bool.or_false, Bool.false_or, Bool.false_eq_true, Bool.true_eq_false, int_n, bool_n, list_n, Sc.str_s, Int.reduceEq, Int.reduceLT, Int.reduceLE, Int.reduceNe, decide_true, decide_false, decide_not, eq_self, Classical.not_not, List.getElem?_cons_zero, List.getElem?_cons_succ, beq_self_eq_true, bne_self_eq_false]
      · have cx' : ¬ 1 > x := by omega
        have w : IntKind.i64.wrap (now + x) = now + x := wrJ (by omega) (by omega)
        simp only [c, t1, t2, ce, cx, cx', w, NT.l, Int.natCast_nonneg, bne_iff_ne, beq_iff_eq, ne_eq, decide_eq_true_eq, Bool.and_eq_true, Bool.or_eq_true, Bool.not_eq_true', decide_eq_false_iff_not, beq_eq_false_iff_ne, bne_eq_false_iff_eq, not_true_eq_false, not_false_eq_true, if_true, if_false, reduceIte, and_true, true_and, and_false, false_and, or_false, false_or, or_true, true_or, List.getD_cons_zero, List.getD_cons_succ, List.length_cons, List.length_nil, List.cons_append, List.nil_append, Nat.reduceAdd, Nat.reduceEqDiff, reduceCtorEq, Bool.not_true, Bool.not_false, Bool.true_and, Bool.and_true, Bool.false_and, Bool.and_false, Bool.or_true, Bool.true_or, Bool.or_false, Bool.false_or, Bool.false_eq_true, Bool.true_eq_false, int_n, bool_n, list_n, Sc.str_s, Int.reduceEq, Int.reduceLT, Int.reduceLE, Int.reduceNe, decide_true, decide_false, decide_not, eq_self, Classical.not_not, List.getElem?_cons_zero, List.getElem?_cons_succ, beq_self_eq_true, bne_self_eq_false]
    · simp only [c, t1, t2, ce, NT.l, NT.bad, Int.natCast_nonneg, bne_iff_ne, beq_iff_eq, ne_eq, decide_eq_true_eq, Bool.and_eq_true, Bool.or_eq_true, Bool.not_eq_true', decide_eq_false_iff_not, beq_eq_false_iff_ne, bne_eq_false_iff_eq, not_true_eq_false, not_false_eq_true, if_true, if_false, reduceIte, and_true, true_and, and_false, false_and, or_false, false_or, or_true, true_or, List.getD_cons_zero, List.getD_cons_succ, List.length_cons, List.length_nil, List.cons_append, List.nil_append, Nat.reduceAdd, Nat.reduceEqDiff, reduceCtorEq, Bool.not_true, Bool.not_false, Bool.true_and, Bool.and_true, Bool.false_and, Bool.and_false, Bool.or_true, Bool.true_or, Bool.or_false, Bool.false_or, Bool.false_eq_true, Bool.true_eq_false, int_n, bool_n, list_n, Sc.str_s, Int.reduceEq, Int.reduceLT, Int.reduceLE, Int.reduceNe, decide_true, decide_false, decide_not, eq_self, Classical.not_not, List.getElem?_cons_zero, List.getElem?_cons_succ, beq_self_eq_true, bne_self_eq_false]
  · simp only [if_true]
    generalize drawT v k p m = D at *
    obtain ⟨x, k', p', m', e⟩ := D
    simp only at b2
    unfold nxtD
    by_cases ce : e = 0
    · by_cases cx : x ≤ 1
      · have w : IntKind.i64.wrap (now + 1) = now + 1 := wrJ (by omega) (by omega)
        by_cases c1 : x = 1
        · simp only [c, t1, t2, ce, c1, w, NT.l, Int.natCast_nonneg, bne_iff_ne, beq_iff_eq, ne_eq, decide_eq_true_eq, Bool.and_eq_true, Bool.or_eq_true, Bool.not_eq_true', decide_eq_false_iff_not, beq_eq_false_iff_ne, bne_eq_false_iff_eq, not_true_eq_false, not_false_eq_true, if_true, if_false, reduceIte, and_true, true_and, and_false, false_and, or_false, false_or, or_true, true_or, List.getD_cons_zero, List.getD_cons_succ, List.length_cons, List.length_nil, List.cons_append, List.nil_append, Nat.reduceAdd, Nat.reduceEqDiff, reduceCtorEq, Bool.not_true, Bool.not_false, Bool.true_and, Bool.and_true, Bool.false_and, Bool.and_false, Bool.or_true, Bool.true_or, Bool.or_false, Bool.false_or, Bool.false_eq_true, Bool.true_eq_false, int_n, bool_n, list_n, Sc.str_s, Int.reduceEq, Int.reduceLT, Int.reduceLE, Int.reduceNe, decide_true, decide_false, decide_not, eq_self, Classical.not_not, List.getElem?_cons_zero, List.getElem?_cons_succ, beq_self_eq_true, bne_self_eq_false]
          simp [w]
        · have cx' : 1 > x := by omega
          simp only [c, t1, t2, ce, cx, cx', w, NT.l, Int.natCast_nonneg, bne_iff_ne, beq_iff_eq, ne_eq, decide_eq_true_eq, Bool.and_eq_true, Bool.or_eq_true, Bool.not_eq_true', decide_eq_false_iff_not, beq_eq_false_iff_ne, bne_eq_false_iff_eq, not_true_eq_false, not_false_eq_true, if_true, if_false, reduceIte, and_true, true_and, and_false, false_and, or_false, false_or, or_true, true_or, List.getD_cons_zero, List.getD_cons_succ, List.length_cons, List.length_nil, List.cons_append, List.nil_append, Nat.reduceAdd, Nat.reduceEqDiff, reduceCtorEq, Bool.not_true, Bool.not_false, Bool.true_and, Bool.and_true, Bool.false_and, Bool.and_false, Bool.or_true, Bool.true_or, Bool.or_false, Bool.false_or, Bool.false_eq_true, Bool.true_eq_false, int_n, bool_n, list_n, Sc.str_s, Int.reduceEq, Int.reduceLT, Int.reduceLE, Int.reduceNe, decide_true, decide_false, decide_not, eq_self, Classical.not_not, List.getElem?_cons_zero, List.getElem?_cons_succ, beq_self_eq_true, bne_self_eq_false]
      · have cx' : ¬ 1 > x := by omega
        have w : IntKind.i64.wrap (now + x) = now + x := wrJ (by omega) (by omega)
        simp only [c, t1, t2, ce, cx, cx', w, NT.l, Int.natCast_nonneg, bne_iff_ne, beq_iff_eq, ne_eq, decide_eq_true_eq, Bool.and_eq_true, Bool.or_eq_true, Bool.not_eq_true', decide_eq_false_iff_not, beq_eq_false_iff_ne, bne_eq_false_iff_eq, not_true_eq_false, not_false_eq_true, if_true, if_false, reduceIte, and_true, true_and, and_false, false_and, or_false, false_or, or_true, true_or, List.getD_cons_zero, List.getD_cons_succ, List.length_cons, List.length_nil, List.cons_append, List.nil_append, Nat.reduceAdd, Nat.reduceEqDiff, reduceCtorEq, Bool.not_true, Bool.not_false, Bool.true_and, Bool.and_true, Bool.false_and, Bool.and_false, Bool.or_true, Bool.true_or, Bool.or_false, Bool.false_or, Bool.false_eq_true, Bool.true_eq_false, int_n, bool_n, list_n, Sc.str_s, Int.reduceEq, Int.reduceLT, Int.reduceLE, Int.reduceNe, decide_true, decide_false, decide_not, eq_self, Classical.not_not, List.getElem?_cons_zero, List.getElem?_cons_succ, beq_self_eq_true, bne_self_eq_false]
    · simp only [c, t1, t2, ce, NT.l, NT.bad, Int.natCast_nonneg, bne_iff_ne, beq_iff_eq, ne_eq, decide_eq_true_eq, Bool.and_eq_true, Bool.or_eq_true, Bool.not_eq_true', decide_eq_false_iff_not, beq_eq_false_iff_ne, bne_eq_false_iff_eq, not_true_eq_false, not_false_eq_true, if_true, if_false, reduceIte, and_true, true_and, and_false, false_and, or_false, false_or, or_true, true_or, List.getD_cons_zero, List.getD_cons_succ, List.length_cons, List.length_nil, List.cons_append, List.nil_append, Nat.reduceAdd, Nat.reduceEqDiff, reduceCtorEq, Bool.not_true, Bool.not_false, Bool.true_and, Bool.and_true, Bool.false_and, Bool.and_false, Bool.or_true, Bool.true_or, Bool.or_false, Bool.false_or, Bool.false_eq_true, Bool.true_eq_false, int_n, bool_n, list_n, Sc.str_s, Int.reduceEq, Int.reduceLT, Int.reduceLE, Int.reduceNe, decide_true, decide_false, decide_not, eq_self, Classical.not_not, List.getElem?_cons_zero, List.getElem?_cons_succ, beq_self_eq_true, bne_self_eq_false]
end Go.Proofs.Ytpmplppkjedpiaa
