/-
  Course, both ways. 
-/
import Derived.Test.YtpmplppkjedpiaaM25f
namespace Go.Proofs.Ytpmplppkjedpiaa
set_option linter.unusedSimpArgs false
set_option linter.unusedVariables false

theorem sameInts_F (xs ys : List Int) (hx : xs.length ≤ 17592186044416) : k_simulatorref25_SameInts.F [.l (xs.map .i), .l (ys.map .i)] = some [.b (decide (xs = ys))] := by
  have e := equal_F xs ys hx
  rw [k_slices_Equal___int_int__F] at e
  rw [k_simulatorref25_SameInts_F]
  exact e
/-- The states that follow one another. -/
noncomputable def sqN (st : ByteArray) (u v : DD) (k p : Int) (m : Bool) : Nat → NT
  | 0 => ⟨0, k, p, m, 0⟩
  | i + 1 => nextT st u v (sqN st u v k p m i).k (sqN st u v k p m i).p (sqN st u v k p m i).m (sqN st u v k p m i).x (decide (i % 2 = 1))
noncomputable def timesN (st : ByteArray) (u v : DD) (k p : Int) (m : Bool) (i : Nat) : List Int := (List.range i).map fun j => (sqN st u v k p m (j + 1)).x
noncomputable def crsN (st : ByteArray) (u v : DD) (k p : Int) (m : Bool) (til : Int) : Nat → Nat → List Int × Int
  | f, i => if (sqN st u v k p m (i + 1)).e ≠ 0 then ([], (sqN st u v k p m (i + 1)).e) else if til < (sqN st u v k p m (i + 1)).x then (timesN st u v k p m i, 0) else
    match f with | 0 => ([], 6) | f + 1 => crsN st u v k p m til f (i + 1)
noncomputable def courseV (st : ByteArray) (u v : DD) (k p : Int) (m : Bool) (til : Int) : List Int × Int :=
  if rdyV st u v til ≠ 0 then ([], rdyV st u v til) else crsN st u v k p m til 1000 0
theorem crsN_0 {st : ByteArray} {u v : DD} {k p : Int} {m : Bool} {til : Int} {f i : Nat} (h : ¬ (sqN st u v k p m (i + 1)).e = 0) : crsN st u v k p m til f i = ([], (sqN st u v k p m (i + 1)).e) := by
  unfold crsN; rw [if_pos h]
theorem crsN_1 {st : ByteArray} {u v : DD} {k p : Int} {m : Bool} {til : Int} {f i : Nat} (h : (sqN st u v k p m (i + 1)).e = 0) (h2 : til < (sqN st u v k p m (i + 1)).x) : crsN st u v k p m til f i = (timesN st u v k p m i, 0) := by
  unfold crsN; rw [if_neg (fun c => c h), if_pos h2]
theorem crsN_2 {st : ByteArray} {u v : DD} {k p : Int} {m : Bool} {til : Int} {i : Nat} (h : (sqN st u v k p m (i + 1)).e = 0) (h2 : ¬ til < (sqN st u v k p m (i + 1)).x) : crsN st u v k p m til 0 i = ([], 6) := by
  unfold crsN; rw [if_neg (fun c => c h), if_neg h2]
theorem crsN_3 {st : ByteArray} {u v : DD} {k p : Int} {m : Bool} {til : Int} {f i : Nat} (h : (sqN st u v k p m (i + 1)).e = 0) (h2 : ¬ til < (sqN st u v k p m (i + 1)).x) : crsN st u v k p m til (f + 1) i = crsN st u v k p m til f (i + 1) := by
  conv => lhs; unfold crsN
  rw [if_neg (fun c => c h), if_neg h2]
theorem times_len (st : ByteArray) (u v : DD) (k p : Int) (m : Bool) (i : Nat) : (timesN st u v k p m i).length = i := by simp [timesN]
theorem times_succ (st : ByteArray) (u v : DD) (k p : Int) (m : Bool) (i : Nat) : timesN st u v k p m (i + 1) = timesN st u v k p m i ++ [(sqN st u v k p m (i + 1)).x] := by
  unfold timesN; rw [List.range_succ, List.map_append]; rfl
def outC (r : List Int × Int) : List Sc := [.l (r.1.map .i), .i r.2]
theorem even_b (i : Nat) : decide ((i + 1) % 2 = 1) = !(decide (i % 2 = 1)) := by
  rcases Nat.mod_two_eq_zero_or_one i with h | h
  · have : (i + 1) % 2 = 1 := by omega
    rw [this, h]; rfl
  · have : (i + 1) % 2 = 0 := by omega
    rw [this, h]; rfl
theorem course_F (x0 x1 x2 x3 : Sc) (st : ByteArray) (u v : DD) (k p : Int) (m : Bool) (til : Int) (hs : st.size ≤ 17592186044416) (hu : u.small) (hv : v.small) : k_fault_Course.F [x0, x1, x2, x3, .s st, .i u.op, .i u.a, .i u.b, .i u.n, .l (u.vs.map .i), .l (u.ws.map .i), .i v.op, .i v.a, .i v.b, .i v.n, .l (v.vs.map .i), .l (v.ws.map .i), .i k, .i p, .b m, .i til] = some (outC (courseV st u v k p m til)) := by
  have q := ready_F x0 x1 x2 x3 st u v til hs hu hv
  simp only [k_fault_Course_F, tk_fault_Course, k_fault_ready_f, k_fault_Next_f, q, Go.Proofs.Ytpmplppkjedpiaa.T.den, Ex.ev, U1.ev, U2.ev, U3.ev, gam, List.map, List.getD_cons_zero, List.getD_cons_succ, List.length, List.cons_append, List.nil_append, if_true, int_n, bool_n, list_n, Sc.str_s, Nat.reduceEqDiff, if_false, List.getElem?_cons_zero, List.getElem?_cons_succ]
  unfold courseV
  by_cases c : rdyV st u v til = 0
  rotate_left
  · rw [if_pos c]
    simp only [c, outC, List.map_nil, Int.natCast_nonneg, bne_iff_ne, beq_iff_eq, ne_eq, decide_eq_true_eq, Bool.and_eq_true, Bool.or_eq_true, Bool.not_eq_true', decide_eq_false_iff_not, beq_eq_false_iff_ne, bne_eq_false_iff_eq, not_true_eq_false, not_false_eq_true, if_true, if_false, reduceIte, and_true, true_and, and_false, false_and, or_false, false_or, or_true, true_or, List.getD_cons_zero, List.getD_cons_succ, List.length_cons, List.length_nil, List.cons_append, List.nil_append, Nat.reduceAdd, Nat.reduceEqDiff, reduceCtorEq, Bool.not_true, Bool.not_false, Bool.true_and, Bool.and_true, Bool.false_and, Bool.and_false, Bool.or_true, Bool.true_or, Bool.or_false, Bool.false_or, Bool.false_eq_true, Bool.true_eq_false, int_n, bool_n, list_n, Sc.str_s, Int.reduceEq, Int.reduceLT, Int.reduceLE, Int.reduceNe, decide_true, decide_false, decide_not, eq_self, Classical.not_not, List.getElem?_cons_zero, List.getElem?_cons_succ, beq_self_eq_true, bne_self_eq_false]
  rw [if_neg (fun h : rdyV st u v til ≠ 0 => h c)]
  simp only [c, Int.natCast_nonneg, bne_iff_ne, beq_iff_eq, ne_eq, decide_eq_true_eq, Bool.and_eq_true, Bool.or_eq_true, Bool.not_eq_true', decide_eq_false_iff_not, beq_eq_false_iff_ne, bne_eq_false_iff_eq, not_true_eq_false, not_false_eq_true, if_true, if_false, reduceIte, and_true, true_and, and_false, false_and, or_false, false_or, or_true, true_or, List.getD_cons_zero, List.getD_cons_succ, List.length_cons, List.length_nil, List.cons_append, List.nil_append, Nat.reduceAdd, Nat.reduceEqDiff, reduceCtorEq, Bool.not_true, Bool.not_false, Bool.true_and, Bool.and_true, Bool.false_and, Bool.and_false, Bool.or_true, Bool.true_or, Bool.or_false, Bool.false_or, Bool.false_eq_true, Bool.true_eq_false, int_n, bool_n, list_n, Sc.str_s, Int.reduceEq, Int.reduceLT, Int.reduceLE, Int.reduceNe, decide_true, decide_false, decide_not, eq_self, Classical.not_not, List.getElem?_cons_zero, List.getElem?_cons_succ, beq_self_eq_true, bne_self_eq_false]
  refine loop_from (S := Nat) (fun i => [.l ((timesN st u v k p m i).map .i), .i (sqN st u v k p m i).x, .b (decide (i % 2 = 1)), .i (sqN st u v k p m i).k, .i (sqN st u v k p m i).p, .b (sqN st u v k p m i).m]) (fun i => some (outC (crsN st u v k p m til (1000 - i) i))) (fun i => i ≤ 1000) (fun i => 1000 - i) 0 rfl rfl (by omega) (by omega) ?_
  intro i rec hi hrec
  have n := next_F x0 x1 x2 x3 st u v (sqN st u v k p m i).k (sqN st u v k p m i).p (sqN st u v k p m i).m (sqN st u v k p m i).x (decide (i % 2 = 1)) hs hu hv
  have e : nextT st u v (sqN st u v k p m i).k (sqN st u v k p m i).p (sqN st u v k p m i).m (sqN st u v k p m i).x (decide (i % 2 = 1)) = sqN st u v k p m (i + 1) := rfl
  rw [e] at n
  unfold NT.l at n
  by_cases c1 : (sqN st u v k p m (i + 1)).e = 0
  rotate_left
  · rw [crsN_0 c1]
    simp only [n, c1, outC, List.map_nil, Int.natCast_nonneg, bne_iff_ne, beq_iff_eq, ne_eq, decide_eq_true_eq, Bool.and_eq_true, Bool.or_eq_true, Bool.not_eq_true', decide_eq_false_iff_not, beq_eq_false_iff_ne, bne_eq_false_iff_eq, not_true_eq_false, not_false_eq_true, if_true, if_false, reduceIte, and_true, true_and, and_false, false_and, or_false, false_or, or_true, true_or, List.getD_cons_zero, List.getD_cons_succ, List.length_cons, List.length_nil, List.cons_append, List.nil_append, Nat.reduceAdd, Nat.reduceEqDiff, reduceCtorEq, Bool.not_true, Bool.not_false, Bool.true_and, Bool.and_true, Bool.false_and, Bool.and_false, Bool.or_true, Bool.true_or, Bool.or_false, Bool.false_or, Bool.false_eq_true, Bool.true_eq_false, int_n, bool_n, list_n, Sc.str_s, Int.reduceEq, Int.reduceLT, Int.reduceLE, Int.reduceNe, decide_true, decide_false, decide_not, eq_self, Classical.not_not, List.getElem?_cons_zero, List.getElem?_cons_succ, beq_self_eq_true, bne_self_eq_false]
  by_cases c2 : til < (sqN st u v k p m (i + 1)).x
  · rw [crsN_1 c1 c2]
    simp only [n, c1, c2, outC, Int.natCast_nonneg, bne_iff_ne, beq_iff_eq, ne_eq, decide_eq_true_eq, Bool.and_eq_true, Bool.or_eq_true, Bool.not_eq_true', decide_eq_false_iff_not, beq_eq_false_iff_ne, bne_eq_false_iff_eq, not_true_eq_false, not_false_eq_true, if_true, if_false, reduceIte, and_true, true_and, and_false, false_and, or_false, false_or, or_true, true_or, List.getD_cons_zero, List.getD_cons_succ, List.length_cons, List.length_nil, List.cons_append, List.nil_append, Nat.reduceAdd, Nat.reduceEqDiff, reduceCtorEq, Bool.not_true, Bool.not_false, Bool.true_and, Bool.and_true, Bool.false_and, Bool.and_false, Bool.or_true, Bool.true_or, Bool.or_false, Bool.false_or, Bool.false_eq_true, Bool.true_eq_false, int_n, bool_n, list_n, Sc.str_s, Int.reduceEq, Int.reduceLT, Int.reduceLE, Int.reduceNe, decide_true, decide_false, decide_not, eq_self, Classical.not_not, List.getElem?_cons_zero, List.getElem?_cons_succ, beq_self_eq_true, bne_self_eq_false]
  have lt : (((timesN st u v k p m i).map Sc.i).length : Int) = i := by rw [List.length_map, times_len]
  by_cases c3 : i = 1000
  · rw [show 1000 - i = 0 by omega, crsN_2 c1 c2]
    have l2 : (((timesN st u v k p m i).map Sc.i).length : Int) = 1000 := by rw [lt]; omega
    simp only [n, c1, c2, l2, outC, List.map_nil, Int.natCast_nonneg, bne_iff_ne, beq_iff_eq, ne_eq, decide_eq_true_eq, Bool.and_eq_true, Bool.or_eq_true, Bool.not_eq_true', decide_eq_false_iff_not, beq_eq_false_iff_ne, bne_eq_false_iff_eq, not_true_eq_false, not_false_eq_true, if_true, if_false, reduceIte, and_true, true_and, and_false, false_and, or_false, false_or, or_true, true_or, List.getD_cons_zero, List.getD_cons_succ, List.length_cons, List.length_nil, List.cons_append, List.nil_append, Nat.reduceAdd, Nat.reduceEqDiff, reduceCtorEq, Bool.not_true, Bool.not_false, Bool.true_and, Bool.and_true, Bool.false_and, Bool.and_false, Bool.or_true, Bool.true_or, Bool.or_false, Bool.false_or, Bool.false_eq_true, Bool.true_eq_false, int_n, bool_n, list_n, Sc.str_s, Int.reduceEq, Int.reduceLT, Int.reduceLE, Int.reduceNe, decide_true, decide_false, decide_not, eq_self, Classical.not_not, List.getElem?_cons_zero, List.getElem?_cons_succ, beq_self_eq_true, bne_self_eq_false]
  · have c3' : ¬ (i : Int) = 1000 := by omega
    have hr := hrec (i + 1) (by omega) (by omega)
    rw [show 1000 - i = (1000 - (i + 1)) + 1 by omega, crsN_3 c1 c2]
    rw [even_b, times_succ, List.map_append] at hr
    simp only [List.map_cons, List.map_nil] at hr
    have k4 : ((i + 1 : Nat) : Int) ≤ 17592186044416 := by omega
    have l2 : ¬ (((timesN st u v k p m i).map Sc.i).length : Int) = 1000 := by rw [lt]; exact c3'
    simp only [n, c1, c2, l2, Int.natCast_nonneg, bne_iff_ne, beq_iff_eq, ne_eq, decide_eq_true_eq, Bool.and_eq_true, Bool.or_eq_true, Bool.not_eq_true', decide_eq_false_iff_not, beq_eq_false_iff_ne, bne_eq_false_iff_eq, not_true_eq_false, not_false_eq_true, if_true, if_false, reduceIte, and_true, true_and, and_false, false_and, or_false, false_or, or_true, true_or, List.getD_cons_zero, List.getD_cons_succ, List.length_cons, List.length_nil, List.cons_append, List.nil_append, Nat.reduceAdd, Nat.reduceEqDiff, reduceCtorEq, Bool.not_true, Bool.not_false, Bool.true_and, Bool.and_true, Bool.false_and, Bool.and_false, Bool.or_true, Bool.true_or, Bool.or_false, Bool.false_or, Bool.false_eq_true, Bool.true_eq_false, int_n, bool_n, list_n, Sc.str_s, Int.reduceEq, Int.reduceLT, Int.reduceLE, Int.reduceNe, decide_true, decide_false, decide_not, eq_self, Classical.not_not, List.getElem?_cons_zero, List.getElem?_cons_succ, beq_self_eq_true, bne_self_eq_false]
    simp only [List.length_append, List.length_map, times_len]
    simp only [k4, hr, Int.natCast_nonneg, bne_iff_ne, beq_iff_eq, ne_eq, decide_eq_true_eq, Bool.and_eq_true, Bool.or_eq_true, Bool.not_eq_true', decide_eq_false_iff_not, beq_eq_false_iff_ne, bne_eq_false_iff_eq, not_true_eq_false, not_false_eq_true, if_true, if_false, reduceIte, and_true, true_and, and_false, false_and, or_false, false_or, or_true, true_or, List.getD_cons_zero, List.getD_cons_succ, List.length_cons, List.length_nil, List.cons_append, List.nil_append, Nat.reduceAdd, Nat.reduceEqDiff, reduceCtorEq, Bool.not_true, Bool.not_false, Bool.true_and, Bool.and_true, Bool.false_and, Bool.and_false, Bool.or_true, Bool.true_or, Bool.or_false, Bool.false_or, Bool.false_eq_true, Bool.true_eq_false, int_n, bool_n, list_n, Sc.str_s, Int.reduceEq, Int.reduceLT, Int.reduceLE, Int.reduceNe, decide_true, decide_false, decide_not, eq_self, Classical.not_not, List.getElem?_cons_zero, List.getElem?_cons_succ, beq_self_eq_true, bne_self_eq_false]
theorem rcourse_F (x0 x1 x2 x3 : Sc) (st : ByteArray) (u v : DD) (k p : Int) (m : Bool) (til : Int) (hs : st.size ≤ 17592186044416) (hu : u.small) (hv : v.small) : k_simulatorref25_Course.F [x0, x1, x2, x3, .s st, .i u.op, .i u.a, .i u.b, .i u.n, .l (u.vs.map .i), .l (u.ws.map .i), .i v.op, .i v.a, .i v.b, .i v.n, .l (v.vs.map .i), .l (v.ws.map .i), .i k, .i p, .b m, .i til] = some (outC (courseV st u v k p m til)) := by
  have q := begun_F x0 x1 x2 x3 st u v hs hu hv
  simp only [k_simulatorref25_Course_F, tk_simulatorref25_Course, k_simulatorref25_begun_f, k_simulatorref25_Next_f, q, Go.Proofs.Ytpmplppkjedpiaa.T.den, Ex.ev, U1.ev, U2.ev, U3.ev, gam, List.map, List.getD_cons_zero, List.getD_cons_succ, List.length, List.cons_append, List.nil_append, if_true, int_n, bool_n, list_n, Sc.str_s, Nat.reduceEqDiff, if_false, List.getElem?_cons_zero, List.getElem?_cons_succ]
  unfold courseV rdyV
  by_cases c : begV st u v = 0
  rotate_left
  · rw [if_pos c]
    simp only [c, outC, List.map_nil, Int.natCast_nonneg, bne_iff_ne, beq_iff_eq, ne_eq, decide_eq_true_eq, Bool.and_eq_true, Bool.or_eq_true, Bool.not_eq_true', decide_eq_false_iff_not, beq_eq_false_iff_ne, bne_eq_false_iff_eq, not_true_eq_false, not_false_eq_true, if_true, if_false, reduceIte, and_true, true_and, and_false, false_and, or_false, false_or, or_true, true_or, List.getD_cons_zero, List.getD_cons_succ, List.length_cons, List.length_nil, List.cons_append, List.nil_append, Nat.reduceAdd, Nat.reduceEqDiff, reduceCtorEq, Bool.not_true, Bool.not_false, Bool.true_and, Bool.and_true, Bool.false_and, Bool.and_false, Bool.or_true, Bool.true_or, Bool.or_false, Bool.false_or, Bool.false_eq_true, Bool.true_eq_false, int_n, bool_n, list_n, Sc.str_s, Int.reduceEq, Int.reduceLT, Int.reduceLE, Int.reduceNe, decide_true, decide_false, decide_not, eq_self, Classical.not_not, List.getElem?_cons_zero, List.getElem?_cons_succ, beq_self_eq_true, bne_self_eq_false]
  rw [if_neg (fun h : begV st u v ≠ 0 => h c)]
  by_cases t1 : til < 0
  · simp only [c, t1, outC, List.map_nil, Int.natCast_nonneg, bne_iff_ne, beq_iff_eq, ne_eq, decide_eq_true_eq, Bool.and_eq_true, Bool.or_eq_true, Bool.not_eq_true', decide_eq_false_iff_not, beq_eq_false_iff_ne, bne_eq_false_iff_eq, not_true_eq_false, not_false_eq_true, if_true, if_false, reduceIte, and_true, true_and, and_false, false_and, or_false, false_or, or_true, true_or, List.getD_cons_zero, List.getD_cons_succ, List.length_cons, List.length_nil, List.cons_append, List.nil_append, Nat.reduceAdd, Nat.reduceEqDiff, reduceCtorEq, Bool.not_true, Bool.not_false, Bool.true_and, Bool.and_true, Bool.false_and, Bool.and_false, Bool.or_true, Bool.true_or, Bool.or_false, Bool.false_or, Bool.false_eq_true, Bool.true_eq_false, int_n, bool_n, list_n, Sc.str_s, Int.reduceEq, Int.reduceLT, Int.reduceLE, Int.reduceNe, decide_true, decide_false, decide_not, eq_self, Classical.not_not, List.getElem?_cons_zero, List.getElem?_cons_succ, beq_self_eq_true, bne_self_eq_false]
  by_cases t2 : 1000000000 < til
  · simp only [c, t1, t2, outC, List.map_nil, Int.natCast_nonneg, bne_iff_ne, beq_iff_eq, ne_eq, decide_eq_true_eq, Bool.and_eq_true, Bool.or_eq_true, Bool.not_eq_true', decide_eq_false_iff_not, beq_eq_false_iff_ne, bne_eq_false_iff_eq, not_true_eq_false, not_false_eq_true, if_true, if_false, reduceIte, and_true, true_and, and_false, false_and, or_false, false_or, or_true, true_or, List.getD_cons_zero, List.getD_cons_succ, List.length_cons, List.length_nil, List.cons_append, List.nil_append, Nat.reduceAdd, Nat.reduceEqDiff, reduceCtorEq, Bool.not_true, Bool.not_false, Bool.true_and, Bool.and_true, Bool.false_and, Bool.and_false, Bool.or_true, Bool.true_or, Bool.or_false, Bool.false_or, Bool.false_eq_true, Bool.true_eq_false, int_n, bool_n, list_n, Sc.str_s, Int.reduceEq, Int.reduceLT, Int.reduceLE, Int.reduceNe, decide_true, decide_false, decide_not, eq_self, Classical.not_not, List.getElem?_cons_zero, List.getElem?_cons_succ, beq_self_eq_true, bne_self_eq_false]
  simp only [c, t1, t2, Int.natCast_nonneg, bne_iff_ne, beq_iff_eq, ne_eq, decide_eq_true_eq, Bool.and_eq_true, Bool.or_eq_true, Bool.not_eq_true', decide_eq_false_iff_not, beq_eq_false_iff_ne, bne_eq_false_iff_eq, not_true_eq_false, not_false_eq_true, if_true, if_false, reduceIte, and_true, true_and, and_false, false_and, or_false, false_or, or_true, true_or, List.getD_cons_zero, List.getD_cons_succ, List.length_cons, List.length_nil, List.cons_append, List.nil_append, Nat.reduceAdd, Nat.reduceEqDiff, reduceCtorEq, Bool.not_true, Bool.not_false, Bool.true_and, Bool.and_true, Bool.false_and, Bool.and_false, Bool.or_true, Bool.true_or, Bool.or_false, Bool.false_or, Bool.false_eq_true, Bool.true_eq_false, int_n, bool_n, list_n, Sc.str_s, Int.reduceEq, Int.reduceLT, Int.reduceLE, Int.reduceNe, decide_true, decide_false, decide_not, eq_self, Classical.not_not, List.getElem?_cons_zero, List.getElem?_cons_succ, beq_self_eq_true, bne_self_eq_false]
  refine loop_from (S := Nat) (fun i => [.l ((timesN st u v k p m i).map .i), .i (sqN st u v k p m i).x, .i (i : Int), .i (sqN st u v k p m i).k, .i (sqN st u v k p m i).p, .b (sqN st u v k p m i).m]) (fun i => some (if i = 1001 then [.l [], .i 6] else outC (crsN st u v k p m til (1000 - i) i))) (fun i => i ≤ 1001) (fun i => 1001 - i) 0 rfl rfl (by omega) (by omega) ?_
  intro i rec hi hrec
  by_cases c0 : i = 1001
  · rw [if_pos c0]
    have c0' : ¬ (i : Int) ≤ 1000 := by omega
    simp only [c0', Int.natCast_nonneg, bne_iff_ne, beq_iff_eq, ne_eq, decide_eq_true_eq, Bool.and_eq_true, Bool.or_eq_true, Bool.not_eq_true', decide_eq_false_iff_not, beq_eq_false_iff_ne, bne_eq_false_iff_eq, not_true_eq_false, not_false_eq_true, if_true, if_false, reduceIte, and_true, true_and, and_false, false_and, or_false, false_or, or_true, true_or, List.getD_cons_zero, List.getD_cons_succ, List.length_cons, List.length_nil, List.cons_append, List.nil_append, Nat.reduceAdd, Nat.reduceEqDiff, reduceCtorEq, Bool.not_true, Bool.not_false, Bool.true_and, Bool.and_true, Bool.false_and, Bool.and_false, Bool.or_true, Bool.true_or, Bool.or_false, Bool.false_or, Bool.false_eq_true, Bool.true_eq_false, int_n, bool_n, list_n, Sc.str_s, Int.reduceEq, Int.reduceLT, Int.reduceLE, Int.reduceNe, decide_true, decide_false, decide_not, eq_self, Classical.not_not, List.getElem?_cons_zero, List.getElem?_cons_succ, beq_self_eq_true, bne_self_eq_false]
  rw [if_neg c0]
  have c0' : (i : Int) ≤ 1000 := by omega
  have n := refnext_F x0 x1 x2 x3 st u v (sqN st u v k p m i).k (sqN st u v k p m i).p (sqN st u v k p m i).m (sqN st u v k p m i).x (decide (i % 2 = 1)) hs hu hv
  have e : nextT st u v (sqN st u v k p m i).k (sqN st u v k p m i).p (sqN st u v k p m i).m (sqN st u v k p m i).x (decide (i % 2 = 1)) = sqN st u v k p m (i + 1) := rfl
  rw [e] at n
  unfold NT.l at n
  have em : (Int.tmod (i : Int) 2 == 1) = decide (i % 2 = 1) := by
    rw [show Int.tmod (i : Int) 2 = ((i % 2 : Nat) : Int) from rfl]
    rcases Nat.mod_two_eq_zero_or_one i with h | h <;> rw [h] <;> rfl
  have hs1 := succ_w (k := i) (n := 1001) (by omega) (by omega)
  by_cases c1 : (sqN st u v k p m (i + 1)).e = 0
  rotate_left
  · rw [crsN_0 c1]
    simp only [c0', em, n, c1, outC, List.map_nil, Int.natCast_nonneg, bne_iff_ne, beq_iff_eq, ne_eq, decide_eq_true_eq, Bool.and_eq_true, Bool.or_eq_true, Bool.not_eq_true', decide_eq_false_iff_not, beq_eq_false_iff_ne, bne_eq_false_iff_eq, not_true_eq_false, not_false_eq_true, if_true, if_false, reduceIte, and_true, true_and, and_false, false_and, or_false, false_or, or_true, true_or, List.getD_cons_zero, List.getD_cons_succ, List.length_cons, List.length_nil, List.cons_append, List.nil_append, Nat.reduceAdd, Nat.reduceEqDiff, reduceCtorEq, Bool.not_true, Bool.not_false, Bool.true_and, Bool.and_true, Bool.false_and, Bool.and_false, Bool.or_true, Bool.true_or, Bool.or_false, Bool.false_or, Bool.false_eq_true, Bool.true_eq_false, int_n, bool_n, list_n, Sc.str_s, Int.reduceEq, Int.reduceLT, Int.reduceLE, Int.reduceNe, decide_true, decide_false, decide_not, eq_self, Classical.not_not, List.getElem?_cons_zero, List.getElem?_cons_succ, beq_self_eq_true, bne_self_eq_false]
  by_cases c2 : til < (sqN st u v k p m (i + 1)).x
  · rw [crsN_1 c1 c2]
    simp only [c0', em, n, c1, c2, outC, Int.natCast_nonneg, bne_iff_ne, beq_iff_eq, ne_eq, decide_eq_true_eq, Bool.and_eq_true, Bool.or_eq_true, Bool.not_eq_true', decide_eq_false_iff_not, beq_eq_false_iff_ne, bne_eq_false_iff_eq, not_true_eq_false, not_false_eq_true, if_true, if_false, reduceIte, and_true, true_and, and_false, false_and, or_false, false_or, or_true, true_or, List.getD_cons_zero, List.getD_cons_succ, List.length_cons, List.length_nil, List.cons_append, List.nil_append, Nat.reduceAdd, Nat.reduceEqDiff, reduceCtorEq, Bool.not_true, Bool.not_false, Bool.true_and, Bool.and_true, Bool.false_and, Bool.and_false, Bool.or_true, Bool.true_or, Bool.or_false, Bool.false_or, Bool.false_eq_true, Bool.true_eq_false, int_n, bool_n, list_n, Sc.str_s, Int.reduceEq, Int.reduceLT, Int.reduceLE, Int.reduceNe, decide_true, decide_false, decide_not, eq_self, Classical.not_not, List.getElem?_cons_zero, List.getElem?_cons_succ, beq_self_eq_true, bne_self_eq_false]
  have hr := hrec (i + 1) (by omega) (by omega)
  rw [times_succ, List.map_append] at hr
  simp only [List.map_cons, List.map_nil] at hr
  have k4 : ((i + 1 : Nat) : Int) ≤ 17592186044416 := by omega
  by_cases c3 : i = 1000
  · rw [show 1000 - i = 0 by omega, crsN_2 c1 c2]
    rw [if_pos (by omega)] at hr
    simp only [c0', em, n, c1, c2, hs1, outC, List.map_nil, Int.natCast_nonneg, bne_iff_ne, beq_iff_eq, ne_eq, decide_eq_true_eq, Bool.and_eq_true, Bool.or_eq_true, Bool.not_eq_true', decide_eq_false_iff_not, beq_eq_false_iff_ne, bne_eq_false_iff_eq, not_true_eq_false, not_false_eq_true, if_true, if_false, reduceIte, and_true, true_and, and_false, false_and, or_false, false_or, or_true, true_or, List.getD_cons_zero, List.getD_cons_succ, List.length_cons, List.length_nil, List.cons_append, List.nil_append, Nat.reduceAdd, Nat.reduceEqDiff, reduceCtorEq, Bool.not_true, Bool.not_false, Bool.true_and, Bool.and_true, Bool.false_and, Bool.and_false, Bool.or_true, Bool.true_or, Bool.or_false, Bool.false_or, Bool.false_eq_true, Bool.true_eq_false, int_n, bool_n, list_n, Sc.str_s, Int.reduceEq, Int.reduceLT, Int.reduceLE, Int.reduceNe, decide_true, decide_false, decide_not, eq_self, Classical.not_not, List.getElem?_cons_zero, List.getElem?_cons_succ, beq_self_eq_true, bne_self_eq_false]
    simp only [List.length_append, List.length_map, times_len]
    simp only [k4, hr, Int.natCast_nonneg, bne_iff_ne, beq_iff_eq, ne_eq, decide_eq_true_eq, Bool.and_eq_true, Bool.or_eq_true, Bool.not_eq_true', decide_eq_false_iff_not, beq_eq_false_iff_ne, bne_eq_false_iff_eq, not_true_eq_false, not_false_eq_true, if_true, if_false, reduceIte, and_true, true_and, and_false, false_and, or_false, false_or, or_true, true_or, List.getD_cons_zero, List.getD_cons_succ, List.length_cons, List.length_nil, List.cons_append, List.nil_append, Nat.reduceAdd, Nat.reduceEqDiff, reduceCtorEq, Bool.not_true, Bool.not_false, Bool.true_and, Bool.and_true, Bool.false_and, Bool.and_false, Bool.or_true, Bool.true_or, Bool.or_false, Bool.false_or, Bool.false_eq_true, Bool.true_eq_false, int_n, bool_n, list_n, Sc.str_s, Int.reduceEq, Int.reduceLT, Int.reduceLE, Int.reduceNe, decide_true, decide_false, decide_not, eq_self, Classical.not_not, List.getElem?_cons_zero, List.getElem?_cons_succ, beq_self_eq_true, bne_self_eq_false]
  · rw [show 1000 - i = (1000 - (i + 1)) + 1 by omega, crsN_3 c1 c2]
    rw [if_neg (by omega)] at hr
    simp only [c0', em, n, c1, c2, hs1, Int.natCast_nonneg, bne_iff_ne, beq_iff_eq, ne_eq, decide_eq_true_eq, Bool.and_eq_true, Bool.or_eq_true, Bool.not_eq_true', decide_eq_false_iff_not, beq_eq_false_iff_ne, bne_eq_false_iff_eq, not_true_eq_false, not_false_eq_true, if_true, if_false, reduceIte, and_true, true_and, and_false, false_and, or_false, false_or, or_true, true_or, List.getD_cons_zero, List.getD_cons_succ, List.length_cons, List.length_nil, List.cons_append, List.nil_append, Nat.reduceAdd, Nat.reduceEqDiff, reduceCtorEq, Bool.not_true, Bool.not_false, Bool.true_and, Bool.and_true, Bool.false_and, Bool.and_false, Bool.or_true, Bool.true_or, Bool.or_false, Bool.false_or, Bool.false_eq_true, Bool.true_eq_false, int_n, bool_n, list_n, Sc.str_s, Int.reduceEq, Int.reduceLT, Int.reduceLE, Int.reduceNe, decide_true, decide_false, decide_not, eq_self, Classical.not_not, List.getElem?_cons_zero, List.getElem?_cons_succ, beq_self_eq_true, bne_self_eq_false]
    simp only [List.length_append, List.length_map, times_len]
    simp only [k4, hr, Int.natCast_nonneg, bne_iff_ne, beq_iff_eq, ne_eq, decide_eq_true_eq, Bool.and_eq_true, Bool.or_eq_true, Bool.not_eq_true', decide_eq_false_iff_not, beq_eq_false_iff_ne, bne_eq_false_iff_eq, not_true_eq_false, not_false_eq_true, if_true, if_false, reduceIte, and_true, true_and, and_false, false_and, or_false, false_or, or_true, true_or, List.getD_cons_zero, List.getD_cons_succ, List.length_cons, List.length_nil, List.cons_append, List.nil_append, Nat.reduceAdd, Nat.reduceEqDiff, reduceCtorEq, Bool.not_true, Bool.not_false, Bool.true_and, Bool.and_true, Bool.false_and, Bool.and_false, Bool.or_true, Bool.true_or, Bool.or_false, Bool.false_or, Bool.false_eq_true, Bool.true_eq_false, int_n, bool_n, list_n, Sc.str_s, Int.reduceEq, Int.reduceLT, Int.reduceLE, Int.reduceNe, decide_true, decide_false, decide_not, eq_self, Classical.not_not, List.getElem?_cons_zero, List.getElem?_cons_succ, beq_self_eq_true, bne_self_eq_false]
end Go.Proofs.Ytpmplppkjedpiaa
