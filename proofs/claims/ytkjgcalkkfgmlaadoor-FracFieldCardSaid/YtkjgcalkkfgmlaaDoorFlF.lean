/-
  Fractions that may fail, and lists of them: what frac's functions and the reference's return.
-/
import Derived.Test.YtkjgcalkkfgmlaaDoorFlA
import Derived.Test.YtkjgcalkkfgmlaaDoorFrM
import Derived.Test.YtkjgcalkkfgmlaaDoorRfM
namespace Go.Proofs.YtkjgcalkkfgmlaaDoor
set_option linter.unusedSimpArgs false

def FP (p : Int × Int) : Prop := I64' p.1 ∧ I64' p.2
theorem FP_pr {q : Rat} (h : fitQ q = true) : FP (pr q) := fit_i64 h
theorem fadd_O {p q : Int × Int} (hp : FP p) (hq : FP q) : k_frac_Add.F [.i p.1, .i p.2, .i q.1, .i q.2] = some (enc (addO (valP p) (valP q))) := by
  have h := fsum_F false p.1 p.2 q.1 q.2 hp.1 hp.2 hq.1 hq.2
  rw [if_neg (by simp), addQ_O] at h
  obtain ⟨x, y, z, e⟩ := enc_form (addO (valP p) (valP q))
  rw [e] at h ⊢
  simp only [k_frac_Add_F, tk_frac_Add, k_frac_sum_f, h, Go.Proofs.YtkjgcalkkfgmlaaDoor.T.den, Ex.ev, U1.ev, U2.ev, U3.ev, gam, List.map, List.getD_cons_zero, List.getD_cons_succ, List.length, List.cons_append, List.nil_append, if_true, Sc.int_i, Sc.bool_b, Sc.list_l, Sc.str_s, Nat.reduceEqDiff, if_false, List.getElem?_cons_zero, List.getElem?_cons_succ]
theorem radd_O {p q : Int × Int} (hp : FP p) (hq : FP q) : k_simulatorref02_Add.F [.i p.1, .i p.2, .i q.1, .i q.2] = some (enc (addO (valP p) (valP q))) := by
  rw [rAdd_F p.1 p.2 q.1 q.2 hp.1 hp.2 hq.1 hq.2, addQ_O]
theorem fsub_O {p q : Int × Int} (hp : FP p) (hq : FP q) : k_frac_Sub.F [.i p.1, .i p.2, .i q.1, .i q.2] = some (enc (subO (valP p) (valP q))) := by
  rw [sub_F p.1 p.2 q.1 q.2 hp.1 hp.2 hq.1 hq.2, subQ_O]
theorem rsub_O {p q : Int × Int} (hp : FP p) (hq : FP q) : k_simulatorref02_Sub.F [.i p.1, .i p.2, .i q.1, .i q.2] = some (enc (subO (valP p) (valP q))) := by
  rw [rSub_F p.1 p.2 q.1 q.2 hp.1 hp.2 hq.1 hq.2, subQ_O]
theorem fmul_O {p q : Int × Int} (hp : FP p) (hq : FP q) : k_frac_Mul.F [.i p.1, .i p.2, .i q.1, .i q.2] = some (enc (mulO (valP p) (valP q))) := by
  rw [mul_F p.1 p.2 q.1 q.2 hp.1 hp.2 hq.1 hq.2, mulQ_O]
theorem rmul_O {p q : Int × Int} (hp : FP p) (hq : FP q) : k_simulatorref02_Mul.F [.i p.1, .i p.2, .i q.1, .i q.2] = some (enc (mulO (valP p) (valP q))) := by
  rw [rMul_F p.1 p.2 q.1 q.2 hp.1 hp.2 hq.1 hq.2, mulQ_O]
theorem fdiv_O {p q : Int × Int} (hp : FP p) (hq : FP q) : k_frac_Div.F [.i p.1, .i p.2, .i q.1, .i q.2] = some (enc (divO (valP p) (valP q))) := by
  rw [div_F p.1 p.2 q.1 q.2 hp.1 hp.2 hq.1 hq.2, divQ_O]
theorem rdiv_O {p q : Int × Int} (hp : FP p) (hq : FP q) : k_simulatorref02_Div.F [.i p.1, .i p.2, .i q.1, .i q.2] = some (enc (divO (valP p) (valP q))) := by
  rw [rDiv_F p.1 p.2 q.1 q.2 hp.1 hp.2 hq.1 hq.2, divQ_O]
theorem fsum_O (ps : List (Int × Int)) (hps : ∀ p ∈ ps, FP p) (hl : ps.length ≤ 17592186044416) : k_frac_Sum.F [.l (ps.map pt)] = some (enc (sumO 0 ps)) := by
  simp only [k_frac_Sum_F, tk_frac_Sum, k_frac_Add_f, List.length_map, Go.Proofs.YtkjgcalkkfgmlaaDoor.T.den, Ex.ev, U1.ev, U2.ev, U3.ev, gam, List.map, List.getD_cons_zero, List.getD_cons_succ, List.length, List.cons_append, List.nil_append, if_true, Sc.int_i, Sc.bool_b, Sc.list_l, Sc.str_s, Nat.reduceEqDiff, if_false, List.getElem?_cons_zero, List.getElem?_cons_succ]
  refine fsum_loop ps (by omega) ?_ ?_ ?_
  · intro k rec q h hq r e
    have hi := idx_map pt ps k h
    have hk : (k : Int) < ps.length := by omega
    have hw := succ_w (n := ps.length) h (by omega)
    have a := fadd_O (FP_pr hq) (hps _ (List.getElem_mem h))
    rw [valP_pr hq, e] at a
    simp only [enc, pr] at a
    simp only [hi, hk, hw, pt, a, Int.natCast_nonneg, bne_iff_ne, beq_iff_eq, ne_eq, decide_eq_true_eq, Bool.and_eq_true, Bool.or_eq_true, Bool.not_eq_true', decide_eq_false_iff_not, beq_eq_false_iff_ne, bne_eq_false_iff_eq, not_true_eq_false, not_false_eq_true, if_true, if_false, reduceIte, and_true, true_and, and_false, false_and, or_false, false_or, or_true, true_or, List.getD_cons_zero, List.getD_cons_succ, List.length_cons, List.length_nil, List.cons_append, List.nil_append, Nat.reduceAdd, Nat.reduceEqDiff, reduceCtorEq, Bool.not_true, Bool.not_false, Bool.true_and, Bool.and_true, Bool.false_and, Bool.and_false, Bool.or_true, Bool.true_or, Bool.or_false, Bool.false_or, Bool.false_eq_true, Bool.true_eq_false, Sc.int_i, Sc.bool_b, Sc.list_l, Sc.str_s, Int.reduceEq, Int.reduceLT, Int.reduceLE, Int.reduceNe, decide_true, decide_false, decide_not, eq_self, Classical.not_not, List.getElem?_cons_zero, List.getElem?_cons_succ, beq_self_eq_true, bne_self_eq_false]
  · intro k rec q h hq e
    have hi := idx_map pt ps k h
    have hk : (k : Int) < ps.length := by omega
    have a := fadd_O (FP_pr hq) (hps _ (List.getElem_mem h))
    rw [valP_pr hq, e] at a
    simp only [enc, pr] at a
    simp only [hi, hk, pt, a, enc_some, enc_none, Int.natCast_nonneg, bne_iff_ne, beq_iff_eq, ne_eq, decide_eq_true_eq, Bool.and_eq_true, Bool.or_eq_true, Bool.not_eq_true', decide_eq_false_iff_not, beq_eq_false_iff_ne, bne_eq_false_iff_eq, not_true_eq_false, not_false_eq_true, if_true, if_false, reduceIte, and_true, true_and, and_false, false_and, or_false, false_or, or_true, true_or, List.getD_cons_zero, List.getD_cons_succ, List.length_cons, List.length_nil, List.cons_append, List.nil_append, Nat.reduceAdd, Nat.reduceEqDiff, reduceCtorEq, Bool.not_true, Bool.not_false, Bool.true_and, Bool.and_true, Bool.false_and, Bool.and_false, Bool.or_true, Bool.true_or, Bool.or_false, Bool.false_or, Bool.false_eq_true, Bool.true_eq_false, Sc.int_i, Sc.bool_b, Sc.list_l, Sc.str_s, Int.reduceEq, Int.reduceLT, Int.reduceLE, Int.reduceNe, decide_true, decide_false, decide_not, eq_self, Classical.not_not, List.getElem?_cons_zero, List.getElem?_cons_succ, beq_self_eq_true, bne_self_eq_false]
  · intro rec q
    simp only [Int.lt_irrefl, enc_some, enc_none, Int.natCast_nonneg, bne_iff_ne, beq_iff_eq, ne_eq, decide_eq_true_eq, Bool.and_eq_true, Bool.or_eq_true, Bool.not_eq_true', decide_eq_false_iff_not, beq_eq_false_iff_ne, bne_eq_false_iff_eq, not_true_eq_false, not_false_eq_true, if_true, if_false, reduceIte, and_true, true_and, and_false, false_and, or_false, false_or, or_true, true_or, List.getD_cons_zero, List.getD_cons_succ, List.length_cons, List.length_nil, List.cons_append, List.nil_append, Nat.reduceAdd, Nat.reduceEqDiff, reduceCtorEq, Bool.not_true, Bool.not_false, Bool.true_and, Bool.and_true, Bool.false_and, Bool.and_false, Bool.or_true, Bool.true_or, Bool.or_false, Bool.false_or, Bool.false_eq_true, Bool.true_eq_false, Sc.int_i, Sc.bool_b, Sc.list_l, Sc.str_s, Int.reduceEq, Int.reduceLT, Int.reduceLE, Int.reduceNe, decide_true, decide_false, decide_not, eq_self, Classical.not_not, List.getElem?_cons_zero, List.getElem?_cons_succ, beq_self_eq_true, bne_self_eq_false]
theorem rsum_O (ps : List (Int × Int)) (hps : ∀ p ∈ ps, FP p) (hl : ps.length ≤ 17592186044416) : k_simulatorref02_Sum.F [.l (ps.map pt)] = some (enc (sumO 0 ps)) := by
  simp only [k_simulatorref02_Sum_F, tk_simulatorref02_Sum, k_simulatorref02_Add_f, List.length_map, Go.Proofs.YtkjgcalkkfgmlaaDoor.T.den, Ex.ev, U1.ev, U2.ev, U3.ev, gam, List.map, List.getD_cons_zero, List.getD_cons_succ, List.length, List.cons_append, List.nil_append, if_true, Sc.int_i, Sc.bool_b, Sc.list_l, Sc.str_s, Nat.reduceEqDiff, if_false, List.getElem?_cons_zero, List.getElem?_cons_succ]
  refine fsum_loop ps (by omega) ?_ ?_ ?_
  · intro k rec q h hq r e
    have hi := idx_map pt ps k h
    have hk : (k : Int) < ps.length := by omega
    have hw := succ_w (n := ps.length) h (by omega)
    have a := radd_O (FP_pr hq) (hps _ (List.getElem_mem h))
    rw [valP_pr hq, e] at a
    simp only [enc, pr] at a
    simp only [hi, hk, hw, pt, a, Int.natCast_nonneg, bne_iff_ne, beq_iff_eq, ne_eq, decide_eq_true_eq, Bool.and_eq_true, Bool.or_eq_true, Bool.not_eq_true', decide_eq_false_iff_not, beq_eq_false_iff_ne, bne_eq_false_iff_eq, not_true_eq_false, not_false_eq_true, if_true, if_false, reduceIte, and_true, true_and, and_false, false_and, or_false, false_or, or_true, true_or, List.getD_cons_zero, List.getD_cons_succ, List.length_cons, List.length_nil, List.cons_append, List.nil_append, Nat.reduceAdd, Nat.reduceEqDiff, reduceCtorEq, Bool.not_true, Bool.not_false, Bool.true_and, Bool.and_true, Bool.false_and, Bool.and_false, Bool.or_true, Bool.true_or, Bool.or_false, Bool.false_or, Bool.false_eq_true, Bool.true_eq_false, Sc.int_i, Sc.bool_b, Sc.list_l, Sc.str_s, Int.reduceEq, Int.reduceLT, Int.reduceLE, Int.reduceNe, decide_true, decide_false, decide_not, eq_self, Classical.not_not, List.getElem?_cons_zero, List.getElem?_cons_succ, beq_self_eq_true, bne_self_eq_false]
  · intro k rec q h hq e
    have hi := idx_map pt ps k h
    have hk : (k : Int) < ps.length := by omega
    have a := radd_O (FP_pr hq) (hps _ (List.getElem_mem h))
    rw [valP_pr hq, e] at a
    simp only [enc, pr] at a
    simp only [hi, hk, pt, a, enc_some, enc_none, Int.natCast_nonneg, bne_iff_ne, beq_iff_eq, ne_eq, decide_eq_true_eq, Bool.and_eq_true, Bool.or_eq_true, Bool.not_eq_true', decide_eq_false_iff_not, beq_eq_false_iff_ne, bne_eq_false_iff_eq, not_true_eq_false, not_false_eq_true, if_true, if_false, reduceIte, and_true, true_and, and_false, false_and, or_false, false_or, or_true, true_or, List.getD_cons_zero, List.getD_cons_succ, List.length_cons, List.length_nil, List.cons_append, List.nil_append, Nat.reduceAdd, Nat.reduceEqDiff, reduceCtorEq, Bool.not_true, Bool.not_false, Bool.true_and, Bool.and_true, Bool.false_and, Bool.and_false, Bool.or_true, Bool.true_or, Bool.or_false, Bool.false_or, Bool.false_eq_true, Bool.true_eq_false, Sc.int_i, Sc.bool_b, Sc.list_l, Sc.str_s, Int.reduceEq, Int.reduceLT, Int.reduceLE, Int.reduceNe, decide_true, decide_false, decide_not, eq_self, Classical.not_not, List.getElem?_cons_zero, List.getElem?_cons_succ, beq_self_eq_true, bne_self_eq_false]
  · intro rec q
    simp only [Int.lt_irrefl, enc_some, enc_none, Int.natCast_nonneg, bne_iff_ne, beq_iff_eq, ne_eq, decide_eq_true_eq, Bool.and_eq_true, Bool.or_eq_true, Bool.not_eq_true', decide_eq_false_iff_not, beq_eq_false_iff_ne, bne_eq_false_iff_eq, not_true_eq_false, not_false_eq_true, if_true, if_false, reduceIte, and_true, true_and, and_false, false_and, or_false, false_or, or_true, true_or, List.getD_cons_zero, List.getD_cons_succ, List.length_cons, List.length_nil, List.cons_append, List.nil_append, Nat.reduceAdd, Nat.reduceEqDiff, reduceCtorEq, Bool.not_true, Bool.not_false, Bool.true_and, Bool.and_true, Bool.false_and, Bool.and_false, Bool.or_true, Bool.true_or, Bool.or_false, Bool.false_or, Bool.false_eq_true, Bool.true_eq_false, Sc.int_i, Sc.bool_b, Sc.list_l, Sc.str_s, Int.reduceEq, Int.reduceLT, Int.reduceLE, Int.reduceNe, decide_true, decide_false, decide_not, eq_self, Classical.not_not, List.getElem?_cons_zero, List.getElem?_cons_succ, beq_self_eq_true, bne_self_eq_false]
end Go.Proofs.YtkjgcalkkfgmlaaDoor
