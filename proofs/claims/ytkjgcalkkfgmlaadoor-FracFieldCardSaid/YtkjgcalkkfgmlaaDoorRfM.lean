/-
  Fractions: what the reference's Add, Sub, Mul and Div return.
-/
import Derived.Test.YtkjgcalkkfgmlaaDoorRfB
import Derived.Test.YtkjgcalkkfgmlaaDoorFrM
namespace Go.Proofs.YtkjgcalkkfgmlaaDoor
set_option linter.unusedSimpArgs false

theorem rMade_F (neg : Bool) (n d : Nat) (hn : n < 340282366920938463463374607431768211456) (h0 : 0 < d) (hd : d < 170141183460469231731687303715884105728) {q : Rat} (h : q = Rat.divInt (sgn neg n) d) :
    k_simulatorref02_Made.F [.b neg, .i (hiW n), .i (loW n), .i (hiW d), .i (loW d)] = some (outQ q) := by
  rw [refMade_F neg n d hn h0 hd, made_abs neg n d h0, h]; rfl
theorem add_div (q r : Rat) : q + r = Rat.divInt (q.num * r.den + r.num * q.den) ((q.den * r.den : Nat) : Int) := by
  rw [Rat.add_def', Rat.divInt_ofNat]
theorem mul_div' (q r : Rat) : q * r = Rat.divInt (q.num * r.num) ((q.den * r.den : Nat) : Int) := by
  rw [Rat.mul_def', Rat.divInt_ofNat]
theorem nat_sgn (n : Nat) : decide ((n : Int) < 0) = false := by simp
theorem radd_core {q r : Rat} (hq : fitQ q = true) (hr : fitQ r = true) : k_simulatorref02_Add.F [.i q.num, .i q.den, .i r.num, .i r.den] = some (outQ (q + r)) := by
  obtain ⟨a1, a2, a3, a4⟩ := fit_bounds hq
  obtain ⟨b1, b2, b3, b4⟩ := fit_bounds hr
  have iq : I64 q.num := ⟨by omega, by omega⟩
  have ir : I64 r.num := ⟨by omega, by omega⟩
  have jq : I64 q.den := ⟨by omega, by omega⟩
  have jr : I64 r.den := ⟨by omega, by omega⟩
  have v1 := rValid_F q.num q.den iq jq
  have v2 := rValid_F r.num r.den ir jr
  rw [okF_of hq] at v1
  rw [okF_of hr] at v2
  have p1 := rProduct_F q.num r.den iq jr
  have p2 := rProduct_F r.num q.den ir jq
  rw [nat_sgn, Bool.bne_false, Int.natAbs_natCast] at p1 p2
  have s1 := refSize_F q.den jq
  have s2 := refSize_F r.den jr
  rw [Int.natAbs_natCast] at s1 s2
  have t1 := rTimes_F q.den r.den (by omega) (by omega)
  have m1 : q.num.natAbs * r.den ≤ 4611686018427387904 * 1000000000000000 := Nat.mul_le_mul (by omega) (by omega)
  have m2 : r.num.natAbs * q.den ≤ 4611686018427387904 * 1000000000000000 := Nat.mul_le_mul (by omega) (by omega)
  have m3 : q.den * r.den ≤ 1000000000000000 * 1000000000000000 := Nat.mul_le_mul (by omega) (by omega)
  have m4 : 0 < q.den * r.den := Nat.mul_pos q.den_pos r.den_pos
  have b := rBoth_F (decide (q.num < 0)) (q.num.natAbs * r.den) (decide (r.num < 0)) (r.num.natAbs * q.den) (by omega)
  have bs := both_spec (decide (q.num < 0)) (q.num.natAbs * r.den) (decide (r.num < 0)) (r.num.natAbs * q.den)
  have bl := both_le (decide (q.num < 0)) (q.num.natAbs * r.den) (decide (r.num < 0)) (r.num.natAbs * q.den)
  rw [sgn_mul, sgn_self, sgn_mul, sgn_self] at bs
  generalize both (decide (q.num < 0)) (q.num.natAbs * r.den) (decide (r.num < 0)) (r.num.natAbs * q.den) = z at *
  have md := rMade_F z.1 z.2 (q.den * r.den) (by omega) m4 (by omega) (q := q + r) (by rw [bs]; exact add_div q r)
  obtain ⟨x, y, w, e⟩ := outQ_form (q + r)
  rw [e] at md ⊢
  simp only [k_simulatorref02_Add_F, tk_simulatorref02_Add, k_simulatorref02_Valid_f, k_simulatorref02_Product_f, k_simulatorref02_Both_f, k_simulatorref02_Size_f, k_simulatorref02_Times_f, k_simulatorref02_Made_f, v1, v2, p1, p2, s1, s2, t1, b, md, Go.Proofs.YtkjgcalkkfgmlaaDoor.T.den, Ex.ev, U1.ev, U2.ev, U3.ev, gam, List.map, List.getD_cons_zero, List.getD_cons_succ, List.length, List.cons_append, List.nil_append, if_true, Sc.int_i, Sc.bool_b, Sc.list_l, Sc.str_s, Nat.reduceEqDiff, if_false, List.getElem?_cons_zero, List.getElem?_cons_succ]
  simp only [Int.natCast_nonneg, bne_iff_ne, beq_iff_eq, ne_eq, decide_eq_true_eq, Bool.and_eq_true, Bool.or_eq_true, Bool.not_eq_true', decide_eq_false_iff_not, beq_eq_false_iff_ne, bne_eq_false_iff_eq, not_true_eq_false, not_false_eq_true, if_true, if_false, reduceIte, and_true, true_and, and_false, false_and, or_false, false_or, or_true, true_or, List.getD_cons_zero, List.getD_cons_succ, List.length_cons, List.length_nil, List.cons_append, List.nil_append, Nat.reduceAdd, Nat.reduceEqDiff, reduceCtorEq, Bool.not_true, Bool.not_false, Bool.true_and, Bool.and_true, Bool.false_and, Bool.and_false, Bool.or_true, Bool.true_or, Bool.or_false, Bool.false_or, Bool.false_eq_true, Bool.true_eq_false, Sc.int_i, Sc.bool_b, Sc.list_l, Sc.str_s, Int.reduceEq, Int.reduceLT, Int.reduceLE, Int.reduceNe, decide_true, decide_false, decide_not, eq_self, Classical.not_not, List.getElem?_cons_zero, List.getElem?_cons_succ, beq_self_eq_true, bne_self_eq_false]
theorem rAdd_F (a b c d : Int) (ha : I64 a) (hb : I64 b) (hc : I64 c) (hd : I64 d) : k_simulatorref02_Add.F [.i a, .i b, .i c, .i d] = some (addQ a b c d) := by
  unfold addQ
  by_cases h : okF a b = true ∧ okF c d = true
  · obtain ⟨q, rfl, rfl, hq⟩ := okF_q h.1
    obtain ⟨r, rfl, rfl, hr⟩ := okF_q h.2
    rw [if_pos h, divInt_q, divInt_q]
    exact radd_core hq hr
  · rw [if_neg h]
    have v1 := rValid_F a b ha hb
    have v2 := rValid_F c d hc hd
    simp only [k_simulatorref02_Add_F, tk_simulatorref02_Add, k_simulatorref02_Valid_f, v1, v2, Go.Proofs.YtkjgcalkkfgmlaaDoor.T.den, Ex.ev, U1.ev, U2.ev, U3.ev, gam, List.map, List.getD_cons_zero, List.getD_cons_succ, List.length, List.cons_append, List.nil_append, if_true, Sc.int_i, Sc.bool_b, Sc.list_l, Sc.str_s, Nat.reduceEqDiff, if_false, List.getElem?_cons_zero, List.getElem?_cons_succ]
    unfold noQ
    cases h1 : okF a b
    · simp only [Int.natCast_nonneg, bne_iff_ne, beq_iff_eq, ne_eq, decide_eq_true_eq, Bool.and_eq_true, Bool.or_eq_true, Bool.not_eq_true', decide_eq_false_iff_not, beq_eq_false_iff_ne, bne_eq_false_iff_eq, not_true_eq_false, not_false_eq_true, if_true, if_false, reduceIte, and_true, true_and, and_false, false_and, or_false, false_or, or_true, true_or, List.getD_cons_zero, List.getD_cons_succ, List.length_cons, List.length_nil, List.cons_append, List.nil_append, Nat.reduceAdd, Nat.reduceEqDiff, reduceCtorEq, Bool.not_true, Bool.not_false, Bool.true_and, Bool.and_true, Bool.false_and, Bool.and_false, Bool.or_true, Bool.true_or, Bool.or_false, Bool.false_or, Bool.false_eq_true, Bool.true_eq_false, Sc.int_i, Sc.bool_b, Sc.list_l, Sc.str_s, Int.reduceEq, Int.reduceLT, Int.reduceLE, Int.reduceNe, decide_true, decide_false, decide_not, eq_self, Classical.not_not, List.getElem?_cons_zero, List.getElem?_cons_succ, beq_self_eq_true, bne_self_eq_false]
    · have h2 : okF c d = false := by
        cases h3 : okF c d
        · rfl
        · exact absurd ⟨h1, h3⟩ h
      simp only [h2, Int.natCast_nonneg, bne_iff_ne, beq_iff_eq, ne_eq, decide_eq_true_eq, Bool.and_eq_true, Bool.or_eq_true, Bool.not_eq_true', decide_eq_false_iff_not, beq_eq_false_iff_ne, bne_eq_false_iff_eq, not_true_eq_false, not_false_eq_true, if_true, if_false, reduceIte, and_true, true_and, and_false, false_and, or_false, false_or, or_true, true_or, List.getD_cons_zero, List.getD_cons_succ, List.length_cons, List.length_nil, List.cons_append, List.nil_append, Nat.reduceAdd, Nat.reduceEqDiff, reduceCtorEq, Bool.not_true, Bool.not_false, Bool.true_and, Bool.and_true, Bool.false_and, Bool.and_false, Bool.or_true, Bool.true_or, Bool.or_false, Bool.false_or, Bool.false_eq_true, Bool.true_eq_false, Sc.int_i, Sc.bool_b, Sc.list_l, Sc.str_s, Int.reduceEq, Int.reduceLT, Int.reduceLE, Int.reduceNe, decide_true, decide_false, decide_not, eq_self, Classical.not_not, List.getElem?_cons_zero, List.getElem?_cons_succ, beq_self_eq_true, bne_self_eq_false]
theorem rOpp_F (a b : Int) : k_simulatorref02_Opposite.F [.i a, .i b] = some [.i (IntKind.i64.wrap (0 - a)), .i b] := by
  simp only [k_simulatorref02_Opposite_F, tk_simulatorref02_Opposite, Go.Proofs.YtkjgcalkkfgmlaaDoor.T.den, Ex.ev, U1.ev, U2.ev, U3.ev, gam, List.map, List.getD_cons_zero, List.getD_cons_succ, List.length, List.cons_append, List.nil_append, if_true, Sc.int_i, Sc.bool_b, Sc.list_l, Sc.str_s, Nat.reduceEqDiff, if_false, List.getElem?_cons_zero, List.getElem?_cons_succ]
theorem rSub_F (a b c d : Int) (ha : I64 a) (hb : I64 b) (hc : I64 c) (hd : I64 d) : k_simulatorref02_Sub.F [.i a, .i b, .i c, .i d] = some (subQ a b c d) := by
  have v2 := rValid_F c d hc hd
  simp only [k_simulatorref02_Sub_F, tk_simulatorref02_Sub, k_simulatorref02_Valid_f, k_simulatorref02_Opposite_f, k_simulatorref02_Add_f, v2, rOpp_F, Go.Proofs.YtkjgcalkkfgmlaaDoor.T.den, Ex.ev, U1.ev, U2.ev, U3.ev, gam, List.map, List.getD_cons_zero, List.getD_cons_succ, List.length, List.cons_append, List.nil_append, if_true, Sc.int_i, Sc.bool_b, Sc.list_l, Sc.str_s, Nat.reduceEqDiff, if_false, List.getElem?_cons_zero, List.getElem?_cons_succ]
  unfold subQ
  cases h2 : okF c d
  · simp only [noQ, Int.natCast_nonneg, bne_iff_ne, beq_iff_eq, ne_eq, decide_eq_true_eq, Bool.and_eq_true, Bool.or_eq_true, Bool.not_eq_true', decide_eq_false_iff_not, beq_eq_false_iff_ne, bne_eq_false_iff_eq, not_true_eq_false, not_false_eq_true, if_true, if_false, reduceIte, and_true, true_and, and_false, false_and, or_false, false_or, or_true, true_or, List.getD_cons_zero, List.getD_cons_succ, List.length_cons, List.length_nil, List.cons_append, List.nil_append, Nat.reduceAdd, Nat.reduceEqDiff, reduceCtorEq, Bool.not_true, Bool.not_false, Bool.true_and, Bool.and_true, Bool.false_and, Bool.and_false, Bool.or_true, Bool.true_or, Bool.or_false, Bool.false_or, Bool.false_eq_true, Bool.true_eq_false, Sc.int_i, Sc.bool_b, Sc.list_l, Sc.str_s, Int.reduceEq, Int.reduceLT, Int.reduceLE, Int.reduceNe, decide_true, decide_false, decide_not, eq_self, Classical.not_not, List.getElem?_cons_zero, List.getElem?_cons_succ, beq_self_eq_true, bne_self_eq_false]
  obtain ⟨r, rfl, rfl, hr⟩ := okF_q h2
  obtain ⟨b1, b2, b3, b4⟩ := fit_bounds hr
  have w : IntKind.i64.wrap (0 - r.num) = (-r).num := by rw [wrI (by omega) (by omega), Rat.neg_num]; omega
  have wd : (r.den : Int) = (-r).den := by rw [Rat.neg_den]
  have ad := rAdd_F a b (-r).num (-r).den ha hb ⟨by rw [Rat.neg_num]; omega, by rw [Rat.neg_num]; omega⟩ ⟨by omega, by omega⟩
  have ok : okF (-r).num (-r).den = true := okF_of (by rw [fit_neg]; exact hr)
  unfold addQ at ad
  rw [ok, divInt_q] at ad
  rw [divInt_q, Rat.sub_eq_add_neg, w]
  rw [← wd] at ad
  generalize outQ_ : (if okF a b = true ∧ True then outQ (Rat.divInt a b + -r) else noQ) = o at *
  have hf : ∃ x y z, o = [.i x, .i y, .b z] := by
    rw [← outQ_]; split
    · exact outQ_form _
    · exact ⟨_, _, _, rfl⟩
  obtain ⟨x, y, z, rfl⟩ := hf
  have outQ2 : (if okF a b = true ∧ true = true then outQ (Rat.divInt a b + -r) else noQ) = [.i x, .i y, .b z] := by rw [← outQ_]; simp
  rw [outQ2] at ad ⊢
  simp only [ad, Int.natCast_nonneg, bne_iff_ne, beq_iff_eq, ne_eq, decide_eq_true_eq, Bool.and_eq_true, Bool.or_eq_true, Bool.not_eq_true', decide_eq_false_iff_not, beq_eq_false_iff_ne, bne_eq_false_iff_eq, not_true_eq_false, not_false_eq_true, if_true, if_false, reduceIte, and_true, true_and, and_false, false_and, or_false, false_or, or_true, true_or, List.getD_cons_zero, List.getD_cons_succ, List.length_cons, List.length_nil, List.cons_append, List.nil_append, Nat.reduceAdd, Nat.reduceEqDiff, reduceCtorEq, Bool.not_true, Bool.not_false, Bool.true_and, Bool.and_true, Bool.false_and, Bool.and_false, Bool.or_true, Bool.true_or, Bool.or_false, Bool.false_or, Bool.false_eq_true, Bool.true_eq_false, Sc.int_i, Sc.bool_b, Sc.list_l, Sc.str_s, Int.reduceEq, Int.reduceLT, Int.reduceLE, Int.reduceNe, decide_true, decide_false, decide_not, eq_self, Classical.not_not, List.getElem?_cons_zero, List.getElem?_cons_succ, beq_self_eq_true, bne_self_eq_false]
theorem rMul_F (a b c d : Int) (ha : I64 a) (hb : I64 b) (hc : I64 c) (hd : I64 d) : k_simulatorref02_Mul.F [.i a, .i b, .i c, .i d] = some (mulQ a b c d) := by
  have v1 := rValid_F a b ha hb
  have v2 := rValid_F c d hc hd
  have p1 := rProduct_F a c ha hc
  have s1 := refSize_F b hb
  have s2 := refSize_F d hd
  simp only [k_simulatorref02_Mul_F, tk_simulatorref02_Mul, k_simulatorref02_Valid_f, k_simulatorref02_Product_f, k_simulatorref02_Size_f, k_simulatorref02_Times_f, k_simulatorref02_Made_f, v1, v2, p1, s1, s2, Go.Proofs.YtkjgcalkkfgmlaaDoor.T.den, Ex.ev, U1.ev, U2.ev, U3.ev, gam, List.map, List.getD_cons_zero, List.getD_cons_succ, List.length, List.cons_append, List.nil_append, if_true, Sc.int_i, Sc.bool_b, Sc.list_l, Sc.str_s, Nat.reduceEqDiff, if_false, List.getElem?_cons_zero, List.getElem?_cons_succ]
  unfold mulQ
  cases h1 : okF a b
  · simp only [noQ, Int.natCast_nonneg, bne_iff_ne, beq_iff_eq, ne_eq, decide_eq_true_eq, Bool.and_eq_true, Bool.or_eq_true, Bool.not_eq_true', decide_eq_false_iff_not, beq_eq_false_iff_ne, bne_eq_false_iff_eq, not_true_eq_false, not_false_eq_true, if_true, if_false, reduceIte, and_true, true_and, and_false, false_and, or_false, false_or, or_true, true_or, List.getD_cons_zero, List.getD_cons_succ, List.length_cons, List.length_nil, List.cons_append, List.nil_append, Nat.reduceAdd, Nat.reduceEqDiff, reduceCtorEq, Bool.not_true, Bool.not_false, Bool.true_and, Bool.and_true, Bool.false_and, Bool.and_false, Bool.or_true, Bool.true_or, Bool.or_false, Bool.false_or, Bool.false_eq_true, Bool.true_eq_false, Sc.int_i, Sc.bool_b, Sc.list_l, Sc.str_s, Int.reduceEq, Int.reduceLT, Int.reduceLE, Int.reduceNe, decide_true, decide_false, decide_not, eq_self, Classical.not_not, List.getElem?_cons_zero, List.getElem?_cons_succ, beq_self_eq_true, bne_self_eq_false]
  cases h2 : okF c d
  · simp only [noQ, Int.natCast_nonneg, bne_iff_ne, beq_iff_eq, ne_eq, decide_eq_true_eq, Bool.and_eq_true, Bool.or_eq_true, Bool.not_eq_true', decide_eq_false_iff_not, beq_eq_false_iff_ne, bne_eq_false_iff_eq, not_true_eq_false, not_false_eq_true, if_true, if_false, reduceIte, and_true, true_and, and_false, false_and, or_false, false_or, or_true, true_or, List.getD_cons_zero, List.getD_cons_succ, List.length_cons, List.length_nil, List.cons_append, List.nil_append, Nat.reduceAdd, Nat.reduceEqDiff, reduceCtorEq, Bool.not_true, Bool.not_false, Bool.true_and, Bool.and_true, Bool.false_and, Bool.and_false, Bool.or_true, Bool.true_or, Bool.or_false, Bool.false_or, Bool.false_eq_true, Bool.true_eq_false, Sc.int_i, Sc.bool_b, Sc.list_l, Sc.str_s, Int.reduceEq, Int.reduceLT, Int.reduceLE, Int.reduceNe, decide_true, decide_false, decide_not, eq_self, Classical.not_not, List.getElem?_cons_zero, List.getElem?_cons_succ, beq_self_eq_true, bne_self_eq_false]
  obtain ⟨q, rfl, rfl, hq⟩ := okF_q h1
  obtain ⟨r, rfl, rfl, hr⟩ := okF_q h2
  obtain ⟨a1, a2, a3, a4⟩ := fit_bounds hq
  obtain ⟨b1, b2, b3, b4⟩ := fit_bounds hr
  have t1 := rTimes_F q.den r.den (by omega) (by omega)
  have m1 : q.num.natAbs * r.num.natAbs ≤ 4611686018427387904 * 4611686018427387904 := Nat.mul_le_mul (by omega) (by omega)
  have m3 : q.den * r.den ≤ 1000000000000000 * 1000000000000000 := Nat.mul_le_mul (by omega) (by omega)
  have m4 : 0 < q.den * r.den := Nat.mul_pos q.den_pos r.den_pos
  have md := rMade_F (decide (q.num < 0) != decide (r.num < 0)) (q.num.natAbs * r.num.natAbs) (q.den * r.den) (by omega) m4 (by omega) (q := q * r) (by rw [← mul_sgn]; exact mul_div' q r)
  obtain ⟨x, y, z, e⟩ := outQ_form (q * r)
  have o : (if true = true ∧ true = true then outQ (Rat.divInt q.num q.den * Rat.divInt r.num r.den) else noQ) = [.i x, .i y, .b z] := by rw [if_pos ⟨rfl, rfl⟩, divInt_q, divInt_q, e]
  rw [o]
  rw [e] at md
  simp only [Int.natAbs_natCast, t1, md, Int.natCast_nonneg, bne_iff_ne, beq_iff_eq, ne_eq, decide_eq_true_eq, Bool.and_eq_true, Bool.or_eq_true, Bool.not_eq_true', decide_eq_false_iff_not, beq_eq_false_iff_ne, bne_eq_false_iff_eq, not_true_eq_false, not_false_eq_true, if_true, if_false, reduceIte, and_true, true_and, and_false, false_and, or_false, false_or, or_true, true_or, List.getD_cons_zero, List.getD_cons_succ, List.length_cons, List.length_nil, List.cons_append, List.nil_append, Nat.reduceAdd, Nat.reduceEqDiff, reduceCtorEq, Bool.not_true, Bool.not_false, Bool.true_and, Bool.and_true, Bool.false_and, Bool.and_false, Bool.or_true, Bool.true_or, Bool.or_false, Bool.false_or, Bool.false_eq_true, Bool.true_eq_false, Sc.int_i, Sc.bool_b, Sc.list_l, Sc.str_s, Int.reduceEq, Int.reduceLT, Int.reduceLE, Int.reduceNe, decide_true, decide_false, decide_not, eq_self, Classical.not_not, List.getElem?_cons_zero, List.getElem?_cons_succ, beq_self_eq_true, bne_self_eq_false]
theorem rDiv_F (a b c d : Int) (ha : I64 a) (hb : I64 b) (hc : I64 c) (hd : I64 d) : k_simulatorref02_Div.F [.i a, .i b, .i c, .i d] = some (divQ a b c d) := by
  have v1 := rValid_F a b ha hb
  have v2 := rValid_F c d hc hd
  have p1 := rProduct_F a d ha hd
  have s1 := refSize_F b hb
  have s2 := refSize_F c hc
  simp only [k_simulatorref02_Div_F, tk_simulatorref02_Div, k_simulatorref02_Valid_f, k_simulatorref02_Product_f, k_simulatorref02_Size_f, k_simulatorref02_Times_f, k_simulatorref02_Made_f, v1, v2, p1, s1, s2, Go.Proofs.YtkjgcalkkfgmlaaDoor.T.den, Ex.ev, U1.ev, U2.ev, U3.ev, gam, List.map, List.getD_cons_zero, List.getD_cons_succ, List.length, List.cons_append, List.nil_append, if_true, Sc.int_i, Sc.bool_b, Sc.list_l, Sc.str_s, Nat.reduceEqDiff, if_false, List.getElem?_cons_zero, List.getElem?_cons_succ]
  unfold divQ
  cases h1 : okF a b
  · simp only [noQ, Int.natCast_nonneg, bne_iff_ne, beq_iff_eq, ne_eq, decide_eq_true_eq, Bool.and_eq_true, Bool.or_eq_true, Bool.not_eq_true', decide_eq_false_iff_not, beq_eq_false_iff_ne, bne_eq_false_iff_eq, not_true_eq_false, not_false_eq_true, if_true, if_false, reduceIte, and_true, true_and, and_false, false_and, or_false, false_or, or_true, true_or, List.getD_cons_zero, List.getD_cons_succ, List.length_cons, List.length_nil, List.cons_append, List.nil_append, Nat.reduceAdd, Nat.reduceEqDiff, reduceCtorEq, Bool.not_true, Bool.not_false, Bool.true_and, Bool.and_true, Bool.false_and, Bool.and_false, Bool.or_true, Bool.true_or, Bool.or_false, Bool.false_or, Bool.false_eq_true, Bool.true_eq_false, Sc.int_i, Sc.bool_b, Sc.list_l, Sc.str_s, Int.reduceEq, Int.reduceLT, Int.reduceLE, Int.reduceNe, decide_true, decide_false, decide_not, eq_self, Classical.not_not, List.getElem?_cons_zero, List.getElem?_cons_succ, beq_self_eq_true, bne_self_eq_false]
  cases h2 : okF c d
  · simp only [noQ, Int.natCast_nonneg, bne_iff_ne, beq_iff_eq, ne_eq, decide_eq_true_eq, Bool.and_eq_true, Bool.or_eq_true, Bool.not_eq_true', decide_eq_false_iff_not, beq_eq_false_iff_ne, bne_eq_false_iff_eq, not_true_eq_false, not_false_eq_true, if_true, if_false, reduceIte, and_true, true_and, and_false, false_and, or_false, false_or, or_true, true_or, List.getD_cons_zero, List.getD_cons_succ, List.length_cons, List.length_nil, List.cons_append, List.nil_append, Nat.reduceAdd, Nat.reduceEqDiff, reduceCtorEq, Bool.not_true, Bool.not_false, Bool.true_and, Bool.and_true, Bool.false_and, Bool.and_false, Bool.or_true, Bool.true_or, Bool.or_false, Bool.false_or, Bool.false_eq_true, Bool.true_eq_false, Sc.int_i, Sc.bool_b, Sc.list_l, Sc.str_s, Int.reduceEq, Int.reduceLT, Int.reduceLE, Int.reduceNe, decide_true, decide_false, decide_not, eq_self, Classical.not_not, List.getElem?_cons_zero, List.getElem?_cons_succ, beq_self_eq_true, bne_self_eq_false]
  obtain ⟨q, rfl, rfl, hq⟩ := okF_q h1
  obtain ⟨r, rfl, rfl, hr⟩ := okF_q h2
  by_cases h0 : r.num = 0
  · simp only [h0, noQ, Int.natCast_nonneg, bne_iff_ne, beq_iff_eq, ne_eq, decide_eq_true_eq, Bool.and_eq_true, Bool.or_eq_true, Bool.not_eq_true', decide_eq_false_iff_not, beq_eq_false_iff_ne, bne_eq_false_iff_eq, not_true_eq_false, not_false_eq_true, if_true, if_false, reduceIte, and_true, true_and, and_false, false_and, or_false, false_or, or_true, true_or, List.getD_cons_zero, List.getD_cons_succ, List.length_cons, List.length_nil, List.cons_append, List.nil_append, Nat.reduceAdd, Nat.reduceEqDiff, reduceCtorEq, Bool.not_true, Bool.not_false, Bool.true_and, Bool.and_true, Bool.false_and, Bool.and_false, Bool.or_true, Bool.true_or, Bool.or_false, Bool.false_or, Bool.false_eq_true, Bool.true_eq_false, Sc.int_i, Sc.bool_b, Sc.list_l, Sc.str_s, Int.reduceEq, Int.reduceLT, Int.reduceLE, Int.reduceNe, decide_true, decide_false, decide_not, eq_self, Classical.not_not, List.getElem?_cons_zero, List.getElem?_cons_succ, beq_self_eq_true, bne_self_eq_false]
  obtain ⟨a1, a2, a3, a4⟩ := fit_bounds hq
  obtain ⟨b1, b2, b3, b4⟩ := fit_bounds hr
  have hp : 0 < r.num.natAbs := by omega
  have t1 := rTimes_F q.den r.num.natAbs (by omega) (by omega)
  have m1 : q.num.natAbs * r.den ≤ 4611686018427387904 * 1000000000000000 := Nat.mul_le_mul (by omega) (by omega)
  have m3 : q.den * r.num.natAbs ≤ 1000000000000000 * 4611686018427387904 := Nat.mul_le_mul (by omega) (by omega)
  have m4 : 0 < q.den * r.num.natAbs := Nat.mul_pos q.den_pos hp
  obtain ⟨i1, i2⟩ := inv_num r h0
  have hx : (!(decide (q.num < 0) == decide (r.num < 0))) = (decide (q.num < 0) != decide (r.num < 0)) := rfl
  have md := rMade_F (decide (q.num < 0) != decide (r.num < 0)) (q.num.natAbs * r.den) (q.den * r.num.natAbs) (by omega) m4 (by omega) (q := q * r⁻¹) (by
    rw [mul_div', i1, i2]
    congr 1
    have h1 := sgn_self q.num
    generalize q.num.natAbs = n at *
    conv => lhs; rw [← h1]
    cases decide (q.num < 0) <;> cases decide (r.num < 0) <;> simp [sgn, Int.neg_mul, Int.mul_neg])
  obtain ⟨x, y, z, e⟩ := outQ_form (q * r⁻¹)
  have o : (if true = true ∧ true = true ∧ r.num ≠ 0 then outQ (Rat.divInt q.num q.den / Rat.divInt r.num r.den) else noQ) = [.i x, .i y, .b z] := by rw [if_pos ⟨rfl, rfl, h0⟩, divInt_q, divInt_q, Rat.div_def, e]
  rw [o]
  rw [e] at md
  rw [hx]
  simp only [Int.natAbs_natCast, h0, t1, md, Int.natCast_nonneg, bne_iff_ne, beq_iff_eq, ne_eq, decide_eq_true_eq, Bool.and_eq_true, Bool.or_eq_true, Bool.not_eq_true', decide_eq_false_iff_not, beq_eq_false_iff_ne, bne_eq_false_iff_eq, not_true_eq_false, not_false_eq_true, if_true, if_false, reduceIte, and_true, true_and, and_false, false_and, or_false, false_or, or_true, true_or, List.getD_cons_zero, List.getD_cons_succ, List.length_cons, List.length_nil, List.cons_append, List.nil_append, Nat.reduceAdd, Nat.reduceEqDiff, reduceCtorEq, Bool.not_true, Bool.not_false, Bool.true_and, Bool.and_true, Bool.false_and, Bool.and_false, Bool.or_true, Bool.true_or, Bool.or_false, Bool.false_or, Bool.false_eq_true, Bool.true_eq_false, Sc.int_i, Sc.bool_b, Sc.list_l, Sc.str_s, Int.reduceEq, Int.reduceLT, Int.reduceLE, Int.reduceNe, decide_true, decide_false, decide_not, eq_self, Classical.not_not, List.getElem?_cons_zero, List.getElem?_cons_succ, beq_self_eq_true, bne_self_eq_false]
end Go.Proofs.YtkjgcalkkfgmlaaDoor
