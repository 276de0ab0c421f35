/-
  Fractions: what Mul and Div return.
-/
import Derived.Test.YtkjgcalkkfgmlaaDoorFrS
namespace Go.Proofs.YtkjgcalkkfgmlaaDoor
set_option linter.unusedSimpArgs false

theorem product_F (neg : Bool) {p r : Rat} (hs : p.num * r.num = sgn neg (p.num.natAbs * r.num.natAbs)) (h1 : p.num.natAbs < 18446744073709551616) (h2 : p.den < 18446744073709551616) (h3 : r.num.natAbs < 18446744073709551616) (h4 : r.den < 18446744073709551616) :
    k_frac_product.F [.b neg, .i p.num.natAbs, .i p.den, .i r.num.natAbs, .i r.den] = some (outQ (p * r)) := by
  obtain ⟨l1, l2⟩ := mul_low p r
  have g1 := gcd_F p.num.natAbs r.den h4
  have g2 := gcd_F r.num.natAbs p.den h2
  have hx0 : 0 < p.num.natAbs.gcd r.den := Nat.gcd_pos_of_pos_right _ r.den_pos
  have hy0 : 0 < r.num.natAbs.gcd p.den := Nat.gcd_pos_of_pos_right _ p.den_pos
  have dx1 := Nat.gcd_dvd_left p.num.natAbs r.den
  have dy1 := Nat.gcd_dvd_left r.num.natAbs p.den
  have o1 := quo_nat (a := p.num.natAbs) (b := p.num.natAbs.gcd r.den) h1
  have o2 := quo_nat (a := r.num.natAbs) (b := r.num.natAbs.gcd p.den) h3
  have o3 := quo_nat (a := p.den) (b := r.num.natAbs.gcd p.den) h2
  have o4 := quo_nat (a := r.den) (b := p.num.natAbs.gcd r.den) h4
  have e1 := Nat.div_le_self p.num.natAbs (p.num.natAbs.gcd r.den)
  have e2 := Nat.div_le_self r.num.natAbs (r.num.natAbs.gcd p.den)
  have e3 := Nat.div_le_self p.den (r.num.natAbs.gcd p.den)
  have e4 := Nat.div_le_self r.den (p.num.natAbs.gcd r.den)
  have t1 := times_F (p.num.natAbs / p.num.natAbs.gcd r.den) (r.num.natAbs / r.num.natAbs.gcd p.den) (by omega) (by omega)
  have t2 := times_F (p.den / r.num.natAbs.gcd p.den) (r.den / p.num.natAbs.gcd r.den) (by omega) (by omega)
  have hab : (p * r).num.natAbs = p.num.natAbs / p.num.natAbs.gcd r.den * (r.num.natAbs / r.num.natAbs.gcd p.den) := by
    have hqx : ((p.num.natAbs.gcd r.den : Nat) : Int) ∣ p.num := Int.ofNat_dvd_left.2 dx1
    have hry : ((r.num.natAbs.gcd p.den : Nat) : Int) ∣ r.num := Int.ofNat_dvd_left.2 dy1
    rw [l1, Int.natAbs_mul, Int.natAbs_ediv_of_dvd hqx, Int.natAbs_ediv_of_dvd hry]; rfl
  have hsg : (p * r).num = sgn (neg && decide ((p * r).num.natAbs ≠ 0)) (p * r).num.natAbs := by
    by_cases h0 : (p * r).num = 0
    · rw [h0]; cases neg <;> rfl
    · have hd : decide ((p * r).num.natAbs ≠ 0) = true := decide_eq_true (by omega)
      rw [hd, Bool.and_true]
      have hm : (p.num.natAbs.gcd r.den : Nat) * (r.num.natAbs.gcd p.den : Nat) * (p * r).num = p.num * r.num := by
        have q1 : p.num / ((p.num.natAbs.gcd r.den : Nat) : Int) * (p.num.natAbs.gcd r.den : Nat) = p.num := Int.ediv_mul_cancel (Int.ofNat_dvd_left.2 dx1)
        have q2 : r.num / ((r.num.natAbs.gcd p.den : Nat) : Int) * (r.num.natAbs.gcd p.den : Nat) = r.num := Int.ediv_mul_cancel (Int.ofNat_dvd_left.2 dy1)
        rw [l1]
        conv => rhs; rw [← q1, ← q2]
        grind
      rw [hs] at hm
      have hc : 0 < ((p.num.natAbs.gcd r.den : Nat) : Int) * (r.num.natAbs.gcd p.den : Nat) := Int.mul_pos (by omega) (by omega)
      generalize ((p.num.natAbs.gcd r.den : Nat) : Int) * (r.num.natAbs.gcd p.den : Nat) = c at *
      generalize (p * r).num = z at *
      generalize p.num.natAbs * r.num.natAbs = m at *
      cases neg with
      | false =>
        have : 0 ≤ z := by
          rcases Int.lt_or_le z 0 with h | h
          · have := Int.mul_neg_of_pos_of_neg hc h; simp only [sgn] at hm; simp at hm; omega
          · exact h
        simp only [sgn]; simp; omega
      | true =>
        have : z ≤ 0 := by
          rcases Int.lt_or_le 0 z with h | h
          · have := Int.mul_pos hc h; simp only [sgn] at hm; simp at hm; omega
          · exact h
        simp only [sgn]; simp; omega
  have hz1 : ¬ ((p.num.natAbs.gcd r.den : Nat) : Int) = 0 := by omega
  have hz2 : ¬ ((r.num.natAbs.gcd p.den : Nat) : Int) = 0 := by omega
  rw [hab] at hsg
  simp only [k_frac_product_F, tk_frac_product, k_frac_gcd_f, k_frac_times_f, k_frac_made_f, g1, g2, o1, o2, o3, o4, t1, t2, Go.Proofs.YtkjgcalkkfgmlaaDoor.T.den, Ex.ev, U1.ev, U2.ev, U3.ev, gam, List.map, List.getD_cons_zero, List.getD_cons_succ, List.length, List.cons_append, List.nil_append, if_true, Sc.int_i, Sc.bool_b, Sc.list_l, Sc.str_s, Nat.reduceEqDiff, if_false, List.getElem?_cons_zero, List.getElem?_cons_succ]
  generalize p.num.natAbs / p.num.natAbs.gcd r.den * (r.num.natAbs / r.num.natAbs.gcd p.den) = n at *
  generalize p.den / r.num.natAbs.gcd p.den * (r.den / p.num.natAbs.gcd r.den) = d at *
  by_cases hn : hiW n = 0
  · have ln : loW n = n := by have := hi_lo n; omega
    by_cases hd : hiW d = 0
    · have ld : loW d = d := by have := hi_lo d; omega
      have md := made_F (neg && decide (n ≠ 0)) n d
      rw [made_num (q := p * r) hsg l2] at md
      obtain ⟨a, b, c, ho⟩ := outQ_form (p * r)
      rw [ho] at md ⊢
      have bn : ((n : Int) != 0) = decide (n ≠ 0) := by
        by_cases h : n = 0
        · subst h; rfl
        · rw [decide_eq_true h, bne_iff_ne]; omega
      cases neg with
      | true =>
        rw [Bool.true_and] at md
        simp only [hz1, hz2, hn, hd, ln, ld, Int.natCast_nonneg, bne_iff_ne, beq_iff_eq, ne_eq, decide_eq_true_eq, Bool.and_eq_true, Bool.or_eq_true, Bool.not_eq_true', decide_eq_false_iff_not, beq_eq_false_iff_ne, bne_eq_false_iff_eq, not_true_eq_false, not_false_eq_true, if_true, if_false, reduceIte, and_true, true_and, and_false, false_and, or_false, false_or, or_true, true_or, List.getD_cons_zero, List.getD_cons_succ, List.length_cons, List.length_nil, List.cons_append, List.nil_append, Nat.reduceAdd, Nat.reduceEqDiff, reduceCtorEq, Bool.not_true, Bool.not_false, Bool.true_and, Bool.and_true, Bool.false_and, Bool.and_false, Bool.or_true, Bool.true_or, Bool.or_false, Bool.false_or, Bool.false_eq_true, Bool.true_eq_false, Sc.int_i, Sc.bool_b, Sc.list_l, Sc.str_s, Int.reduceEq, Int.reduceLT, Int.reduceLE, Int.reduceNe, decide_true, decide_false, decide_not, eq_self, Classical.not_not, List.getElem?_cons_zero, List.getElem?_cons_succ, beq_self_eq_true, bne_self_eq_false]
        rw [bn, md]
        simp only [Int.natCast_nonneg, bne_iff_ne, beq_iff_eq, ne_eq, decide_eq_true_eq, Bool.and_eq_true, Bool.or_eq_true, Bool.not_eq_true', decide_eq_false_iff_not, beq_eq_false_iff_ne, bne_eq_false_iff_eq, not_true_eq_false, not_false_eq_true, if_true, if_false, reduceIte, and_true, true_and, and_false, false_and, or_false, false_or, or_true, true_or, List.getD_cons_zero, List.getD_cons_succ, List.length_cons, List.length_nil, List.cons_append, List.nil_append, Nat.reduceAdd, Nat.reduceEqDiff, reduceCtorEq, Bool.not_true, Bool.not_false, Bool.true_and, Bool.and_true, Bool.false_and, Bool.and_false, Bool.or_true, Bool.true_or, Bool.or_false, Bool.false_or, Bool.false_eq_true, Bool.true_eq_false, Sc.int_i, Sc.bool_b, Sc.list_l, Sc.str_s, Int.reduceEq, Int.reduceLT, Int.reduceLE, Int.reduceNe, decide_true, decide_false, decide_not, eq_self, Classical.not_not, List.getElem?_cons_zero, List.getElem?_cons_succ, beq_self_eq_true, bne_self_eq_false]
      | false =>
        rw [Bool.false_and] at md
        simp only [hz1, hz2, hn, hd, ln, ld, md, Int.natCast_nonneg, bne_iff_ne, beq_iff_eq, ne_eq, decide_eq_true_eq, Bool.and_eq_true, Bool.or_eq_true, Bool.not_eq_true', decide_eq_false_iff_not, beq_eq_false_iff_ne, bne_eq_false_iff_eq, not_true_eq_false, not_false_eq_true, if_true, if_false, reduceIte, and_true, true_and, and_false, false_and, or_false, false_or, or_true, true_or, List.getD_cons_zero, List.getD_cons_succ, List.length_cons, List.length_nil, List.cons_append, List.nil_append, Nat.reduceAdd, Nat.reduceEqDiff, reduceCtorEq, Bool.not_true, Bool.not_false, Bool.true_and, Bool.and_true, Bool.false_and, Bool.and_false, Bool.or_true, Bool.true_or, Bool.or_false, Bool.false_or, Bool.false_eq_true, Bool.true_eq_false, Sc.int_i, Sc.bool_b, Sc.list_l, Sc.str_s, Int.reduceEq, Int.reduceLT, Int.reduceLE, Int.reduceNe, decide_true, decide_false, decide_not, eq_self, Classical.not_not, List.getElem?_cons_zero, List.getElem?_cons_succ, beq_self_eq_true, bne_self_eq_false]
    · have : outQ (p * r) = noQ := un_fit (.inr (by
        rw [l2]; unfold maxD
        rcases Nat.lt_or_ge 1000000000000000 d with h | h
        · exact h
        · exact absurd (hi_small (x := d) (by omega)) hd))
      rw [this]
      simp only [hz1, hz2, hn, hd, noQ, Int.natCast_nonneg, bne_iff_ne, beq_iff_eq, ne_eq, decide_eq_true_eq, Bool.and_eq_true, Bool.or_eq_true, Bool.not_eq_true', decide_eq_false_iff_not, beq_eq_false_iff_ne, bne_eq_false_iff_eq, not_true_eq_false, not_false_eq_true, if_true, if_false, reduceIte, and_true, true_and, and_false, false_and, or_false, false_or, or_true, true_or, List.getD_cons_zero, List.getD_cons_succ, List.length_cons, List.length_nil, List.cons_append, List.nil_append, Nat.reduceAdd, Nat.reduceEqDiff, reduceCtorEq, Bool.not_true, Bool.not_false, Bool.true_and, Bool.and_true, Bool.false_and, Bool.and_false, Bool.or_true, Bool.true_or, Bool.or_false, Bool.false_or, Bool.false_eq_true, Bool.true_eq_false, Sc.int_i, Sc.bool_b, Sc.list_l, Sc.str_s, Int.reduceEq, Int.reduceLT, Int.reduceLE, Int.reduceNe, decide_true, decide_false, decide_not, eq_self, Classical.not_not, List.getElem?_cons_zero, List.getElem?_cons_succ, beq_self_eq_true, bne_self_eq_false]
  · have : outQ (p * r) = noQ := un_fit (.inl (by
      rw [hab]; unfold maxN
      rcases Nat.lt_or_ge 4611686018427387904 n with h | h
      · exact h
      · exact absurd (hi_small (x := n) (by omega)) hn))
    rw [this]
    simp only [hz1, hz2, hn, noQ, Int.natCast_nonneg, bne_iff_ne, beq_iff_eq, ne_eq, decide_eq_true_eq, Bool.and_eq_true, Bool.or_eq_true, Bool.not_eq_true', decide_eq_false_iff_not, beq_eq_false_iff_ne, bne_eq_false_iff_eq, not_true_eq_false, not_false_eq_true, if_true, if_false, reduceIte, and_true, true_and, and_false, false_and, or_false, false_or, or_true, true_or, List.getD_cons_zero, List.getD_cons_succ, List.length_cons, List.length_nil, List.cons_append, List.nil_append, Nat.reduceAdd, Nat.reduceEqDiff, reduceCtorEq, Bool.not_true, Bool.not_false, Bool.true_and, Bool.and_true, Bool.false_and, Bool.and_false, Bool.or_true, Bool.true_or, Bool.or_false, Bool.false_or, Bool.false_eq_true, Bool.true_eq_false, Sc.int_i, Sc.bool_b, Sc.list_l, Sc.str_s, Int.reduceEq, Int.reduceLT, Int.reduceLE, Int.reduceNe, decide_true, decide_false, decide_not, eq_self, Classical.not_not, List.getElem?_cons_zero, List.getElem?_cons_succ, beq_self_eq_true, bne_self_eq_false]
theorem mul_sgn (a b : Int) : a * b = sgn (decide (a < 0) != decide (b < 0)) (a.natAbs * b.natAbs) := by
  have h1 := sgn_self a
  have h2 := sgn_self b
  generalize ha : a.natAbs = x at *
  generalize hb : b.natAbs = y at *
  rw [← h1, ← h2]
  have e1 : decide (sgn (decide (a < 0)) x < 0) = decide (a < 0) := by rw [h1]
  have e2 : decide (sgn (decide (b < 0)) y < 0) = decide (b < 0) := by rw [h2]
  rw [e1, e2]
  cases decide (a < 0) <;> cases decide (b < 0) <;> simp [sgn, Int.neg_mul, Int.mul_neg]
theorem mul_F (a b c d : Int) (ha : I64 a) (hb : I64 b) (hc : I64 c) (hd : I64 d) : k_frac_Mul.F [.i a, .i b, .i c, .i d] = some (mulQ a b c d) := by
  have v1 := valid_F a b ha hb
  have v2 := valid_F c d hc hd
  have s1 := size_F a ha
  have s2 := size_F c hc
  simp only [k_frac_Mul_F, tk_frac_Mul, k_frac_Valid_f, k_frac_size_f, k_frac_product_f, v1, v2, s1, s2, Go.Proofs.YtkjgcalkkfgmlaaDoor.T.den, Ex.ev, U1.ev, U2.ev, U3.ev, gam, List.map, List.getD_cons_zero, List.getD_cons_succ, List.length, List.cons_append, List.nil_append, if_true, Sc.int_i, Sc.bool_b, Sc.list_l, Sc.str_s, Nat.reduceEqDiff, if_false, List.getElem?_cons_zero, List.getElem?_cons_succ]
  unfold mulQ
  cases h1 : okF a b
  · simp only [noQ, Int.natCast_nonneg, bne_iff_ne, beq_iff_eq, ne_eq, decide_eq_true_eq, Bool.and_eq_true, Bool.or_eq_true, Bool.not_eq_true', decide_eq_false_iff_not, beq_eq_false_iff_ne, bne_eq_false_iff_eq, not_true_eq_false, not_false_eq_true, if_true, if_false, reduceIte, and_true, true_and, and_false, false_and, or_false, false_or, or_true, true_or, List.getD_cons_zero, List.getD_cons_succ, List.length_cons, List.length_nil, List.cons_append, List.nil_append, Nat.reduceAdd, Nat.reduceEqDiff, reduceCtorEq, Bool.not_true, Bool.not_false, Bool.true_and, Bool.and_true, Bool.false_and, Bool.and_false, Bool.or_true, Bool.true_or, Bool.or_false, Bool.false_or, Bool.false_eq_true, Bool.true_eq_false, Sc.int_i, Sc.bool_b, Sc.list_l, Sc.str_s, Int.reduceEq, Int.reduceLT, Int.reduceLE, Int.reduceNe, decide_true, decide_false, decide_not, eq_self, Classical.not_not, List.getElem?_cons_zero, List.getElem?_cons_succ, beq_self_eq_true, bne_self_eq_false]
  cases h2 : okF c d
  · simp only [noQ, Int.natCast_nonneg, bne_iff_ne, beq_iff_eq, ne_eq, decide_eq_true_eq, Bool.and_eq_true, Bool.or_eq_true, Bool.not_eq_true', decide_eq_false_iff_not, beq_eq_false_iff_ne, bne_eq_false_iff_eq, not_true_eq_false, not_false_eq_true, if_true, if_false, reduceIte, and_true, true_and, and_false, false_and, or_false, false_or, or_true, true_or, List.getD_cons_zero, List.getD_cons_succ, List.length_cons, List.length_nil, List.cons_append, List.nil_append, Nat.reduceAdd, Nat.reduceEqDiff, reduceCtorEq, Bool.not_true, Bool.not_false, Bool.true_and, Bool.and_true, Bool.false_and, Bool.and_false, Bool.or_true, Bool.true_or, Bool.or_false, Bool.false_or, Bool.false_eq_true, Bool.true_eq_false, Sc.int_i, Sc.bool_b, Sc.list_l, Sc.str_s, Int.reduceEq, Int.reduceLT, Int.reduceLE, Int.reduceNe, decide_true, decide_false, decide_not, eq_self, Classical.not_not, List.getElem?_cons_zero, List.getElem?_cons_succ, beq_self_eq_true, bne_self_eq_false]
  obtain ⟨q, rfl, rfl, hq⟩ := okF_q h1
  obtain ⟨r, rfl, rfl, hr⟩ := okF_q h2
  obtain ⟨a1, a2, a3, a4⟩ := fit_bounds hq
  obtain ⟨b1, b2, b3, b4⟩ := fit_bounds hr
  have u1 : IntKind.u64.wrap (q.den : Int) = q.den := wrU (by omega) (by omega)
  have u2 : IntKind.u64.wrap (r.den : Int) = r.den := wrU (by omega) (by omega)
  have hx : (!(decide (q.num < 0) == decide (r.num < 0))) = (decide (q.num < 0) != decide (r.num < 0)) := rfl
  have p := product_F _ (mul_sgn q.num r.num) (by omega) (by omega) (by omega) (by omega)
  obtain ⟨x, y, z, e⟩ := outQ_form (q * r)
  have o : (if true = true ∧ true = true then outQ (Rat.divInt q.num q.den * Rat.divInt r.num r.den) else noQ) = [.i x, .i y, .b z] := by rw [if_pos ⟨rfl, rfl⟩, divInt_q, divInt_q, e]
  rw [o]
  rw [e] at p
  rw [hx, u1, u2]
  simp only [p, Int.natCast_nonneg, bne_iff_ne, beq_iff_eq, ne_eq, decide_eq_true_eq, Bool.and_eq_true, Bool.or_eq_true, Bool.not_eq_true', decide_eq_false_iff_not, beq_eq_false_iff_ne, bne_eq_false_iff_eq, not_true_eq_false, not_false_eq_true, if_true, if_false, reduceIte, and_true, true_and, and_false, false_and, or_false, false_or, or_true, true_or, List.getD_cons_zero, List.getD_cons_succ, List.length_cons, List.length_nil, List.cons_append, List.nil_append, Nat.reduceAdd, Nat.reduceEqDiff, reduceCtorEq, Bool.not_true, Bool.not_false, Bool.true_and, Bool.and_true, Bool.false_and, Bool.and_false, Bool.or_true, Bool.true_or, Bool.or_false, Bool.false_or, Bool.false_eq_true, Bool.true_eq_false, Sc.int_i, Sc.bool_b, Sc.list_l, Sc.str_s, Int.reduceEq, Int.reduceLT, Int.reduceLE, Int.reduceNe, decide_true, decide_false, decide_not, eq_self, Classical.not_not, List.getElem?_cons_zero, List.getElem?_cons_succ, beq_self_eq_true, bne_self_eq_false]
theorem inv_num (r : Rat) (h : r.num ≠ 0) : (r⁻¹).num = sgn (decide (r.num < 0)) r.den ∧ (r⁻¹).den = r.num.natAbs := by
  rw [Rat.inv_def, Rat.num_divInt, Rat.den_divInt, if_neg h]
  have hg : Int.gcd r.num r.den = 1 := r.reduced
  have hg2 : Int.gcd (r.den : Int) r.num = 1 := by rw [Int.gcd_comm]; exact hg
  simp only [hg, hg2]
  refine ⟨?_, by simp⟩
  have hd := r.den_pos
  by_cases hn : r.num < 0
  · rw [Int.sign_eq_neg_one_of_neg hn, decide_eq_true hn]; simp [sgn]
  · rw [Int.sign_eq_one_of_pos (by omega), decide_eq_false hn]; simp [sgn]
theorem div_F (a b c d : Int) (ha : I64 a) (hb : I64 b) (hc : I64 c) (hd : I64 d) : k_frac_Div.F [.i a, .i b, .i c, .i d] = some (divQ a b c d) := by
  have v1 := valid_F a b ha hb
  have v2 := valid_F c d hc hd
  have s1 := size_F a ha
  have s2 := size_F c hc
  simp only [k_frac_Div_F, tk_frac_Div, k_frac_Valid_f, k_frac_size_f, k_frac_product_f, v1, v2, s1, s2, Go.Proofs.YtkjgcalkkfgmlaaDoor.T.den, Ex.ev, U1.ev, U2.ev, U3.ev, gam, List.map, List.getD_cons_zero, List.getD_cons_succ, List.length, List.cons_append, List.nil_append, if_true, Sc.int_i, Sc.bool_b, Sc.list_l, Sc.str_s, Nat.reduceEqDiff, if_false, List.getElem?_cons_zero, List.getElem?_cons_succ]
  unfold divQ
  cases h1 : okF a b
  · simp only [noQ, Int.natCast_nonneg, bne_iff_ne, beq_iff_eq, ne_eq, decide_eq_true_eq, Bool.and_eq_true, Bool.or_eq_true, Bool.not_eq_true', decide_eq_false_iff_not, beq_eq_false_iff_ne, bne_eq_false_iff_eq, not_true_eq_false, not_false_eq_true, if_true, if_false, reduceIte, and_true, true_and, and_false, false_and, or_false, false_or, or_true, true_or, List.getD_cons_zero, List.getD_cons_succ, List.length_cons, List.length_nil, List.cons_append, List.nil_append, Nat.reduceAdd, Nat.reduceEqDiff, reduceCtorEq, Bool.not_true, Bool.not_false, Bool.true_and, Bool.and_true, Bool.false_and, Bool.and_false, Bool.or_true, Bool.true_or, Bool.or_false, Bool.false_or, Bool.false_eq_true, Bool.true_eq_false, Sc.int_i, Sc.bool_b, Sc.list_l, Sc.str_s, Int.reduceEq, Int.reduceLT, Int.reduceLE, Int.reduceNe, decide_true, decide_false, decide_not, eq_self, Classical.not_not, List.getElem?_cons_zero, List.getElem?_cons_succ, beq_self_eq_true, bne_self_eq_false]
  cases h2 : okF c d
  · simp only [noQ, Int.natCast_nonneg, bne_iff_ne, beq_iff_eq, ne_eq, decide_eq_true_eq, Bool.and_eq_true, Bool.or_eq_true, Bool.not_eq_true', decide_eq_false_iff_not, beq_eq_false_iff_ne, bne_eq_false_iff_eq, not_true_eq_false, not_false_eq_true, if_true, if_false, reduceIte, and_true, true_and, and_false, false_and, or_false, false_or, or_true, true_or, List.getD_cons_zero, List.getD_cons_succ, List.length_cons, List.length_nil, List.cons_append, List.nil_append, Nat.reduceAdd, Nat.reduceEqDiff, reduceCtorEq, Bool.not_true, Bool.not_false, Bool.true_and, Bool.and_true, Bool.false_and, Bool.and_false, Bool.or_true, Bool.true_or, Bool.or_false, Bool.false_or, Bool.false_eq_true, Bool.true_eq_false, Sc.int_i, Sc.bool_b, Sc.list_l, Sc.str_s, Int.reduceEq, Int.reduceLT, Int.reduceLE, Int.reduceNe, decide_true, decide_false, decide_not, eq_self, Classical.not_not, List.getElem?_cons_zero, List.getElem?_cons_succ, beq_self_eq_true, bne_self_eq_false]
  obtain ⟨q, rfl, rfl, hq⟩ := okF_q h1
  obtain ⟨r, rfl, rfl, hr⟩ := okF_q h2
  by_cases h0 : r.num = 0
  · simp only [h0, noQ, Int.natCast_nonneg, bne_iff_ne, beq_iff_eq, ne_eq, decide_eq_true_eq, Bool.and_eq_true, Bool.or_eq_true, Bool.not_eq_true', decide_eq_false_iff_not, beq_eq_false_iff_ne, bne_eq_false_iff_eq, not_true_eq_false, not_false_eq_true, if_true, if_false, reduceIte, and_true, true_and, and_false, false_and, or_false, false_or, or_true, true_or, List.getD_cons_zero, List.getD_cons_succ, List.length_cons, List.length_nil, List.cons_append, List.nil_append, Nat.reduceAdd, Nat.reduceEqDiff, reduceCtorEq, Bool.not_true, Bool.not_false, Bool.true_and, Bool.and_true, Bool.false_and, Bool.and_false, Bool.or_true, Bool.true_or, Bool.or_false, Bool.false_or, Bool.false_eq_true, Bool.true_eq_false, Sc.int_i, Sc.bool_b, Sc.list_l, Sc.str_s, Int.reduceEq, Int.reduceLT, Int.reduceLE, Int.reduceNe, decide_true, decide_false, decide_not, eq_self, Classical.not_not, List.getElem?_cons_zero, List.getElem?_cons_succ, beq_self_eq_true, bne_self_eq_false]
  obtain ⟨a1, a2, a3, a4⟩ := fit_bounds hq
  obtain ⟨b1, b2, b3, b4⟩ := fit_bounds hr
  have u1 : IntKind.u64.wrap (q.den : Int) = q.den := wrU (by omega) (by omega)
  have u2 : IntKind.u64.wrap (r.den : Int) = r.den := wrU (by omega) (by omega)
  obtain ⟨i1, i2⟩ := inv_num r h0
  have hx : (!(decide (q.num < 0) == decide (r.num < 0))) = (decide (q.num < 0) != decide (r.num < 0)) := rfl
  have ia : (r⁻¹).num.natAbs = r.den := by rw [i1, sgn_abs]
  have is : decide ((r⁻¹).num < 0) = decide (r.num < 0) := by
    have := r.den_pos
    rw [i1]
    cases decide (r.num < 0) <;> simp [sgn]; omega
  have ms := mul_sgn q.num (r⁻¹).num
  rw [is] at ms
  have p := product_F (p := q) (r := r⁻¹) _ ms (by omega) (by omega) (by omega) (by omega)
  rw [ia, i2] at p
  obtain ⟨x, y, z, e⟩ := outQ_form (q * r⁻¹)
  have o : (if true = true ∧ true = true ∧ r.num ≠ 0 then outQ (Rat.divInt q.num q.den / Rat.divInt r.num r.den) else noQ) = [.i x, .i y, .b z] := by rw [if_pos ⟨rfl, rfl, h0⟩, divInt_q, divInt_q, Rat.div_def, e]
  rw [o]
  rw [e] at p
  rw [hx, u1, u2]
  simp only [h0, p, Int.natCast_nonneg, bne_iff_ne, beq_iff_eq, ne_eq, decide_eq_true_eq, Bool.and_eq_true, Bool.or_eq_true, Bool.not_eq_true', decide_eq_false_iff_not, beq_eq_false_iff_ne, bne_eq_false_iff_eq, not_true_eq_false, not_false_eq_true, if_true, if_false, reduceIte, and_true, true_and, and_false, false_and, or_false, false_or, or_true, true_or, List.getD_cons_zero, List.getD_cons_succ, List.length_cons, List.length_nil, List.cons_append, List.nil_append, Nat.reduceAdd, Nat.reduceEqDiff, reduceCtorEq, Bool.not_true, Bool.not_false, Bool.true_and, Bool.and_true, Bool.false_and, Bool.and_false, Bool.or_true, Bool.true_or, Bool.or_false, Bool.false_or, Bool.false_eq_true, Bool.true_eq_false, Sc.int_i, Sc.bool_b, Sc.list_l, Sc.str_s, Int.reduceEq, Int.reduceLT, Int.reduceLE, Int.reduceNe, decide_true, decide_false, decide_not, eq_self, Classical.not_not, List.getElem?_cons_zero, List.getElem?_cons_succ, beq_self_eq_true, bne_self_eq_false]
theorem mulQ_form (a b c d : Int) : ∃ x y z, mulQ a b c d = [.i x, .i y, .b z] := by
  unfold mulQ; split
  · exact outQ_form _
  · exact ⟨_, _, _, rfl⟩
theorem divQ_form (a b c d : Int) : ∃ x y z, divQ a b c d = [.i x, .i y, .b z] := by
  unfold divQ; split
  · exact outQ_form _
  · exact ⟨_, _, _, rfl⟩
end Go.Proofs.YtkjgcalkkfgmlaaDoor
