/-
  Chapter 02: what Floor and its reference return.
-/
import Derived.Test.YtkjgcalkkfgmlaaDoorM02
namespace Go.Proofs.YtkjgcalkkfgmlaaDoor
set_option linter.unusedSimpArgs false

/-- A fraction times a number, rounded down. -/
def floorN (n : Int) (d k : Nat) : Nat := if n < 0 ∧ n.natAbs * k % d ≠ 0 then n.natAbs * k / d + 1 else n.natAbs * k / d
def floorQ (n d k : Int) : List Sc := if okF n d = true ∧ 0 ≤ k ∧ k ≤ 1000000000000 then (if floorN n d.toNat k.toNat ≤ maxN then [.i (sgn (decide (n < 0)) (floorN n d.toNat k.toNat)), .b true] else [.i 0, .b false]) else [.i 0, .b false]
theorem floorQ_out {n d k : Int} (h : ¬ (okF n d = true ∧ 0 ≤ k ∧ k ≤ 1000000000000)) : floorQ n d k = [.i 0, .b false] := if_neg h
theorem floorQ_in {n d k : Int} (h : okF n d = true ∧ 0 ≤ k ∧ k ≤ 1000000000000) : floorQ n d k = if floorN n d.toNat k.toNat ≤ maxN then [.i (sgn (decide (n < 0)) (floorN n d.toNat k.toNat)), .b true] else [.i 0, .b false] := if_pos h
theorem ffloor_F (n d k : Int) (hn : I64 n) (hd : I64 d) : k_frac_Floor.F [.i n, .i d, .i k] = some (floorQ n d k) := by
  simp only [k_frac_Floor_F, tk_frac_Floor, k_frac_Valid_f, k_frac_size_f, k_frac_times_f, k_frac_wide_over_f, k_frac_wide_mod_f, valid_F n d hn hd, Go.Proofs.YtkjgcalkkfgmlaaDoor.T.den, Ex.ev, U1.ev, U2.ev, U3.ev, gam, List.map, List.getD_cons_zero, List.getD_cons_succ, List.length, List.cons_append, List.nil_append, if_true, Sc.int_i, Sc.bool_b, Sc.list_l, Sc.str_s, Nat.reduceEqDiff, if_false, List.getElem?_cons_zero, List.getElem?_cons_succ]
  cases ho : okF n d
  · rw [floorQ_out (by simp [ho])]; simp only [Int.natCast_nonneg, bne_iff_ne, beq_iff_eq, ne_eq, decide_eq_true_eq, Bool.and_eq_true, Bool.or_eq_true, Bool.not_eq_true', decide_eq_false_iff_not, beq_eq_false_iff_ne, bne_eq_false_iff_eq, not_true_eq_false, not_false_eq_true, if_true, if_false, reduceIte, and_true, true_and, and_false, false_and, or_false, false_or, or_true, true_or, List.getD_cons_zero, List.getD_cons_succ, List.length_cons, List.length_nil, List.cons_append, List.nil_append, Nat.reduceAdd, Nat.reduceEqDiff, reduceCtorEq, Bool.not_true, Bool.not_false, Bool.true_and, Bool.and_true, Bool.false_and, Bool.and_false, Bool.or_true, Bool.true_or, Bool.or_false, Bool.false_or, Bool.false_eq_true, Bool.true_eq_false, Sc.int_i, Sc.bool_b, Sc.list_l, Sc.str_s, Int.reduceEq, Int.reduceLT, Int.reduceLE, Int.reduceNe, decide_true, decide_false, decide_not, eq_self, Classical.not_not, List.getElem?_cons_zero, List.getElem?_cons_succ, beq_self_eq_true, bne_self_eq_false]
  by_cases h1 : k < 0
  · rw [floorQ_out (by omega)]; simp only [h1, Int.natCast_nonneg, bne_iff_ne, beq_iff_eq, ne_eq, decide_eq_true_eq, Bool.and_eq_true, Bool.or_eq_true, Bool.not_eq_true', decide_eq_false_iff_not, beq_eq_false_iff_ne, bne_eq_false_iff_eq, not_true_eq_false, not_false_eq_true, if_true, if_false, reduceIte, and_true, true_and, and_false, false_and, or_false, false_or, or_true, true_or, List.getD_cons_zero, List.getD_cons_succ, List.length_cons, List.length_nil, List.cons_append, List.nil_append, Nat.reduceAdd, Nat.reduceEqDiff, reduceCtorEq, Bool.not_true, Bool.not_false, Bool.true_and, Bool.and_true, Bool.false_and, Bool.and_false, Bool.or_true, Bool.true_or, Bool.or_false, Bool.false_or, Bool.false_eq_true, Bool.true_eq_false, Sc.int_i, Sc.bool_b, Sc.list_l, Sc.str_s, Int.reduceEq, Int.reduceLT, Int.reduceLE, Int.reduceNe, decide_true, decide_false, decide_not, eq_self, Classical.not_not, List.getElem?_cons_zero, List.getElem?_cons_succ, beq_self_eq_true, bne_self_eq_false]
  by_cases h2 : 1000000000000 < k
  · rw [floorQ_out (by omega)]; simp only [h1, h2, Int.natCast_nonneg, bne_iff_ne, beq_iff_eq, ne_eq, decide_eq_true_eq, Bool.and_eq_true, Bool.or_eq_true, Bool.not_eq_true', decide_eq_false_iff_not, beq_eq_false_iff_ne, bne_eq_false_iff_eq, not_true_eq_false, not_false_eq_true, if_true, if_false, reduceIte, and_true, true_and, and_false, false_and, or_false, false_or, or_true, true_or, List.getD_cons_zero, List.getD_cons_succ, List.length_cons, List.length_nil, List.cons_append, List.nil_append, Nat.reduceAdd, Nat.reduceEqDiff, reduceCtorEq, Bool.not_true, Bool.not_false, Bool.true_and, Bool.and_true, Bool.false_and, Bool.and_false, Bool.or_true, Bool.true_or, Bool.or_false, Bool.false_or, Bool.false_eq_true, Bool.true_eq_false, Sc.int_i, Sc.bool_b, Sc.list_l, Sc.str_s, Int.reduceEq, Int.reduceLT, Int.reduceLE, Int.reduceNe, decide_true, decide_false, decide_not, eq_self, Classical.not_not, List.getElem?_cons_zero, List.getElem?_cons_succ, beq_self_eq_true, bne_self_eq_false]
  rw [floorQ_in ⟨ho, by omega, by omega⟩]
  obtain ⟨q, rfl, rfl, hq⟩ := okF_q ho
  obtain ⟨b1, b2, b3, b4⟩ := fit_bounds hq
  obtain ⟨K, rfl⟩ : ∃ K : Nat, k = K := ⟨k.toNat, by omega⟩
  have s1 := size_F q.num hn
  have wk : IntKind.u64.wrap (K : Int) = K := wrU (by omega) (by omega)
  have wd : IntKind.u64.wrap (q.den : Int) = q.den := wrU (by omega) (by omega)
  have t1 := times_F q.num.natAbs K (by omega) (by omega)
  have hprod : q.num.natAbs * K ≤ 4611686018427387904 * 1000000000000 := Nat.mul_le_mul (by omega) (by omega)
  have o1 := wover_F (q.num.natAbs * K) q.den (by omega) (by omega)
  have m1 := wmod_F (q.num.natAbs * K) q.den (by omega) (by omega)
  rw [Int.toNat_natCast, Int.toNat_natCast]
  unfold floorN
  generalize q.num.natAbs * K = w at *
  have hdl := Nat.div_le_self w q.den
  by_cases h3 : w / q.den < 18446744073709551616
  · rw [if_pos h3] at o1
    by_cases h4 : (4611686018427387904 : Int) < ((w / q.den : Nat) : Int)
    · have : ¬ (if q.num < 0 ∧ w % q.den ≠ 0 then w / q.den + 1 else w / q.den) ≤ maxN := by unfold maxN; split <;> omega
      rw [if_neg this]
      simp only [h1, h2, s1, wk, wd, t1, o1, h4, Int.natCast_nonneg, bne_iff_ne, beq_iff_eq, ne_eq, decide_eq_true_eq, Bool.and_eq_true, Bool.or_eq_true, Bool.not_eq_true', decide_eq_false_iff_not, beq_eq_false_iff_ne, bne_eq_false_iff_eq, not_true_eq_false, not_false_eq_true, if_true, if_false, reduceIte, and_true, true_and, and_false, false_and, or_false, false_or, or_true, true_or, List.getD_cons_zero, List.getD_cons_succ, List.length_cons, List.length_nil, List.cons_append, List.nil_append, Nat.reduceAdd, Nat.reduceEqDiff, reduceCtorEq, Bool.not_true, Bool.not_false, Bool.true_and, Bool.and_true, Bool.false_and, Bool.and_false, Bool.or_true, Bool.true_or, Bool.or_false, Bool.false_or, Bool.false_eq_true, Bool.true_eq_false, Sc.int_i, Sc.bool_b, Sc.list_l, Sc.str_s, Int.reduceEq, Int.reduceLT, Int.reduceLE, Int.reduceNe, decide_true, decide_false, decide_not, eq_self, Classical.not_not, List.getElem?_cons_zero, List.getElem?_cons_succ, beq_self_eq_true, bne_self_eq_false]
    · by_cases h5 : q.num < 0
      · by_cases h6 : w % q.den = 0
        · have h6' : ¬ (0 : Int) < ((w % q.den : Nat) : Int) := by omega
          have ef : (if q.num < 0 ∧ w % q.den ≠ 0 then w / q.den + 1 else w / q.den) = w / q.den := if_neg (fun h => h.2 h6)
          have hc : w / q.den ≤ maxN := by unfold maxN; omega
          rw [ef, if_pos hc]
          have w1 : IntKind.i64.wrap ((w / q.den : Nat) : Int) = ((w / q.den : Nat) : Int) := by
            generalize w / q.den = z at *
            exact wrI (by omega) (by omega)
          have w2 : IntKind.i64.wrap (0 - ((w / q.den : Nat) : Int)) = -((w / q.den : Nat) : Int) := by
            generalize w / q.den = z at *
            rw [wrI (by omega) (by omega)]; omega
          simp only [h1, h2, s1, wk, wd, t1, o1, m1, h4, h5, h6', w1, w2, sgn, Int.natCast_nonneg, bne_iff_ne, beq_iff_eq, ne_eq, decide_eq_true_eq, Bool.and_eq_true, Bool.or_eq_true, Bool.not_eq_true', decide_eq_false_iff_not, beq_eq_false_iff_ne, bne_eq_false_iff_eq, not_true_eq_false, not_false_eq_true, if_true, if_false, reduceIte, and_true, true_and, and_false, false_and, or_false, false_or, or_true, true_or, List.getD_cons_zero, List.getD_cons_succ, List.length_cons, List.length_nil, List.cons_append, List.nil_append, Nat.reduceAdd, Nat.reduceEqDiff, reduceCtorEq, Bool.not_true, Bool.not_false, Bool.true_and, Bool.and_true, Bool.false_and, Bool.and_false, Bool.or_true, Bool.true_or, Bool.or_false, Bool.false_or, Bool.false_eq_true, Bool.true_eq_false, Sc.int_i, Sc.bool_b, Sc.list_l, Sc.str_s, Int.reduceEq, Int.reduceLT, Int.reduceLE, Int.reduceNe, decide_true, decide_false, decide_not, eq_self, Classical.not_not, List.getElem?_cons_zero, List.getElem?_cons_succ, beq_self_eq_true, bne_self_eq_false]
        · have h6' : (0 : Int) < ((w % q.den : Nat) : Int) := by omega
          have ef : (if q.num < 0 ∧ w % q.den ≠ 0 then w / q.den + 1 else w / q.den) = w / q.den + 1 := if_pos ⟨h5, h6⟩
          rw [ef]
          have wa : IntKind.u64.wrap (((w / q.den : Nat) : Int) + 1) = ((w / q.den + 1 : Nat) : Int) := by
            generalize w / q.den = z at *
            rw [wrU (by omega) (by omega)]; omega
          by_cases h7 : (4611686018427387904 : Int) < ((w / q.den + 1 : Nat) : Int)
          · have hc : ¬ w / q.den + 1 ≤ maxN := by unfold maxN; omega
            rw [if_neg hc]
            simp only [h1, h2, s1, wk, wd, t1, o1, m1, h4, h5, h6', wa, h7, Int.natCast_nonneg, bne_iff_ne, beq_iff_eq, ne_eq, decide_eq_true_eq, Bool.and_eq_true, Bool.or_eq_true, Bool.not_eq_true', decide_eq_false_iff_not, beq_eq_false_iff_ne, bne_eq_false_iff_eq, not_true_eq_false, not_false_eq_true, if_true, if_false, reduceIte, and_true, true_and, and_false, false_and, or_false, false_or, or_true, true_or, List.getD_cons_zero, List.getD_cons_succ, List.length_cons, List.length_nil, List.cons_append, List.nil_append, Nat.reduceAdd, Nat.reduceEqDiff, reduceCtorEq, Bool.not_true, Bool.not_false, Bool.true_and, Bool.and_true, Bool.false_and, Bool.and_false, Bool.or_true, Bool.true_or, Bool.or_false, Bool.false_or, Bool.false_eq_true, Bool.true_eq_false, Sc.int_i, Sc.bool_b, Sc.list_l, Sc.str_s, Int.reduceEq, Int.reduceLT, Int.reduceLE, Int.reduceNe, decide_true, decide_false, decide_not, eq_self, Classical.not_not, List.getElem?_cons_zero, List.getElem?_cons_succ, beq_self_eq_true, bne_self_eq_false]
          · have hc : w / q.den + 1 ≤ maxN := by unfold maxN; omega
            rw [if_pos hc]
            have w1 : IntKind.i64.wrap ((w / q.den + 1 : Nat) : Int) = ((w / q.den + 1 : Nat) : Int) := by
              generalize w / q.den = z at *
              exact wrI (by omega) (by omega)
            have w2 : IntKind.i64.wrap (0 - ((w / q.den + 1 : Nat) : Int)) = -((w / q.den + 1 : Nat) : Int) := by
              generalize w / q.den = z at *
              rw [wrI (by omega) (by omega)]; omega
            simp only [h1, h2, s1, wk, wd, t1, o1, m1, h4, h5, h6', wa, h7, w1, w2, sgn, Int.natCast_nonneg, bne_iff_ne, beq_iff_eq, ne_eq, decide_eq_true_eq, Bool.and_eq_true, Bool.or_eq_true, Bool.not_eq_true', decide_eq_false_iff_not, beq_eq_false_iff_ne, bne_eq_false_iff_eq, not_true_eq_false, not_false_eq_true, if_true, if_false, reduceIte, and_true, true_and, and_false, false_and, or_false, false_or, or_true, true_or, List.getD_cons_zero, List.getD_cons_succ, List.length_cons, List.length_nil, List.cons_append, List.nil_append, Nat.reduceAdd, Nat.reduceEqDiff, reduceCtorEq, Bool.not_true, Bool.not_false, Bool.true_and, Bool.and_true, Bool.false_and, Bool.and_false, Bool.or_true, Bool.true_or, Bool.or_false, Bool.false_or, Bool.false_eq_true, Bool.true_eq_false, Sc.int_i, Sc.bool_b, Sc.list_l, Sc.str_s, Int.reduceEq, Int.reduceLT, Int.reduceLE, Int.reduceNe, decide_true, decide_false, decide_not, eq_self, Classical.not_not, List.getElem?_cons_zero, List.getElem?_cons_succ, beq_self_eq_true, bne_self_eq_false]
      · have ef : (if q.num < 0 ∧ w % q.den ≠ 0 then w / q.den + 1 else w / q.den) = w / q.den := if_neg (fun h => h5 h.1)
        have hc : w / q.den ≤ maxN := by unfold maxN; omega
        rw [ef, if_pos hc]
        have w1 : IntKind.i64.wrap ((w / q.den : Nat) : Int) = ((w / q.den : Nat) : Int) := by
          generalize w / q.den = z at *
          exact wrI (by omega) (by omega)
        simp only [h1, h2, s1, wk, wd, t1, o1, h4, h5, w1, sgn, Int.natCast_nonneg, bne_iff_ne, beq_iff_eq, ne_eq, decide_eq_true_eq, Bool.and_eq_true, Bool.or_eq_true, Bool.not_eq_true', decide_eq_false_iff_not, beq_eq_false_iff_ne, bne_eq_false_iff_eq, not_true_eq_false, not_false_eq_true, if_true, if_false, reduceIte, and_true, true_and, and_false, false_and, or_false, false_or, or_true, true_or, List.getD_cons_zero, List.getD_cons_succ, List.length_cons, List.length_nil, List.cons_append, List.nil_append, Nat.reduceAdd, Nat.reduceEqDiff, reduceCtorEq, Bool.not_true, Bool.not_false, Bool.true_and, Bool.and_true, Bool.false_and, Bool.and_false, Bool.or_true, Bool.true_or, Bool.or_false, Bool.false_or, Bool.false_eq_true, Bool.true_eq_false, Sc.int_i, Sc.bool_b, Sc.list_l, Sc.str_s, Int.reduceEq, Int.reduceLT, Int.reduceLE, Int.reduceNe, decide_true, decide_false, decide_not, eq_self, Classical.not_not, List.getElem?_cons_zero, List.getElem?_cons_succ, beq_self_eq_true, bne_self_eq_false]
  · rw [if_neg h3] at o1
    have : ¬ (if q.num < 0 ∧ w % q.den ≠ 0 then w / q.den + 1 else w / q.den) ≤ maxN := by unfold maxN; split <;> omega
    rw [if_neg this]
    simp only [h1, h2, s1, wk, wd, t1, o1, Int.natCast_nonneg, bne_iff_ne, beq_iff_eq, ne_eq, decide_eq_true_eq, Bool.and_eq_true, Bool.or_eq_true, Bool.not_eq_true', decide_eq_false_iff_not, beq_eq_false_iff_ne, bne_eq_false_iff_eq, not_true_eq_false, not_false_eq_true, if_true, if_false, reduceIte, and_true, true_and, and_false, false_and, or_false, false_or, or_true, true_or, List.getD_cons_zero, List.getD_cons_succ, List.length_cons, List.length_nil, List.cons_append, List.nil_append, Nat.reduceAdd, Nat.reduceEqDiff, reduceCtorEq, Bool.not_true, Bool.not_false, Bool.true_and, Bool.and_true, Bool.false_and, Bool.and_false, Bool.or_true, Bool.true_or, Bool.or_false, Bool.false_or, Bool.false_eq_true, Bool.true_eq_false, Sc.int_i, Sc.bool_b, Sc.list_l, Sc.str_s, Int.reduceEq, Int.reduceLT, Int.reduceLE, Int.reduceNe, decide_true, decide_false, decide_not, eq_self, Classical.not_not, List.getElem?_cons_zero, List.getElem?_cons_succ, beq_self_eq_true, bne_self_eq_false]
theorem hl_one : hiW 1 = 0 ∧ loW 1 = 1 := ⟨rfl, rfl⟩
theorem rfloor_F (n d k : Int) (hn : I64 n) (hd : I64 d) : k_simulatorref02_Floor.F [.i n, .i d, .i k] = some (floorQ n d k) := by
  simp only [k_simulatorref02_Floor_F, tk_simulatorref02_Floor, k_simulatorref02_Valid_f, k_simulatorref02_Size_f, k_simulatorref02_Times_f, k_simulatorref02_Divide_f, k_simulatorref02_Plus_f, rValid_F n d hn hd, Go.Proofs.YtkjgcalkkfgmlaaDoor.T.den, Ex.ev, U1.ev, U2.ev, U3.ev, gam, List.map, List.getD_cons_zero, List.getD_cons_succ, List.length, List.cons_append, List.nil_append, if_true, Sc.int_i, Sc.bool_b, Sc.list_l, Sc.str_s, Nat.reduceEqDiff, if_false, List.getElem?_cons_zero, List.getElem?_cons_succ]
  cases ho : okF n d
  · rw [floorQ_out (by simp [ho])]; simp only [Int.natCast_nonneg, bne_iff_ne, beq_iff_eq, ne_eq, decide_eq_true_eq, Bool.and_eq_true, Bool.or_eq_true, Bool.not_eq_true', decide_eq_false_iff_not, beq_eq_false_iff_ne, bne_eq_false_iff_eq, not_true_eq_false, not_false_eq_true, if_true, if_false, reduceIte, and_true, true_and, and_false, false_and, or_false, false_or, or_true, true_or, List.getD_cons_zero, List.getD_cons_succ, List.length_cons, List.length_nil, List.cons_append, List.nil_append, Nat.reduceAdd, Nat.reduceEqDiff, reduceCtorEq, Bool.not_true, Bool.not_false, Bool.true_and, Bool.and_true, Bool.false_and, Bool.and_false, Bool.or_true, Bool.true_or, Bool.or_false, Bool.false_or, Bool.false_eq_true, Bool.true_eq_false, Sc.int_i, Sc.bool_b, Sc.list_l, Sc.str_s, Int.reduceEq, Int.reduceLT, Int.reduceLE, Int.reduceNe, decide_true, decide_false, decide_not, eq_self, Classical.not_not, List.getElem?_cons_zero, List.getElem?_cons_succ, beq_self_eq_true, bne_self_eq_false]
  by_cases h1 : k < 0
  · rw [floorQ_out (by omega)]; simp only [h1, Int.natCast_nonneg, bne_iff_ne, beq_iff_eq, ne_eq, decide_eq_true_eq, Bool.and_eq_true, Bool.or_eq_true, Bool.not_eq_true', decide_eq_false_iff_not, beq_eq_false_iff_ne, bne_eq_false_iff_eq, not_true_eq_false, not_false_eq_true, if_true, if_false, reduceIte, and_true, true_and, and_false, false_and, or_false, false_or, or_true, true_or, List.getD_cons_zero, List.getD_cons_succ, List.length_cons, List.length_nil, List.cons_append, List.nil_append, Nat.reduceAdd, Nat.reduceEqDiff, reduceCtorEq, Bool.not_true, Bool.not_false, Bool.true_and, Bool.and_true, Bool.false_and, Bool.and_false, Bool.or_true, Bool.true_or, Bool.or_false, Bool.false_or, Bool.false_eq_true, Bool.true_eq_false, Sc.int_i, Sc.bool_b, Sc.list_l, Sc.str_s, Int.reduceEq, Int.reduceLT, Int.reduceLE, Int.reduceNe, decide_true, decide_false, decide_not, eq_self, Classical.not_not, List.getElem?_cons_zero, List.getElem?_cons_succ, beq_self_eq_true, bne_self_eq_false]
  by_cases h2 : 1000000000000 < k
  · rw [floorQ_out (by omega)]; simp only [h1, h2, Int.natCast_nonneg, bne_iff_ne, beq_iff_eq, ne_eq, decide_eq_true_eq, Bool.and_eq_true, Bool.or_eq_true, Bool.not_eq_true', decide_eq_false_iff_not, beq_eq_false_iff_ne, bne_eq_false_iff_eq, not_true_eq_false, not_false_eq_true, if_true, if_false, reduceIte, and_true, true_and, and_false, false_and, or_false, false_or, or_true, true_or, List.getD_cons_zero, List.getD_cons_succ, List.length_cons, List.length_nil, List.cons_append, List.nil_append, Nat.reduceAdd, Nat.reduceEqDiff, reduceCtorEq, Bool.not_true, Bool.not_false, Bool.true_and, Bool.and_true, Bool.false_and, Bool.and_false, Bool.or_true, Bool.true_or, Bool.or_false, Bool.false_or, Bool.false_eq_true, Bool.true_eq_false, Sc.int_i, Sc.bool_b, Sc.list_l, Sc.str_s, Int.reduceEq, Int.reduceLT, Int.reduceLE, Int.reduceNe, decide_true, decide_false, decide_not, eq_self, Classical.not_not, List.getElem?_cons_zero, List.getElem?_cons_succ, beq_self_eq_true, bne_self_eq_false]
  rw [floorQ_in ⟨ho, by omega, by omega⟩]
  obtain ⟨q, rfl, rfl, hq⟩ := okF_q ho
  obtain ⟨b1, b2, b3, b4⟩ := fit_bounds hq
  obtain ⟨K, rfl⟩ : ∃ K : Nat, k = K := ⟨k.toNat, by omega⟩
  have s1 := refSize_F q.num hn
  have s2 := refSize_F (K : Int) ⟨by omega, by omega⟩
  have s3 := refSize_F (q.den : Int) hd
  rw [Int.natAbs_natCast] at s2 s3
  have t1 := rTimes_F q.num.natAbs K (by omega) (by omega)
  have hprod : q.num.natAbs * K ≤ 4611686018427387904 * 1000000000000 := Nat.mul_le_mul (by omega) (by omega)
  have dv := divide_F (q.num.natAbs * K) q.den (by omega) (by omega) (by omega)
  have e1 := hi_small (x := q.den) (by omega)
  have e2 := lo_small (x := q.den) (by omega)
  rw [e1, e2] at dv
  rw [Int.toNat_natCast, Int.toNat_natCast]
  unfold floorN
  generalize q.num.natAbs * K = w at *
  have hdl := Nat.div_le_self w q.den
  have hz := w_zero (x := w % q.den)
  have pl := plus_F (w / q.den) 1 (by omega)
  rw [hl_one.1, hl_one.2] at pl
  -- the last steps, for any quotient
  have fin : ∀ z : Nat, (hiW z = 0 → loW z = z) ∧ (¬ hiW z = 0 → ¬ z ≤ maxN) := fun z => by
    refine ⟨fun h => ?_, fun h hle => h (hi_small (by unfold maxN at hle; omega))⟩
    have := hi_lo z
    rw [h] at this; omega
  by_cases h5 : q.num < 0
  · by_cases h6 : w % q.den = 0
    · have hz' := hz.2 h6
      have ef : (if q.num < 0 ∧ w % q.den ≠ 0 then w / q.den + 1 else w / q.den) = w / q.den := if_neg (fun h => h.2 h6)
      rw [ef]
      generalize w / q.den = z at *
      obtain ⟨f1, f2⟩ := fin z
      by_cases h7 : hiW z = 0
      · have f3 := f1 h7
        by_cases h8 : (4611686018427387904 : Int) < (z : Int)
        · rw [if_neg (show ¬ z ≤ maxN by unfold maxN; omega)]
          simp only [h1, h2, s1, s2, s3, t1, dv, hz'.1, hz'.2, h5, h7, f3, h8, Int.natCast_nonneg, bne_iff_ne, beq_iff_eq, ne_eq, decide_eq_true_eq, Bool.and_eq_true, Bool.or_eq_true, Bool.not_eq_true', decide_eq_false_iff_not, beq_eq_false_iff_ne, bne_eq_false_iff_eq, not_true_eq_false, not_false_eq_true, if_true, if_false, reduceIte, and_true, true_and, and_false, false_and, or_false, false_or, or_true, true_or, List.getD_cons_zero, List.getD_cons_succ, List.length_cons, List.length_nil, List.cons_append, List.nil_append, Nat.reduceAdd, Nat.reduceEqDiff, reduceCtorEq, Bool.not_true, Bool.not_false, Bool.true_and, Bool.and_true, Bool.false_and, Bool.and_false, Bool.or_true, Bool.true_or, Bool.or_false, Bool.false_or, Bool.false_eq_true, Bool.true_eq_false, Sc.int_i, Sc.bool_b, Sc.list_l, Sc.str_s, Int.reduceEq, Int.reduceLT, Int.reduceLE, Int.reduceNe, decide_true, decide_false, decide_not, eq_self, Classical.not_not, List.getElem?_cons_zero, List.getElem?_cons_succ, beq_self_eq_true, bne_self_eq_false]
        · rw [if_pos (show z ≤ maxN by unfold maxN; omega)]
          have w1 : IntKind.i64.wrap (z : Int) = z := wrI (by omega) (by omega)
          have w2 : IntKind.i64.wrap (0 - (z : Int)) = -(z : Int) := by rw [wrI (by omega) (by omega)]; omega
          simp only [h1, h2, s1, s2, s3, t1, dv, hz'.1, hz'.2, h5, h7, f3, h8, w1, w2, sgn, Int.natCast_nonneg, bne_iff_ne, beq_iff_eq, ne_eq, decide_eq_true_eq, Bool.and_eq_true, Bool.or_eq_true, Bool.not_eq_true', decide_eq_false_iff_not, beq_eq_false_iff_ne, bne_eq_false_iff_eq, not_true_eq_false, not_false_eq_true, if_true, if_false, reduceIte, and_true, true_and, and_false, false_and, or_false, false_or, or_true, true_or, List.getD_cons_zero, List.getD_cons_succ, List.length_cons, List.length_nil, List.cons_append, List.nil_append, Nat.reduceAdd, Nat.reduceEqDiff, reduceCtorEq, Bool.not_true, Bool.not_false, Bool.true_and, Bool.and_true, Bool.false_and, Bool.and_false, Bool.or_true, Bool.true_or, Bool.or_false, Bool.false_or, Bool.false_eq_true, Bool.true_eq_false, Sc.int_i, Sc.bool_b, Sc.list_l, Sc.str_s, Int.reduceEq, Int.reduceLT, Int.reduceLE, Int.reduceNe, decide_true, decide_false, decide_not, eq_self, Classical.not_not, List.getElem?_cons_zero, List.getElem?_cons_succ, beq_self_eq_true, bne_self_eq_false]
      · rw [if_neg (f2 h7)]
        simp only [h1, h2, s1, s2, s3, t1, dv, hz'.1, hz'.2, h5, h7, Int.natCast_nonneg, bne_iff_ne, beq_iff_eq, ne_eq, decide_eq_true_eq, Bool.and_eq_true, Bool.or_eq_true, Bool.not_eq_true', decide_eq_false_iff_not, beq_eq_false_iff_ne, bne_eq_false_iff_eq, not_true_eq_false, not_false_eq_true, if_true, if_false, reduceIte, and_true, true_and, and_false, false_and, or_false, false_or, or_true, true_or, List.getD_cons_zero, List.getD_cons_succ, List.length_cons, List.length_nil, List.cons_append, List.nil_append, Nat.reduceAdd, Nat.reduceEqDiff, reduceCtorEq, Bool.not_true, Bool.not_false, Bool.true_and, Bool.and_true, Bool.false_and, Bool.and_false, Bool.or_true, Bool.true_or, Bool.or_false, Bool.false_or, Bool.false_eq_true, Bool.true_eq_false, Sc.int_i, Sc.bool_b, Sc.list_l, Sc.str_s, Int.reduceEq, Int.reduceLT, Int.reduceLE, Int.reduceNe, decide_true, decide_false, decide_not, eq_self, Classical.not_not, List.getElem?_cons_zero, List.getElem?_cons_succ, beq_self_eq_true, bne_self_eq_false]
    · have hz' : ((hiW (w % q.den) == 0) && (loW (w % q.den) == 0)) = false := by
        rw [Bool.and_eq_false_iff, beq_eq_false_iff_ne, beq_eq_false_iff_ne]
        refine Classical.byContradiction fun hc => h6 (hz.1 ?_)
        simp only [ne_eq, not_or, Classical.not_not] at hc
        exact hc
      have ef : (if q.num < 0 ∧ w % q.den ≠ 0 then w / q.den + 1 else w / q.den) = w / q.den + 1 := if_pos ⟨h5, h6⟩
      rw [ef]
      generalize w / q.den = z at *
      obtain ⟨f1, f2⟩ := fin (z + 1)
      by_cases h7 : hiW (z + 1) = 0
      · have f3 := f1 h7
        by_cases h8 : (4611686018427387904 : Int) < ((z + 1 : Nat) : Int)
        · rw [if_neg (show ¬ z + 1 ≤ maxN by unfold maxN; omega)]
          simp only [h1, h2, s1, s2, s3, t1, dv, hz', h5, pl, h7, f3, h8, Int.natCast_nonneg, bne_iff_ne, beq_iff_eq, ne_eq, decide_eq_true_eq, Bool.and_eq_true, Bool.or_eq_true, Bool.not_eq_true', decide_eq_false_iff_not, beq_eq_false_iff_ne, bne_eq_false_iff_eq, not_true_eq_false, not_false_eq_true, if_true, if_false, reduceIte, and_true, true_and, and_false, false_and, or_false, false_or, or_true, true_or, List.getD_cons_zero, List.getD_cons_succ, List.length_cons, List.length_nil, List.cons_append, List.nil_append, Nat.reduceAdd, Nat.reduceEqDiff, reduceCtorEq, Bool.not_true, Bool.not_false, Bool.true_and, Bool.and_true, Bool.false_and, Bool.and_false, Bool.or_true, Bool.true_or, Bool.or_false, Bool.false_or, Bool.false_eq_true, Bool.true_eq_false, Sc.int_i, Sc.bool_b, Sc.list_l, Sc.str_s, Int.reduceEq, Int.reduceLT, Int.reduceLE, Int.reduceNe, decide_true, decide_false, decide_not, eq_self, Classical.not_not, List.getElem?_cons_zero, List.getElem?_cons_succ, beq_self_eq_true, bne_self_eq_false]
        · rw [if_pos (show z + 1 ≤ maxN by unfold maxN; omega)]
          have w1 : IntKind.i64.wrap ((z + 1 : Nat) : Int) = ((z + 1 : Nat) : Int) := wrI (by omega) (by omega)
          have w2 : IntKind.i64.wrap (0 - ((z + 1 : Nat) : Int)) = -((z + 1 : Nat) : Int) := by rw [wrI (by omega) (by omega)]; omega
          simp only [h1, h2, s1, s2, s3, t1, dv, hz', h5, pl, h7, f3, h8, w1, w2, sgn, Int.natCast_nonneg, bne_iff_ne, beq_iff_eq, ne_eq, decide_eq_true_eq, Bool.and_eq_true, Bool.or_eq_true, Bool.not_eq_true', decide_eq_false_iff_not, beq_eq_false_iff_ne, bne_eq_false_iff_eq, not_true_eq_false, not_false_eq_true, if_true, if_false, reduceIte, and_true, true_and, and_false, false_and, or_false, false_or, or_true, true_or, List.getD_cons_zero, List.getD_cons_succ, List.length_cons, List.length_nil, List.cons_append, List.nil_append, Nat.reduceAdd, Nat.reduceEqDiff, reduceCtorEq, Bool.not_true, Bool.not_false, Bool.true_and, Bool.and_true, Bool.false_and, Bool.and_false, Bool.or_true, Bool.true_or, Bool.or_false, Bool.false_or, Bool.false_eq_true, Bool.true_eq_false, Sc.int_i, Sc.bool_b, Sc.list_l, Sc.str_s, Int.reduceEq, Int.reduceLT, Int.reduceLE, Int.reduceNe, decide_true, decide_false, decide_not, eq_self, Classical.not_not, List.getElem?_cons_zero, List.getElem?_cons_succ, beq_self_eq_true, bne_self_eq_false]
      · rw [if_neg (f2 h7)]
        simp only [h1, h2, s1, s2, s3, t1, dv, hz', h5, pl, h7, Int.natCast_nonneg, bne_iff_ne, beq_iff_eq, ne_eq, decide_eq_true_eq, Bool.and_eq_true, Bool.or_eq_true, Bool.not_eq_true', decide_eq_false_iff_not, beq_eq_false_iff_ne, bne_eq_false_iff_eq, not_true_eq_false, not_false_eq_true, if_true, if_false, reduceIte, and_true, true_and, and_false, false_and, or_false, false_or, or_true, true_or, List.getD_cons_zero, List.getD_cons_succ, List.length_cons, List.length_nil, List.cons_append, List.nil_append, Nat.reduceAdd, Nat.reduceEqDiff, reduceCtorEq, Bool.not_true, Bool.not_false, Bool.true_and, Bool.and_true, Bool.false_and, Bool.and_false, Bool.or_true, Bool.true_or, Bool.or_false, Bool.false_or, Bool.false_eq_true, Bool.true_eq_false, Sc.int_i, Sc.bool_b, Sc.list_l, Sc.str_s, Int.reduceEq, Int.reduceLT, Int.reduceLE, Int.reduceNe, decide_true, decide_false, decide_not, eq_self, Classical.not_not, List.getElem?_cons_zero, List.getElem?_cons_succ, beq_self_eq_true, bne_self_eq_false]
  · have ef : (if q.num < 0 ∧ w % q.den ≠ 0 then w / q.den + 1 else w / q.den) = w / q.den := if_neg (fun h => h5 h.1)
    rw [ef]
    generalize w / q.den = z at *
    obtain ⟨f1, f2⟩ := fin z
    by_cases h7 : hiW z = 0
    · have f3 := f1 h7
      by_cases h8 : (4611686018427387904 : Int) < (z : Int)
      · rw [if_neg (show ¬ z ≤ maxN by unfold maxN; omega)]
        simp only [h1, h2, s1, s2, s3, t1, dv, h5, h7, f3, h8, Int.natCast_nonneg, bne_iff_ne, beq_iff_eq, ne_eq, decide_eq_true_eq, Bool.and_eq_true, Bool.or_eq_true, Bool.not_eq_true', decide_eq_false_iff_not, beq_eq_false_iff_ne, bne_eq_false_iff_eq, not_true_eq_false, not_false_eq_true, if_true, if_false, reduceIte, and_true, true_and, and_false, false_and, or_false, false_or, or_true, true_or, List.getD_cons_zero, List.getD_cons_succ, List.length_cons, List.length_nil, List.cons_append, List.nil_append, Nat.reduceAdd, Nat.reduceEqDiff, reduceCtorEq, Bool.not_true, Bool.not_false, Bool.true_and, Bool.and_true, Bool.false_and, Bool.and_false, Bool.or_true, Bool.true_or, Bool.or_false, Bool.false_or, Bool.false_eq_true, Bool.true_eq_false, Sc.int_i, Sc.bool_b, Sc.list_l, Sc.str_s, Int.reduceEq, Int.reduceLT, Int.reduceLE, Int.reduceNe, decide_true, decide_false, decide_not, eq_self, Classical.not_not, List.getElem?_cons_zero, List.getElem?_cons_succ, beq_self_eq_true, bne_self_eq_false]
      · rw [if_pos (show z ≤ maxN by unfold maxN; omega)]
        have w1 : IntKind.i64.wrap (z : Int) = z := wrI (by omega) (by omega)
        simp only [h1, h2, s1, s2, s3, t1, dv, h5, h7, f3, h8, w1, sgn, Int.natCast_nonneg, bne_iff_ne, beq_iff_eq, ne_eq, decide_eq_true_eq, Bool.and_eq_true, Bool.or_eq_true, Bool.not_eq_true', decide_eq_false_iff_not, beq_eq_false_iff_ne, bne_eq_false_iff_eq, not_true_eq_false, not_false_eq_true, if_true, if_false, reduceIte, and_true, true_and, and_false, false_and, or_false, false_or, or_true, true_or, List.getD_cons_zero, List.getD_cons_succ, List.length_cons, List.length_nil, List.cons_append, List.nil_append, Nat.reduceAdd, Nat.reduceEqDiff, reduceCtorEq, Bool.not_true, Bool.not_false, Bool.true_and, Bool.and_true, Bool.false_and, Bool.and_false, Bool.or_true, Bool.true_or, Bool.or_false, Bool.false_or, Bool.false_eq_true, Bool.true_eq_false, Sc.int_i, Sc.bool_b, Sc.list_l, Sc.str_s, Int.reduceEq, Int.reduceLT, Int.reduceLE, Int.reduceNe, decide_true, decide_false, decide_not, eq_self, Classical.not_not, List.getElem?_cons_zero, List.getElem?_cons_succ, beq_self_eq_true, bne_self_eq_false]
    · rw [if_neg (f2 h7)]
      simp only [h1, h2, s1, s2, s3, t1, dv, h5, h7, Int.natCast_nonneg, bne_iff_ne, beq_iff_eq, ne_eq, decide_eq_true_eq, Bool.and_eq_true, Bool.or_eq_true, Bool.not_eq_true', decide_eq_false_iff_not, beq_eq_false_iff_ne, bne_eq_false_iff_eq, not_true_eq_false, not_false_eq_true, if_true, if_false, reduceIte, and_true, true_and, and_false, false_and, or_false, false_or, or_true, true_or, List.getD_cons_zero, List.getD_cons_succ, List.length_cons, List.length_nil, List.cons_append, List.nil_append, Nat.reduceAdd, Nat.reduceEqDiff, reduceCtorEq, Bool.not_true, Bool.not_false, Bool.true_and, Bool.and_true, Bool.false_and, Bool.and_false, Bool.or_true, Bool.true_or, Bool.or_false, Bool.false_or, Bool.false_eq_true, Bool.true_eq_false, Sc.int_i, Sc.bool_b, Sc.list_l, Sc.str_s, Int.reduceEq, Int.reduceLT, Int.reduceLE, Int.reduceNe, decide_true, decide_false, decide_not, eq_self, Classical.not_not, List.getElem?_cons_zero, List.getElem?_cons_succ, beq_self_eq_true, bne_self_eq_false]
end Go.Proofs.YtkjgcalkkfgmlaaDoor
