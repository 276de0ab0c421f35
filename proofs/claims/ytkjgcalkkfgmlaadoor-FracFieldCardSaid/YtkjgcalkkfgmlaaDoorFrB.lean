/-
  Fractions: what Valid and Cmp return.
-/
import Derived.Test.YtkjgcalkkfgmlaaDoorFrA
import Derived.Laws.MathBits
namespace Go.Proofs.YtkjgcalkkfgmlaaDoor
set_option linter.unusedSimpArgs false

theorem shr32 (z : Int) : Int.fdiv z (2 ^ (min (32 : Int).toNat IntKind.u64.bits)) = z / 4294967296 := by
  have e : (2 : Int) ^ (min (32 : Int).toNat IntKind.u64.bits) = 4294967296 := by decide
  rw [e, Int.fdiv_eq_ediv_of_nonneg _ (by omega)]
theorem band32 (z : Int) (h0 : 0 ≤ z) (h1 : z < 18446744073709551616) : IntKind.u64.wrap ((BitVec.ofInt IntKind.u64.bits z &&& BitVec.ofInt IntKind.u64.bits 4294967295).toNat : Int) = z % 4294967296 := by
  rw [← and_low32 z h0 h1]; rfl
theorem band32w (z : Int) : IntKind.u64.wrap ((BitVec.ofInt IntKind.u64.bits (IntKind.u64.wrap z) &&& BitVec.ofInt IntKind.u64.bits 4294967295).toNat : Int) = IntKind.u64.wrap z % 4294967296 := by
  have : 0 ≤ IntKind.u64.wrap z ∧ IntKind.u64.wrap z < 18446744073709551616 := by rw [IntKind.wrap_u64]; omega
  exact band32 _ this.1 this.2
theorem mul64_F (a b : Nat) (ha : a < 18446744073709551616) (hb : b < 18446744073709551616) : k_bits_Mul64.F [.i a, .i b] = some [.i (hiW (a * b)), .i (loW (a * b))] := by
  simp only [k_bits_Mul64_F, tk_bits_Mul64, Go.Proofs.YtkjgcalkkfgmlaaDoor.T.den, Ex.ev, U1.ev, U2.ev, U3.ev, gam, List.map, List.getD_cons_zero, List.getD_cons_succ, List.length, List.cons_append, List.nil_append, if_true, Sc.int_i, Sc.bool_b, Sc.list_l, Sc.str_s, Nat.reduceEqDiff, if_false, List.getElem?_cons_zero, List.getElem?_cons_succ]
  have e := mul64_arith a b (by omega) (by omega) (by omega) (by omega)
  simp only [shr32, band32 a (by omega) (by omega), band32 b (by omega) (by omega), band32w]
  simp only [IntKind.wrap_u64]
  rw [e]
  unfold hiW loW
  simp only [Option.some.injEq, List.cons.injEq, Sc.i.injEq, and_true]
  exact ⟨by rw [← Int.natCast_mul]; rfl, by rw [← Int.natCast_mul]; rfl⟩
theorem times_F (a b : Nat) (ha : a < 18446744073709551616) (hb : b < 18446744073709551616) : k_frac_times.F [.i a, .i b] = some [.i (hiW (a * b)), .i (loW (a * b))] := by
  simp only [k_frac_times_F, tk_frac_times, k_bits_Mul64_f, mul64_F a b ha hb, Go.Proofs.YtkjgcalkkfgmlaaDoor.T.den, Ex.ev, U1.ev, U2.ev, U3.ev, gam, List.map, List.getD_cons_zero, List.getD_cons_succ, List.length, List.cons_append, List.nil_append, if_true, Sc.int_i, Sc.bool_b, Sc.list_l, Sc.str_s, Nat.reduceEqDiff, if_false, List.getElem?_cons_zero, List.getElem?_cons_succ]
theorem add64F_eq {x y c : Int} (hx : 0 ≤ x) (hy : 0 ≤ y) (hc : 0 ≤ c) (hc1 : c ≤ 1) : add64F [.i x, .i y, .i c] = some [.i ((x + y + c) % 18446744073709551616), .i ((x + y + c) / 18446744073709551616)] := if_pos ⟨hx, hy, hc, hc1⟩
theorem sub64F_eq {x y c : Int} (hx : 0 ≤ x) (hx1 : x < 18446744073709551616) (hy : 0 ≤ y) (hy1 : y < 18446744073709551616) (hc : 0 ≤ c) (hc1 : c ≤ 1) : sub64F [.i x, .i y, .i c] = some [.i ((x - y - c) % 18446744073709551616), .i (if x < y + c then 1 else 0)] := if_pos ⟨hx, hx1, hy, hy1, hc, hc1⟩
theorem wplus_core {A B C D E F : Int} (b0 : 0 ≤ B) (b1 : B < 18446744073709551616) (d0 : 0 ≤ D) (d1 : D < 18446744073709551616) (f0 : 0 ≤ F) (f1 : F < 18446744073709551616) (a0 : 0 ≤ A) (c0 : 0 ≤ C) (e1 : E < 18446744073709551616) (e0 : 0 ≤ E)
    (h : E * 18446744073709551616 + F = A * 18446744073709551616 + B + (C * 18446744073709551616 + D)) : k_frac_wide_plus.F [.i A, .i B, .i C, .i D] = some [.i E, .i F] := by
  simp only [k_frac_wide_plus_F, tk_frac_wide_plus, k_bits_Add64_f, k_bits_Add64_F, Go.Proofs.YtkjgcalkkfgmlaaDoor.T.den, Ex.ev, U1.ev, U2.ev, U3.ev, gam, List.map, List.getD_cons_zero, List.getD_cons_succ, List.length, List.cons_append, List.nil_append, if_true, Sc.int_i, Sc.bool_b, Sc.list_l, Sc.str_s, Nat.reduceEqDiff, if_false, List.getElem?_cons_zero, List.getElem?_cons_succ]
  have s1 := add64F_eq (x := B) (y := D) (c := 0) (by omega) (by omega) (by omega) (by omega)
  have k0 : 0 ≤ (B + D + 0) / 18446744073709551616 := by omega
  have k1 : (B + D + 0) / 18446744073709551616 ≤ 1 := by omega
  have s2 := add64F_eq (x := A) (y := C) a0 c0 k0 k1
  have g1 : (A + C + (B + D + 0) / 18446744073709551616) % 18446744073709551616 = E := by omega
  have g2 : (B + D + 0) % 18446744073709551616 = F := by omega
  generalize (B + D + 0) / 18446744073709551616 = k at *
  generalize (A + C + k) / 18446744073709551616 = k2 at *
  rw [g2] at s1
  rw [g1] at s2
  simp only [s1, s2, Int.natCast_nonneg, bne_iff_ne, beq_iff_eq, ne_eq, decide_eq_true_eq, Bool.and_eq_true, Bool.or_eq_true, Bool.not_eq_true', decide_eq_false_iff_not, beq_eq_false_iff_ne, bne_eq_false_iff_eq, not_true_eq_false, not_false_eq_true, if_true, if_false, reduceIte, and_true, true_and, and_false, false_and, or_false, false_or, or_true, true_or, List.getD_cons_zero, List.getD_cons_succ, List.length_cons, List.length_nil, List.cons_append, List.nil_append, Nat.reduceAdd, Nat.reduceEqDiff, reduceCtorEq, Bool.not_true, Bool.not_false, Bool.true_and, Bool.and_true, Bool.false_and, Bool.and_false, Bool.or_true, Bool.true_or, Bool.or_false, Bool.false_or, Bool.false_eq_true, Bool.true_eq_false, Sc.int_i, Sc.bool_b, Sc.list_l, Sc.str_s, Int.reduceEq, Int.reduceLT, Int.reduceLE, Int.reduceNe, decide_true, decide_false, decide_not, eq_self, Classical.not_not, List.getElem?_cons_zero, List.getElem?_cons_succ, beq_self_eq_true, bne_self_eq_false]
theorem wplus_F (x y : Nat) (h : x + y < 340282366920938463463374607431768211456) : k_frac_wide_plus.F [.i (hiW x), .i (loW x), .i (hiW y), .i (loW y)] = some [.i (hiW (x + y)), .i (loW (x + y))] := by
  have a := hi_lo x; have b := hi_lo y; have c := hi_lo (x + y)
  rw [Int.natCast_add, ← a, ← b] at c
  exact wplus_core (lo_range x).1 (lo_range x).2 (lo_range y).1 (lo_range y).2 (lo_range _).1 (lo_range _).2 (hi_nonneg x) (hi_nonneg y) (hi_lt h) (hi_nonneg _) c
theorem wminus_core (n : Nat) {A B C D E F : Int} (b0 : 0 ≤ B) (b1 : B < 18446744073709551616) (d0 : 0 ≤ D) (d1 : D < 18446744073709551616) (f0 : 0 ≤ F) (f1 : F < 18446744073709551616) (a0 : 0 ≤ A) (a1 : A < 18446744073709551616) (c0 : 0 ≤ C) (e0 : 0 ≤ E)
    (h : E * 18446744073709551616 + F = A * 18446744073709551616 + B - (C * 18446744073709551616 + D)) : (k_frac_wide_minus_rec (n + 1)).F [.i A, .i B, .i C, .i D] = some [.i E, .i F, .b false] := by
  rw [k_frac_wide_minus_rec_F]
  simp only [tk_frac_wide_minus, Go.Proofs.YtkjgcalkkfgmlaaDoor.T.den, Ex.ev, U1.ev, U2.ev, U3.ev, gam, List.map, k_frac_wide_minus_rec_f, k_bits_Sub64_f, k_bits_Sub64_F]
  have n1 : ¬ A < C := by omega
  have n2 : A = C → ¬ B < D := by omega
  have s1 := sub64F_eq (x := B) (y := D) (c := 0) (by omega) (by omega) (by omega) (by omega) (by omega) (by omega)
  have k0 : 0 ≤ (if B < D + 0 then 1 else 0 : Int) := by split <;> omega
  have k1 : (if B < D + 0 then 1 else 0 : Int) ≤ 1 := by split <;> omega
  have s2 := sub64F_eq (x := A) (y := C) a0 a1 c0 (by omega) k0 k1
  have g1 : (A - C - (if B < D + 0 then 1 else 0)) % 18446744073709551616 = E := by split <;> omega
  have g2 : (B - D - 0) % 18446744073709551616 = F := by omega
  generalize (if B < D + 0 then 1 else 0 : Int) = k at *
  generalize (if A < C + k then 1 else 0 : Int) = k2 at *
  rw [g2] at s1
  rw [g1] at s2
  by_cases he : A = C
  · rw [he] at s2 ⊢
    simp only [n2 he, s1, s2, Int.lt_irrefl, Int.natCast_nonneg, bne_iff_ne, beq_iff_eq, ne_eq, decide_eq_true_eq, Bool.and_eq_true, Bool.or_eq_true, Bool.not_eq_true', decide_eq_false_iff_not, beq_eq_false_iff_ne, bne_eq_false_iff_eq, not_true_eq_false, not_false_eq_true, if_true, if_false, reduceIte, and_true, true_and, and_false, false_and, or_false, false_or, or_true, true_or, List.getD_cons_zero, List.getD_cons_succ, List.length_cons, List.length_nil, List.cons_append, List.nil_append, Nat.reduceAdd, Nat.reduceEqDiff, reduceCtorEq, Bool.not_true, Bool.not_false, Bool.true_and, Bool.and_true, Bool.false_and, Bool.and_false, Bool.or_true, Bool.true_or, Bool.or_false, Bool.false_or, Bool.false_eq_true, Bool.true_eq_false, Sc.int_i, Sc.bool_b, Sc.list_l, Sc.str_s, Int.reduceEq, Int.reduceLT, Int.reduceLE, Int.reduceNe, decide_true, decide_false, decide_not, eq_self, Classical.not_not, List.getElem?_cons_zero, List.getElem?_cons_succ, beq_self_eq_true, bne_self_eq_false]
  · simp only [he, n1, s1, s2, Int.natCast_nonneg, bne_iff_ne, beq_iff_eq, ne_eq, decide_eq_true_eq, Bool.and_eq_true, Bool.or_eq_true, Bool.not_eq_true', decide_eq_false_iff_not, beq_eq_false_iff_ne, bne_eq_false_iff_eq, not_true_eq_false, not_false_eq_true, if_true, if_false, reduceIte, and_true, true_and, and_false, false_and, or_false, false_or, or_true, true_or, List.getD_cons_zero, List.getD_cons_succ, List.length_cons, List.length_nil, List.cons_append, List.nil_append, Nat.reduceAdd, Nat.reduceEqDiff, reduceCtorEq, Bool.not_true, Bool.not_false, Bool.true_and, Bool.and_true, Bool.false_and, Bool.and_false, Bool.or_true, Bool.true_or, Bool.or_false, Bool.false_or, Bool.false_eq_true, Bool.true_eq_false, Sc.int_i, Sc.bool_b, Sc.list_l, Sc.str_s, Int.reduceEq, Int.reduceLT, Int.reduceLE, Int.reduceNe, decide_true, decide_false, decide_not, eq_self, Classical.not_not, List.getElem?_cons_zero, List.getElem?_cons_succ, beq_self_eq_true, bne_self_eq_false]
theorem wminus_ge (n x y : Nat) (h : y ≤ x) (hx : x < 340282366920938463463374607431768211456) : (k_frac_wide_minus_rec (n + 1)).F [.i (hiW x), .i (loW x), .i (hiW y), .i (loW y)] = some [.i (hiW (x - y)), .i (loW (x - y)), .b false] := by
  have a := hi_lo x; have b := hi_lo y; have c := hi_lo (x - y)
  rw [Int.natCast_sub h, ← a, ← b] at c
  exact wminus_core n (lo_range x).1 (lo_range x).2 (lo_range y).1 (lo_range y).2 (lo_range _).1 (lo_range _).2 (hi_nonneg x) (hi_lt hx) (hi_nonneg y) (hi_nonneg _) c
def absD (x y : Nat) : Nat := if x < y then y - x else x - y
theorem wminus_turn (n : Nat) {A B C D E F : Int} (h : A < C ∨ A = C ∧ B < D) (hm : (k_frac_wide_minus_rec (n + 1)).F [.i C, .i D, .i A, .i B] = some [.i E, .i F, .b false]) :
    (k_frac_wide_minus_rec (n + 2)).F [.i A, .i B, .i C, .i D] = some [.i E, .i F, .b true] := by
  rw [show n + 2 = (n + 1) + 1 from rfl, k_frac_wide_minus_rec_F]
  simp only [tk_frac_wide_minus, Go.Proofs.YtkjgcalkkfgmlaaDoor.T.den, Ex.ev, U1.ev, U2.ev, U3.ev, gam, List.map, k_frac_wide_minus_rec_f, k_bits_Sub64_f, k_bits_Sub64_F]
  by_cases h1 : A < C
  · simp only [h1, hm, Int.natCast_nonneg, bne_iff_ne, beq_iff_eq, ne_eq, decide_eq_true_eq, Bool.and_eq_true, Bool.or_eq_true, Bool.not_eq_true', decide_eq_false_iff_not, beq_eq_false_iff_ne, bne_eq_false_iff_eq, not_true_eq_false, not_false_eq_true, if_true, if_false, reduceIte, and_true, true_and, and_false, false_and, or_false, false_or, or_true, true_or, List.getD_cons_zero, List.getD_cons_succ, List.length_cons, List.length_nil, List.cons_append, List.nil_append, Nat.reduceAdd, Nat.reduceEqDiff, reduceCtorEq, Bool.not_true, Bool.not_false, Bool.true_and, Bool.and_true, Bool.false_and, Bool.and_false, Bool.or_true, Bool.true_or, Bool.or_false, Bool.false_or, Bool.false_eq_true, Bool.true_eq_false, Sc.int_i, Sc.bool_b, Sc.list_l, Sc.str_s, Int.reduceEq, Int.reduceLT, Int.reduceLE, Int.reduceNe, decide_true, decide_false, decide_not, eq_self, Classical.not_not, List.getElem?_cons_zero, List.getElem?_cons_succ, beq_self_eq_true, bne_self_eq_false]
  · obtain ⟨h2, h3⟩ : A = C ∧ B < D := by rcases h with h' | h'; · exact absurd h' h1
                                          · exact h'
    rw [h2] at hm h1 ⊢
    simp only [h1, h3, hm, Int.natCast_nonneg, bne_iff_ne, beq_iff_eq, ne_eq, decide_eq_true_eq, Bool.and_eq_true, Bool.or_eq_true, Bool.not_eq_true', decide_eq_false_iff_not, beq_eq_false_iff_ne, bne_eq_false_iff_eq, not_true_eq_false, not_false_eq_true, if_true, if_false, reduceIte, and_true, true_and, and_false, false_and, or_false, false_or, or_true, true_or, List.getD_cons_zero, List.getD_cons_succ, List.length_cons, List.length_nil, List.cons_append, List.nil_append, Nat.reduceAdd, Nat.reduceEqDiff, reduceCtorEq, Bool.not_true, Bool.not_false, Bool.true_and, Bool.and_true, Bool.false_and, Bool.and_false, Bool.or_true, Bool.true_or, Bool.or_false, Bool.false_or, Bool.false_eq_true, Bool.true_eq_false, Sc.int_i, Sc.bool_b, Sc.list_l, Sc.str_s, Int.reduceEq, Int.reduceLT, Int.reduceLE, Int.reduceNe, decide_true, decide_false, decide_not, eq_self, Classical.not_not, List.getElem?_cons_zero, List.getElem?_cons_succ, beq_self_eq_true, bne_self_eq_false]
theorem wminus_F (x y : Nat) (hx : x < 340282366920938463463374607431768211456) (hy : y < 340282366920938463463374607431768211456) : k_frac_wide_minus.F [.i (hiW x), .i (loW x), .i (hiW y), .i (loW y)] = some [.i (hiW (absD x y)), .i (loW (absD x y)), .b (decide (x < y))] := by
  rw [k_frac_wide_minus_F]
  obtain ⟨r, hr⟩ : ∃ r, rounds = r + 2 := ⟨rounds - 2, by unfold rounds; omega⟩
  rw [hr]
  unfold absD
  by_cases h : x < y
  · rw [if_pos h, decide_eq_true h]
    exact wminus_turn r (w_lt.1 h) (wminus_ge r y x (by omega) hy)
  · rw [if_neg h, decide_eq_false h]
    exact wminus_ge (r + 1) x y (by omega) hx

/-- A number with its sign. -/
def sgn (neg : Bool) (n : Nat) : Int := if neg = true then -(n : Int) else n
def both (an : Bool) (x : Nat) (bn : Bool) (y : Nat) : Bool × Nat := if an = bn then (an, x + y) else if x < y then (bn, y - x) else (an, x - y)
theorem both_spec (an : Bool) (x : Nat) (bn : Bool) (y : Nat) : sgn (both an x bn y).1 (both an x bn y).2 = sgn an x + sgn bn y := by
  unfold both
  by_cases h : an = bn
  · subst h; rw [if_pos rfl]; cases an <;> simp [sgn]; omega
  · rw [if_neg h]
    by_cases h1 : x < y
    · rw [if_pos h1]; cases an <;> cases bn <;> simp_all [sgn] <;> omega
    · rw [if_neg h1]; cases an <;> cases bn <;> simp_all [sgn] <;> omega
theorem sgn_abs (b : Bool) (n : Nat) : (sgn b n).natAbs = n := by cases b <;> simp [sgn]
theorem both_abs (an : Bool) (x : Nat) (bn : Bool) (y : Nat) : (both an x bn y).2 = (sgn an x + sgn bn y).natAbs := by rw [← both_spec, sgn_abs]
theorem sgn_self (n : Int) : sgn (decide (n < 0)) n.natAbs = n := by unfold sgn; split <;> simp_all <;> omega
theorem sgn_neg_self (n : Int) : sgn (decide (0 ≤ n)) n.natAbs = -n := by unfold sgn; split <;> simp_all <;> omega
theorem sgn_mul (b : Bool) (n m : Nat) : sgn b (n * m) = sgn b n * m := by cases b <;> simp [sgn, Int.neg_mul]
theorem both_le (an : Bool) (x : Nat) (bn : Bool) (y : Nat) : (both an x bn y).2 ≤ x + y := by unfold both; split <;> (try split) <;> simp <;> omega
theorem signed_F (an : Bool) (x : Nat) (bn : Bool) (y : Nat) (h : x + y < 340282366920938463463374607431768211456) :
    k_frac_signed.F [.b an, .i (hiW x), .i (loW x), .b bn, .i (hiW y), .i (loW y)] = some [.b (both an x bn y).1, .i (hiW (both an x bn y).2), .i (loW (both an x bn y).2)] := by
  simp only [k_frac_signed_F, tk_frac_signed, k_frac_wide_plus_f, k_frac_wide_minus_f, wplus_F x y h, wminus_F x y (by omega) (by omega), Go.Proofs.YtkjgcalkkfgmlaaDoor.T.den, Ex.ev, U1.ev, U2.ev, U3.ev, gam, List.map, List.getD_cons_zero, List.getD_cons_succ, List.length, List.cons_append, List.nil_append, if_true, Sc.int_i, Sc.bool_b, Sc.list_l, Sc.str_s, Nat.reduceEqDiff, if_false, List.getElem?_cons_zero, List.getElem?_cons_succ]
  unfold both absD
  by_cases h1 : an = bn
  · subst h1; simp only [Int.natCast_nonneg, bne_iff_ne, beq_iff_eq, ne_eq, decide_eq_true_eq, Bool.and_eq_true, Bool.or_eq_true, Bool.not_eq_true', decide_eq_false_iff_not, beq_eq_false_iff_ne, bne_eq_false_iff_eq, not_true_eq_false, not_false_eq_true, if_true, if_false, reduceIte, and_true, true_and, and_false, false_and, or_false, false_or, or_true, true_or, List.getD_cons_zero, List.getD_cons_succ, List.length_cons, List.length_nil, List.cons_append, List.nil_append, Nat.reduceAdd, Nat.reduceEqDiff, reduceCtorEq, Bool.not_true, Bool.not_false, Bool.true_and, Bool.and_true, Bool.false_and, Bool.and_false, Bool.or_true, Bool.true_or, Bool.or_false, Bool.false_or, Bool.false_eq_true, Bool.true_eq_false, Sc.int_i, Sc.bool_b, Sc.list_l, Sc.str_s, Int.reduceEq, Int.reduceLT, Int.reduceLE, Int.reduceNe, decide_true, decide_false, decide_not, eq_self, Classical.not_not, List.getElem?_cons_zero, List.getElem?_cons_succ, beq_self_eq_true, bne_self_eq_false]
  · have e : (an == bn) = false := by simp [h1]
    by_cases h2 : x < y
    · have e2 : (!(an == decide (x < y))) = bn := by cases an <;> cases bn <;> simp_all
      rw [e2]
      simp only [e, h1, h2, Int.natCast_nonneg, bne_iff_ne, beq_iff_eq, ne_eq, decide_eq_true_eq, Bool.and_eq_true, Bool.or_eq_true, Bool.not_eq_true', decide_eq_false_iff_not, beq_eq_false_iff_ne, bne_eq_false_iff_eq, not_true_eq_false, not_false_eq_true, if_true, if_false, reduceIte, and_true, true_and, and_false, false_and, or_false, false_or, or_true, true_or, List.getD_cons_zero, List.getD_cons_succ, List.length_cons, List.length_nil, List.cons_append, List.nil_append, Nat.reduceAdd, Nat.reduceEqDiff, reduceCtorEq, Bool.not_true, Bool.not_false, Bool.true_and, Bool.and_true, Bool.false_and, Bool.and_false, Bool.or_true, Bool.true_or, Bool.or_false, Bool.false_or, Bool.false_eq_true, Bool.true_eq_false, Sc.int_i, Sc.bool_b, Sc.list_l, Sc.str_s, Int.reduceEq, Int.reduceLT, Int.reduceLE, Int.reduceNe, decide_true, decide_false, decide_not, eq_self, Classical.not_not, List.getElem?_cons_zero, List.getElem?_cons_succ, beq_self_eq_true, bne_self_eq_false]
    · have e2 : (!(an == decide (x < y))) = an := by cases an <;> simp_all
      rw [e2]
      simp only [e, h1, h2, Int.natCast_nonneg, bne_iff_ne, beq_iff_eq, ne_eq, decide_eq_true_eq, Bool.and_eq_true, Bool.or_eq_true, Bool.not_eq_true', decide_eq_false_iff_not, beq_eq_false_iff_ne, bne_eq_false_iff_eq, not_true_eq_false, not_false_eq_true, if_true, if_false, reduceIte, and_true, true_and, and_false, false_and, or_false, false_or, or_true, true_or, List.getD_cons_zero, List.getD_cons_succ, List.length_cons, List.length_nil, List.cons_append, List.nil_append, Nat.reduceAdd, Nat.reduceEqDiff, reduceCtorEq, Bool.not_true, Bool.not_false, Bool.true_and, Bool.and_true, Bool.false_and, Bool.and_false, Bool.or_true, Bool.true_or, Bool.or_false, Bool.false_or, Bool.false_eq_true, Bool.true_eq_false, Sc.int_i, Sc.bool_b, Sc.list_l, Sc.str_s, Int.reduceEq, Int.reduceLT, Int.reduceLE, Int.reduceNe, decide_true, decide_false, decide_not, eq_self, Classical.not_not, List.getElem?_cons_zero, List.getElem?_cons_succ, beq_self_eq_true, bne_self_eq_false]

theorem valid_F (n d : Int) (hn : I64 n) (hd : I64 d) : k_frac_Valid.F [.i n, .i d] = some [.b (okF n d)] := by
  simp only [k_frac_Valid_F, tk_frac_Valid, k_frac_size_f, k_frac_gcd_f, size_F n hn, Go.Proofs.YtkjgcalkkfgmlaaDoor.T.den, Ex.ev, U1.ev, U2.ev, U3.ev, gam, List.map, List.getD_cons_zero, List.getD_cons_succ, List.length, List.cons_append, List.nil_append, if_true, Sc.int_i, Sc.bool_b, Sc.list_l, Sc.str_s, Nat.reduceEqDiff, if_false, List.getElem?_cons_zero, List.getElem?_cons_succ]
  obtain ⟨n1, n2⟩ := hn
  obtain ⟨d1, d2⟩ := hd
  unfold okF maxD maxN
  by_cases h1 : 1 ≤ d
  · by_cases h2 : d ≤ 1000000000000000
    · by_cases h3 : n.natAbs ≤ 4611686018427387904
      · have e : IntKind.u64.wrap d = (d.natAbs : Int) := by rw [wrU (by omega) (by omega)]; omega
        have g := gcd_F n.natAbs d.natAbs (by omega)
        have h3' : (n.natAbs : Int) ≤ 4611686018427387904 := by omega
        have e4 : (((n.natAbs.gcd d.natAbs : Nat) : Int) == 1) = decide (n.natAbs.gcd d.natAbs = 1) := by
          by_cases h : n.natAbs.gcd d.natAbs = 1
          · simp only [h]; rfl
          · simp only [h]; simp; omega
        rw [e]
        simp only [h1, h2, h3, h3', g, Int.cast_ofNat_Int, Int.natCast_nonneg, bne_iff_ne, beq_iff_eq, ne_eq, decide_eq_true_eq, Bool.and_eq_true, Bool.or_eq_true, Bool.not_eq_true', decide_eq_false_iff_not, beq_eq_false_iff_ne, bne_eq_false_iff_eq, not_true_eq_false, not_false_eq_true, if_true, if_false, reduceIte, and_true, true_and, and_false, false_and, or_false, false_or, or_true, true_or, List.getD_cons_zero, List.getD_cons_succ, List.length_cons, List.length_nil, List.cons_append, List.nil_append, Nat.reduceAdd, Nat.reduceEqDiff, reduceCtorEq, Bool.not_true, Bool.not_false, Bool.true_and, Bool.and_true, Bool.false_and, Bool.and_false, Bool.or_true, Bool.true_or, Bool.or_false, Bool.false_or, Bool.false_eq_true, Bool.true_eq_false, Sc.int_i, Sc.bool_b, Sc.list_l, Sc.str_s, Int.reduceEq, Int.reduceLT, Int.reduceLE, Int.reduceNe, decide_true, decide_false, decide_not, eq_self, Classical.not_not, List.getElem?_cons_zero, List.getElem?_cons_succ, beq_self_eq_true, bne_self_eq_false]
        rw [e4]
      · have h3' : ¬ (n.natAbs : Int) ≤ 4611686018427387904 := by omega
        simp only [h1, h2, h3, h3', Int.cast_ofNat_Int, Int.natCast_nonneg, bne_iff_ne, beq_iff_eq, ne_eq, decide_eq_true_eq, Bool.and_eq_true, Bool.or_eq_true, Bool.not_eq_true', decide_eq_false_iff_not, beq_eq_false_iff_ne, bne_eq_false_iff_eq, not_true_eq_false, not_false_eq_true, if_true, if_false, reduceIte, and_true, true_and, and_false, false_and, or_false, false_or, or_true, true_or, List.getD_cons_zero, List.getD_cons_succ, List.length_cons, List.length_nil, List.cons_append, List.nil_append, Nat.reduceAdd, Nat.reduceEqDiff, reduceCtorEq, Bool.not_true, Bool.not_false, Bool.true_and, Bool.and_true, Bool.false_and, Bool.and_false, Bool.or_true, Bool.true_or, Bool.or_false, Bool.false_or, Bool.false_eq_true, Bool.true_eq_false, Sc.int_i, Sc.bool_b, Sc.list_l, Sc.str_s, Int.reduceEq, Int.reduceLT, Int.reduceLE, Int.reduceNe, decide_true, decide_false, decide_not, eq_self, Classical.not_not, List.getElem?_cons_zero, List.getElem?_cons_succ, beq_self_eq_true, bne_self_eq_false]
    · simp only [h1, h2, Int.cast_ofNat_Int, Int.natCast_nonneg, bne_iff_ne, beq_iff_eq, ne_eq, decide_eq_true_eq, Bool.and_eq_true, Bool.or_eq_true, Bool.not_eq_true', decide_eq_false_iff_not, beq_eq_false_iff_ne, bne_eq_false_iff_eq, not_true_eq_false, not_false_eq_true, if_true, if_false, reduceIte, and_true, true_and, and_false, false_and, or_false, false_or, or_true, true_or, List.getD_cons_zero, List.getD_cons_succ, List.length_cons, List.length_nil, List.cons_append, List.nil_append, Nat.reduceAdd, Nat.reduceEqDiff, reduceCtorEq, Bool.not_true, Bool.not_false, Bool.true_and, Bool.and_true, Bool.false_and, Bool.and_false, Bool.or_true, Bool.true_or, Bool.or_false, Bool.false_or, Bool.false_eq_true, Bool.true_eq_false, Sc.int_i, Sc.bool_b, Sc.list_l, Sc.str_s, Int.reduceEq, Int.reduceLT, Int.reduceLE, Int.reduceNe, decide_true, decide_false, decide_not, eq_self, Classical.not_not, List.getElem?_cons_zero, List.getElem?_cons_succ, beq_self_eq_true, bne_self_eq_false]
  · simp only [h1, Int.natCast_nonneg, bne_iff_ne, beq_iff_eq, ne_eq, decide_eq_true_eq, Bool.and_eq_true, Bool.or_eq_true, Bool.not_eq_true', decide_eq_false_iff_not, beq_eq_false_iff_ne, bne_eq_false_iff_eq, not_true_eq_false, not_false_eq_true, if_true, if_false, reduceIte, and_true, true_and, and_false, false_and, or_false, false_or, or_true, true_or, List.getD_cons_zero, List.getD_cons_succ, List.length_cons, List.length_nil, List.cons_append, List.nil_append, Nat.reduceAdd, Nat.reduceEqDiff, reduceCtorEq, Bool.not_true, Bool.not_false, Bool.true_and, Bool.and_true, Bool.false_and, Bool.and_false, Bool.or_true, Bool.true_or, Bool.or_false, Bool.false_or, Bool.false_eq_true, Bool.true_eq_false, Sc.int_i, Sc.bool_b, Sc.list_l, Sc.str_s, Int.reduceEq, Int.reduceLT, Int.reduceLE, Int.reduceNe, decide_true, decide_false, decide_not, eq_self, Classical.not_not, List.getElem?_cons_zero, List.getElem?_cons_succ, beq_self_eq_true, bne_self_eq_false]

end Go.Proofs.YtkjgcalkkfgmlaaDoor
