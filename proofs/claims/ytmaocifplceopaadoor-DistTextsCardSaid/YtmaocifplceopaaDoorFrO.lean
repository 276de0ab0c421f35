/-
  Fractions: what Of and its reference return.
-/
import Derived.Test.YtmaocifplceopaaDoorFrA
namespace Go.Proofs.YtmaocifplceopaaDoor
set_option linter.unusedSimpArgs false

theorem fOf_F (n d : Int) (hn : I64 n) (hd : I64 d) : k_frac_Of.F [.i n, .i d] = some (ofQ n d) := by
  simp only [k_frac_Of_F, tk_frac_Of, k_frac_size_f, k_frac_gcd_f, k_frac_made_f, size_F n hn, size_F d hd, Go.Proofs.YtmaocifplceopaaDoor.T.den, Ex.ev, U1.ev, U2.ev, U3.ev, gam, List.map, List.getD_cons_zero, List.getD_cons_succ, List.length, List.cons_append, List.nil_append, if_true, Sc.int_i, Sc.bool_b, Sc.list_l, Sc.str_s, Nat.reduceEqDiff, if_false, List.getElem?_cons_zero, List.getElem?_cons_succ]
  unfold ofQ
  by_cases h0 : d = 0
  · simp [h0, noQ]
  · obtain ⟨n1, n2⟩ := hn
    obtain ⟨d1, d2⟩ := hd
    have g0 : 0 < n.natAbs.gcd d.natAbs := Nat.gcd_pos_of_pos_right _ (by omega)
    have g1 : n.natAbs.gcd d.natAbs ≠ 0 := by omega
    rw [if_neg h0]
    have e : (!(decide (n < 0) == decide (d < 0))) = (decide (n < 0) != decide (d < 0)) := rfl
    have g2 : ((n.natAbs.gcd d.natAbs : Nat) : Int) ≠ 0 := by omega
    rw [← made_div n d h0]
    simp only [gcd_F n.natAbs d.natAbs (by omega), quo_nat (a := n.natAbs) (b := n.natAbs.gcd d.natAbs) (by omega), quo_nat (a := d.natAbs) (b := n.natAbs.gcd d.natAbs) (by omega), made_F, e, h0, g2, Int.natCast_nonneg, bne_iff_ne, beq_iff_eq, ne_eq, decide_eq_true_eq, Bool.and_eq_true, Bool.or_eq_true, Bool.not_eq_true', decide_eq_false_iff_not, beq_eq_false_iff_ne, bne_eq_false_iff_eq, not_true_eq_false, not_false_eq_true, if_true, if_false, reduceIte, and_true, true_and, and_false, false_and, or_false, false_or, or_true, true_or, List.getD_cons_zero, List.getD_cons_succ, List.length_cons, List.length_nil, List.cons_append, List.nil_append, Nat.reduceAdd, Nat.reduceEqDiff, reduceCtorEq, Bool.not_true, Bool.not_false, Bool.true_and, Bool.and_true, Bool.false_and, Bool.and_false, Bool.or_true, Bool.true_or, Bool.or_false, Bool.false_or, Bool.false_eq_true, Bool.true_eq_false, Sc.int_i, Sc.bool_b, Sc.list_l, Sc.str_s, Int.reduceEq, Int.reduceLT, Int.reduceLE, Int.reduceNe, decide_true, decide_false, decide_not, eq_self, Classical.not_not, List.getElem?_cons_zero, List.getElem?_cons_succ, beq_self_eq_true, bne_self_eq_false]
    simp only [madeQ]
    split <;> simp [noQ]

theorem rOf_F (n d : Int) (hn : I64 n) (hd : I64 d) : k_simulatorref02_Of.F [.i n, .i d] = some (ofQ n d) := by
  simp only [k_simulatorref02_Of_F, tk_simulatorref02_Of, k_simulatorref02_Size_f, k_simulatorref02_Made_f, refSize_F n hn, refSize_F d hd, Go.Proofs.YtmaocifplceopaaDoor.T.den, Ex.ev, U1.ev, U2.ev, U3.ev, gam, List.map, List.getD_cons_zero, List.getD_cons_succ, List.length, List.cons_append, List.nil_append, if_true, Sc.int_i, Sc.bool_b, Sc.list_l, Sc.str_s, Nat.reduceEqDiff, if_false, List.getElem?_cons_zero, List.getElem?_cons_succ]
  unfold ofQ
  by_cases h0 : d = 0
  · simp [h0, noQ]
  · obtain ⟨n1, n2⟩ := hn
    obtain ⟨d1, d2⟩ := hd
    have e := refMade_F (decide (n < 0) != decide (d < 0)) n.natAbs d.natAbs (by omega) (by omega) (by omega)
    rw [hi_small (x := n.natAbs) (by omega), lo_small (x := n.natAbs) (by omega), hi_small (x := d.natAbs) (by omega), lo_small (x := d.natAbs) (by omega), made_div n d h0] at e
    rw [if_neg h0]
    have e2 : (!(decide (n < 0) == decide (d < 0))) = (decide (n < 0) != decide (d < 0)) := rfl
    simp only [e2, e]
    simp [h0, outQ, noQ]
    split <;> simp
end Go.Proofs.YtmaocifplceopaaDoor
