/-
  Fractions: what the reference's Valid, Times, Product and Both return.
-/
import Derived.Test.YtkjgcalkkfgmlaaDoorFrCm
namespace Go.Proofs.YtkjgcalkkfgmlaaDoor
set_option linter.unusedSimpArgs false

def sclInv (a b k : Nat) : List Sc := [.i ((k : Int) - 1), .i (hiW (a * (b / 2 ^ k))), .i (loW (a * (b / 2 ^ k)))]
theorem rScale_F (a b : Nat) (h : a * b < 340282366920938463463374607431768211456) (hb : b < 18446744073709551616) : k_simulatorref02_Scale.F [.i (hiW a), .i (loW a), .i b] = some [.i (hiW (a * b)), .i (loW (a * b))] := by
  simp only [k_simulatorref02_Scale_F, tk_simulatorref02_Scale, k_simulatorref02_Plus_f, k_simulatorref02_bit_f, Go.Proofs.YtkjgcalkkfgmlaaDoor.T.den, Ex.ev, U1.ev, U2.ev, U3.ev, gam, List.map, List.getD_cons_zero, List.getD_cons_succ, List.length, List.cons_append, List.nil_append, if_true, Sc.int_i, Sc.bool_b, Sc.list_l, Sc.str_s, Nat.reduceEqDiff, if_false, List.getElem?_cons_zero, List.getElem?_cons_succ]
  have h0 : b / 2 ^ 64 = 0 := Nat.div_eq_of_lt hb
  have conv : ([.i 63, .i 0, .i 0] : List Sc) = sclInv a b 64 := by
    unfold sclInv
    rw [h0, Nat.mul_zero]; rfl
  rw [conv]
  refine loop_rounds (S := Nat) (sclInv a b) (fun _ => some [.i (hiW (a * b)), .i (loW (a * b))]) (fun k => k ≤ 64) (fun k => k) ?_ 64 (by omega) (by omega)
  intro k rec hk hrec
  cases k with
  | zero => simp [sclInv]
  | succ k =>
    have hr := hrec k (by omega) (by omega)
    simp only [sclInv] at hr ⊢
    have ek : ((k + 1 : Nat) : Int) - 1 = k := by omega
    have eb := bit_F b k (by omega)
    rw [hi_small hb, lo_small hb] at eb
    have hp := div_pow b k
    have hle : a * (b / 2 ^ k) ≤ a * b := Nat.mul_le_mul_left a (Nat.div_le_self b _)
    have e2 : a * (b / 2 ^ k) = 2 * (a * (b / 2 ^ (k + 1))) + a * (b / 2 ^ k % 2) := by
      have : a * (b / 2 ^ k) = a * (2 * (b / 2 ^ (k + 1)) + b / 2 ^ k % 2) := by rw [← hp]
      rw [this, Nat.mul_add, Nat.mul_left_comm]
    have hbit : b / 2 ^ k % 2 = 0 ∨ b / 2 ^ k % 2 = 1 := by omega
    generalize b / 2 ^ (k + 1) = p at *
    generalize hbb : b / 2 ^ k % 2 = bb at *
    generalize a * (b / 2 ^ k) = m' at *
    generalize a * p = m at *
    have ew : IntKind.i64.wrap ((k : Int) - 1) = (k : Int) - 1 := wrI (by omega) (by omega)
    have e1 := plus_F m m (by omega)
    rcases hbit with h1 | h1
    · subst h1
      rw [Nat.mul_zero, Nat.add_zero] at e2
      rw [← Nat.two_mul, ← e2] at e1
      have c0 : ((0 : Nat) : Int) = 0 := rfl
      simp only [ek, eb, e1, ew, c0, hr, Int.natCast_nonneg, bne_iff_ne, beq_iff_eq, ne_eq, decide_eq_true_eq, Bool.and_eq_true, Bool.or_eq_true, Bool.not_eq_true', decide_eq_false_iff_not, beq_eq_false_iff_ne, bne_eq_false_iff_eq, not_true_eq_false, not_false_eq_true, if_true, if_false, reduceIte, and_true, true_and, and_false, false_and, or_false, false_or, or_true, true_or, List.getD_cons_zero, List.getD_cons_succ, List.length_cons, List.length_nil, List.cons_append, List.nil_append, Nat.reduceAdd, Nat.reduceEqDiff, reduceCtorEq, Bool.not_true, Bool.not_false, Bool.true_and, Bool.and_true, Bool.false_and, Bool.and_false, Bool.or_true, Bool.true_or, Bool.or_false, Bool.false_or, Bool.false_eq_true, Bool.true_eq_false, Sc.int_i, Sc.bool_b, Sc.list_l, Sc.str_s, Int.reduceEq, Int.reduceLT, Int.reduceLE, Int.reduceNe, decide_true, decide_false, decide_not, eq_self, Classical.not_not, List.getElem?_cons_zero, List.getElem?_cons_succ, beq_self_eq_true, bne_self_eq_false]
    · subst h1
      rw [Nat.mul_one] at e2
      have e3 := plus_F (m + m) a (by omega)
      have e4 : m + m + a = m' := by omega
      rw [e4] at e3
      have c1 : ((1 : Nat) : Int) = 1 := rfl
      simp only [ek, eb, e1, e3, ew, c1, hr, Int.natCast_nonneg, bne_iff_ne, beq_iff_eq, ne_eq, decide_eq_true_eq, Bool.and_eq_true, Bool.or_eq_true, Bool.not_eq_true', decide_eq_false_iff_not, beq_eq_false_iff_ne, bne_eq_false_iff_eq, not_true_eq_false, not_false_eq_true, if_true, if_false, reduceIte, and_true, true_and, and_false, false_and, or_false, false_or, or_true, true_or, List.getD_cons_zero, List.getD_cons_succ, List.length_cons, List.length_nil, List.cons_append, List.nil_append, Nat.reduceAdd, Nat.reduceEqDiff, reduceCtorEq, Bool.not_true, Bool.not_false, Bool.true_and, Bool.and_true, Bool.false_and, Bool.and_false, Bool.or_true, Bool.true_or, Bool.or_false, Bool.false_or, Bool.false_eq_true, Bool.true_eq_false, Sc.int_i, Sc.bool_b, Sc.list_l, Sc.str_s, Int.reduceEq, Int.reduceLT, Int.reduceLE, Int.reduceNe, decide_true, decide_false, decide_not, eq_self, Classical.not_not, List.getElem?_cons_zero, List.getElem?_cons_succ, beq_self_eq_true, bne_self_eq_false]
theorem rTimes_F (a b : Nat) (ha : a < 18446744073709551616) (hb : b < 18446744073709551616) : k_simulatorref02_Times.F [.i a, .i b] = some [.i (hiW (a * b)), .i (loW (a * b))] := by
  have h : a * b < 340282366920938463463374607431768211456 := by
    have := Nat.mul_le_mul (Nat.le_of_lt_succ (Nat.lt_succ_of_lt ha)) (Nat.le_sub_one_of_lt hb)
    omega
  have e := rScale_F a b h hb
  rw [hi_small ha, lo_small ha] at e
  simp only [k_simulatorref02_Times_F, tk_simulatorref02_Times, k_simulatorref02_Scale_f, e, Go.Proofs.YtkjgcalkkfgmlaaDoor.T.den, Ex.ev, U1.ev, U2.ev, U3.ev, gam, List.map, List.getD_cons_zero, List.getD_cons_succ, List.length, List.cons_append, List.nil_append, if_true, Sc.int_i, Sc.bool_b, Sc.list_l, Sc.str_s, Nat.reduceEqDiff, if_false, List.getElem?_cons_zero, List.getElem?_cons_succ]
theorem rProduct_F (n m : Int) (hn : I64 n) (hm : I64 m) : k_simulatorref02_Product.F [.i n, .i m] = some [.b (decide (n < 0) != decide (m < 0)), .i (hiW (n.natAbs * m.natAbs)), .i (loW (n.natAbs * m.natAbs))] := by
  have hn' := hn; have hm' := hm
  obtain ⟨n1, n2⟩ := hn'
  obtain ⟨m1, m2⟩ := hm'
  have e := rTimes_F n.natAbs m.natAbs (by omega) (by omega)
  have e2 : (!(decide (n < 0) == decide (m < 0))) = (decide (n < 0) != decide (m < 0)) := rfl
  simp only [k_simulatorref02_Product_F, tk_simulatorref02_Product, k_simulatorref02_Size_f, k_simulatorref02_Times_f, refSize_F n hn, refSize_F m hm, e, e2, Go.Proofs.YtkjgcalkkfgmlaaDoor.T.den, Ex.ev, U1.ev, U2.ev, U3.ev, gam, List.map, List.getD_cons_zero, List.getD_cons_succ, List.length, List.cons_append, List.nil_append, if_true, Sc.int_i, Sc.bool_b, Sc.list_l, Sc.str_s, Nat.reduceEqDiff, if_false, List.getElem?_cons_zero, List.getElem?_cons_succ]
theorem rBoth_F (an : Bool) (x : Nat) (bn : Bool) (y : Nat) (h : x + y < 340282366920938463463374607431768211456) :
    k_simulatorref02_Both.F [.b an, .i (hiW x), .i (loW x), .b bn, .i (hiW y), .i (loW y)] = some [.b (both an x bn y).1, .i (hiW (both an x bn y).2), .i (loW (both an x bn y).2)] := by
  simp only [k_simulatorref02_Both_F, tk_simulatorref02_Both, k_simulatorref02_Plus_f, k_simulatorref02_Less_f, k_simulatorref02_Minus_f, plus_F x y h, less_F x y, Go.Proofs.YtkjgcalkkfgmlaaDoor.T.den, Ex.ev, U1.ev, U2.ev, U3.ev, gam, List.map, List.getD_cons_zero, List.getD_cons_succ, List.length, List.cons_append, List.nil_append, if_true, Sc.int_i, Sc.bool_b, Sc.list_l, Sc.str_s, Nat.reduceEqDiff, if_false, List.getElem?_cons_zero, List.getElem?_cons_succ]
  unfold both
  by_cases h1 : an = bn
  · subst h1; simp only [Int.natCast_nonneg, bne_iff_ne, beq_iff_eq, ne_eq, decide_eq_true_eq, Bool.and_eq_true, Bool.or_eq_true, Bool.not_eq_true', decide_eq_false_iff_not, beq_eq_false_iff_ne, bne_eq_false_iff_eq, not_true_eq_false, not_false_eq_true, if_true, if_false, reduceIte, and_true, true_and, and_false, false_and, or_false, false_or, or_true, true_or, List.getD_cons_zero, List.getD_cons_succ, List.length_cons, List.length_nil, List.cons_append, List.nil_append, Nat.reduceAdd, Nat.reduceEqDiff, reduceCtorEq, Bool.not_true, Bool.not_false, Bool.true_and, Bool.and_true, Bool.false_and, Bool.and_false, Bool.or_true, Bool.true_or, Bool.or_false, Bool.false_or, Bool.false_eq_true, Bool.true_eq_false, Sc.int_i, Sc.bool_b, Sc.list_l, Sc.str_s, Int.reduceEq, Int.reduceLT, Int.reduceLE, Int.reduceNe, decide_true, decide_false, decide_not, eq_self, Classical.not_not, List.getElem?_cons_zero, List.getElem?_cons_succ, beq_self_eq_true, bne_self_eq_false]
  · have e : (an == bn) = false := by simp [h1]
    by_cases h2 : x < y
    · have m := minus_F y x (by omega) (by omega)
      simp only [e, h1, h2, m, Int.natCast_nonneg, bne_iff_ne, beq_iff_eq, ne_eq, decide_eq_true_eq, Bool.and_eq_true, Bool.or_eq_true, Bool.not_eq_true', decide_eq_false_iff_not, beq_eq_false_iff_ne, bne_eq_false_iff_eq, not_true_eq_false, not_false_eq_true, if_true, if_false, reduceIte, and_true, true_and, and_false, false_and, or_false, false_or, or_true, true_or, List.getD_cons_zero, List.getD_cons_succ, List.length_cons, List.length_nil, List.cons_append, List.nil_append, Nat.reduceAdd, Nat.reduceEqDiff, reduceCtorEq, Bool.not_true, Bool.not_false, Bool.true_and, Bool.and_true, Bool.false_and, Bool.and_false, Bool.or_true, Bool.true_or, Bool.or_false, Bool.false_or, Bool.false_eq_true, Bool.true_eq_false, Sc.int_i, Sc.bool_b, Sc.list_l, Sc.str_s, Int.reduceEq, Int.reduceLT, Int.reduceLE, Int.reduceNe, decide_true, decide_false, decide_not, eq_self, Classical.not_not, List.getElem?_cons_zero, List.getElem?_cons_succ, beq_self_eq_true, bne_self_eq_false]
    · have m := minus_F x y (by omega) (by omega)
      simp only [e, h1, h2, m, Int.natCast_nonneg, bne_iff_ne, beq_iff_eq, ne_eq, decide_eq_true_eq, Bool.and_eq_true, Bool.or_eq_true, Bool.not_eq_true', decide_eq_false_iff_not, beq_eq_false_iff_ne, bne_eq_false_iff_eq, not_true_eq_false, not_false_eq_true, if_true, if_false, reduceIte, and_true, true_and, and_false, false_and, or_false, false_or, or_true, true_or, List.getD_cons_zero, List.getD_cons_succ, List.length_cons, List.length_nil, List.cons_append, List.nil_append, Nat.reduceAdd, Nat.reduceEqDiff, reduceCtorEq, Bool.not_true, Bool.not_false, Bool.true_and, Bool.and_true, Bool.false_and, Bool.and_false, Bool.or_true, Bool.true_or, Bool.or_false, Bool.false_or, Bool.false_eq_true, Bool.true_eq_false, Sc.int_i, Sc.bool_b, Sc.list_l, Sc.str_s, Int.reduceEq, Int.reduceLT, Int.reduceLE, Int.reduceNe, decide_true, decide_false, decide_not, eq_self, Classical.not_not, List.getElem?_cons_zero, List.getElem?_cons_succ, beq_self_eq_true, bne_self_eq_false]
theorem one_beq (z : Nat) : ((hiW z == 0) && (loW z == 1)) = decide (z = 1) := by
  have hw := w_eq (x := z) (y := 1)
  have o1 : hiW 1 = 0 := rfl
  have o2 : loW 1 = 1 := rfl
  rw [o1, o2] at hw
  by_cases h : z = 1
  · obtain ⟨a, b⟩ := hw.2 h
    rw [a, b, decide_eq_true h]; rfl
  · rw [decide_eq_false h]
    by_cases h1 : hiW z = 0
    · have : ¬ loW z = 1 := fun h2 => h (hw.1 ⟨h1, h2⟩)
      simp [this]
    · simp [h1]
theorem rValid_F (n d : Int) (hn : I64 n) (hd : I64 d) : k_simulatorref02_Valid.F [.i n, .i d] = some [.b (okF n d)] := by
  simp only [k_simulatorref02_Valid_F, tk_simulatorref02_Valid, k_simulatorref02_Size_f, k_simulatorref02_common_f, refSize_F n hn, refSize_F d hd, Go.Proofs.YtkjgcalkkfgmlaaDoor.T.den, Ex.ev, U1.ev, U2.ev, U3.ev, gam, List.map, List.getD_cons_zero, List.getD_cons_succ, List.length, List.cons_append, List.nil_append, if_true, Sc.int_i, Sc.bool_b, Sc.list_l, Sc.str_s, Nat.reduceEqDiff, if_false, List.getElem?_cons_zero, List.getElem?_cons_succ]
  obtain ⟨n1, n2⟩ := hn
  obtain ⟨d1, d2⟩ := hd
  have e : okF n d = (decide (1 ≤ d) && decide (d ≤ 1000000000000000) && decide (-4611686018427387904 ≤ n ∧ n ≤ 4611686018427387904) && decide (n.natAbs.gcd d.natAbs = 1)) := by
    unfold okF maxD maxN
    have : (n.natAbs ≤ 4611686018427387904) ↔ (-4611686018427387904 ≤ n ∧ n ≤ 4611686018427387904) := by omega
    simp only [this]; rfl
  rw [e]
  by_cases h1 : d < 1; · simp only [h1, show ¬ 1 ≤ d by omega, Int.natCast_nonneg, bne_iff_ne, beq_iff_eq, ne_eq, decide_eq_true_eq, Bool.and_eq_true, Bool.or_eq_true, Bool.not_eq_true', decide_eq_false_iff_not, beq_eq_false_iff_ne, bne_eq_false_iff_eq, not_true_eq_false, not_false_eq_true, if_true, if_false, reduceIte, and_true, true_and, and_false, false_and, or_false, false_or, or_true, true_or, List.getD_cons_zero, List.getD_cons_succ, List.length_cons, List.length_nil, List.cons_append, List.nil_append, Nat.reduceAdd, Nat.reduceEqDiff, reduceCtorEq, Bool.not_true, Bool.not_false, Bool.true_and, Bool.and_true, Bool.false_and, Bool.and_false, Bool.or_true, Bool.true_or, Bool.or_false, Bool.false_or, Bool.false_eq_true, Bool.true_eq_false, Sc.int_i, Sc.bool_b, Sc.list_l, Sc.str_s, Int.reduceEq, Int.reduceLT, Int.reduceLE, Int.reduceNe, decide_true, decide_false, decide_not, eq_self, Classical.not_not, List.getElem?_cons_zero, List.getElem?_cons_succ, beq_self_eq_true, bne_self_eq_false]
  by_cases h2 : 1000000000000000 < d; · simp only [h1, h2, show ¬ d ≤ 1000000000000000 by omega, Int.natCast_nonneg, bne_iff_ne, beq_iff_eq, ne_eq, decide_eq_true_eq, Bool.and_eq_true, Bool.or_eq_true, Bool.not_eq_true', decide_eq_false_iff_not, beq_eq_false_iff_ne, bne_eq_false_iff_eq, not_true_eq_false, not_false_eq_true, if_true, if_false, reduceIte, and_true, true_and, and_false, false_and, or_false, false_or, or_true, true_or, List.getD_cons_zero, List.getD_cons_succ, List.length_cons, List.length_nil, List.cons_append, List.nil_append, Nat.reduceAdd, Nat.reduceEqDiff, reduceCtorEq, Bool.not_true, Bool.not_false, Bool.true_and, Bool.and_true, Bool.false_and, Bool.and_false, Bool.or_true, Bool.true_or, Bool.or_false, Bool.false_or, Bool.false_eq_true, Bool.true_eq_false, Sc.int_i, Sc.bool_b, Sc.list_l, Sc.str_s, Int.reduceEq, Int.reduceLT, Int.reduceLE, Int.reduceNe, decide_true, decide_false, decide_not, eq_self, Classical.not_not, List.getElem?_cons_zero, List.getElem?_cons_succ, beq_self_eq_true, bne_self_eq_false]
  by_cases h3 : n < -4611686018427387904; · simp only [h1, h2, h3, show ¬ -4611686018427387904 ≤ n by omega, Int.natCast_nonneg, bne_iff_ne, beq_iff_eq, ne_eq, decide_eq_true_eq, Bool.and_eq_true, Bool.or_eq_true, Bool.not_eq_true', decide_eq_false_iff_not, beq_eq_false_iff_ne, bne_eq_false_iff_eq, not_true_eq_false, not_false_eq_true, if_true, if_false, reduceIte, and_true, true_and, and_false, false_and, or_false, false_or, or_true, true_or, List.getD_cons_zero, List.getD_cons_succ, List.length_cons, List.length_nil, List.cons_append, List.nil_append, Nat.reduceAdd, Nat.reduceEqDiff, reduceCtorEq, Bool.not_true, Bool.not_false, Bool.true_and, Bool.and_true, Bool.false_and, Bool.and_false, Bool.or_true, Bool.true_or, Bool.or_false, Bool.false_or, Bool.false_eq_true, Bool.true_eq_false, Sc.int_i, Sc.bool_b, Sc.list_l, Sc.str_s, Int.reduceEq, Int.reduceLT, Int.reduceLE, Int.reduceNe, decide_true, decide_false, decide_not, eq_self, Classical.not_not, List.getElem?_cons_zero, List.getElem?_cons_succ, beq_self_eq_true, bne_self_eq_false]
  by_cases h4 : 4611686018427387904 < n; · simp only [h1, h2, h3, h4, show ¬ n ≤ 4611686018427387904 by omega, Int.natCast_nonneg, bne_iff_ne, beq_iff_eq, ne_eq, decide_eq_true_eq, Bool.and_eq_true, Bool.or_eq_true, Bool.not_eq_true', decide_eq_false_iff_not, beq_eq_false_iff_ne, bne_eq_false_iff_eq, not_true_eq_false, not_false_eq_true, if_true, if_false, reduceIte, and_true, true_and, and_false, false_and, or_false, false_or, or_true, true_or, List.getD_cons_zero, List.getD_cons_succ, List.length_cons, List.length_nil, List.cons_append, List.nil_append, Nat.reduceAdd, Nat.reduceEqDiff, reduceCtorEq, Bool.not_true, Bool.not_false, Bool.true_and, Bool.and_true, Bool.false_and, Bool.and_false, Bool.or_true, Bool.true_or, Bool.or_false, Bool.false_or, Bool.false_eq_true, Bool.true_eq_false, Sc.int_i, Sc.bool_b, Sc.list_l, Sc.str_s, Int.reduceEq, Int.reduceLT, Int.reduceLE, Int.reduceNe, decide_true, decide_false, decide_not, eq_self, Classical.not_not, List.getElem?_cons_zero, List.getElem?_cons_succ, beq_self_eq_true, bne_self_eq_false]
  have g := common_F n.natAbs d.natAbs (by omega) (by omega)
  rw [hi_small (x := n.natAbs) (by omega), lo_small (x := n.natAbs) (by omega), hi_small (x := d.natAbs) (by omega), lo_small (x := d.natAbs) (by omega)] at g
  have e5 := one_beq (n.natAbs.gcd d.natAbs)
  simp only [h1, h2, h3, h4, g, e5, show 1 ≤ d by omega, show d ≤ 1000000000000000 by omega, show -4611686018427387904 ≤ n by omega, show n ≤ 4611686018427387904 by omega, Int.natCast_nonneg, bne_iff_ne, beq_iff_eq, ne_eq, decide_eq_true_eq, Bool.and_eq_true, Bool.or_eq_true, Bool.not_eq_true', decide_eq_false_iff_not, beq_eq_false_iff_ne, bne_eq_false_iff_eq, not_true_eq_false, not_false_eq_true, if_true, if_false, reduceIte, and_true, true_and, and_false, false_and, or_false, false_or, or_true, true_or, List.getD_cons_zero, List.getD_cons_succ, List.length_cons, List.length_nil, List.cons_append, List.nil_append, Nat.reduceAdd, Nat.reduceEqDiff, reduceCtorEq, Bool.not_true, Bool.not_false, Bool.true_and, Bool.and_true, Bool.false_and, Bool.and_false, Bool.or_true, Bool.true_or, Bool.or_false, Bool.false_or, Bool.false_eq_true, Bool.true_eq_false, Sc.int_i, Sc.bool_b, Sc.list_l, Sc.str_s, Int.reduceEq, Int.reduceLT, Int.reduceLE, Int.reduceNe, decide_true, decide_false, decide_not, eq_self, Classical.not_not, List.getElem?_cons_zero, List.getElem?_cons_succ, beq_self_eq_true, bne_self_eq_false]
/-- The comparison by signed products. -/
theorem cmp_gen {q r : Rat} {an bn : Bool} {x y : Nat} (h1 : sgn an x = q.num * r.den) (h2 : sgn bn y = -(r.num * q.den)) : cmpQ q r = if (both an x bn y).2 = 0 then 0 else if (both an x bn y).1 = true then -1 else 1 := by
  have h := both_spec an x bn y
  rw [h1, h2] at h
  generalize both an x bn y = s at *
  have hs : sgn s.1 s.2 = q.num * r.den - r.num * q.den := by rw [h]; omega
  rw [cmp_num, ← hs]
  by_cases h0 : s.2 = 0
  · have : sgn s.1 s.2 = 0 := by rw [h0]; unfold sgn; split <;> rfl
    rw [if_pos h0, if_pos this]
  · by_cases h1 : s.1 = true
    · have : sgn s.1 s.2 = -(s.2 : Int) := by rw [h1]; rfl
      rw [if_neg h0, if_pos h1, if_neg (by omega), if_pos (by omega)]
    · have : sgn s.1 s.2 = s.2 := by unfold sgn; rw [if_neg h1]
      rw [if_neg h0, if_neg h1, if_neg (by omega), if_neg (by omega)]
end Go.Proofs.YtkjgcalkkfgmlaaDoor
