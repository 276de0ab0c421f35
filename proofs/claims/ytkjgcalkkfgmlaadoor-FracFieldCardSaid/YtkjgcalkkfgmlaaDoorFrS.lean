/-
  Fractions: what Add and Sub return.
-/
import Derived.Test.YtkjgcalkkfgmlaaDoorFrCm
import Derived.Test.YtkjgcalkkfgmlaaDoorDv
import Derived.Test.YtkjgcalkkfgmlaaDoorSq
namespace Go.Proofs.YtkjgcalkkfgmlaaDoor
set_option linter.unusedSimpArgs false

theorem wmod_F (w m : Nat) (h0 : 0 < m) (hm : m < 18446744073709551616) : k_frac_wide_mod.F [.i (hiW w), .i (loW w), .i m] = some [.i ((w % m : Nat) : Int)] := by
  simp only [k_frac_wide_mod_F, tk_frac_wide_mod, k_bits_Div64_f, Go.Proofs.YtkjgcalkkfgmlaaDoor.T.den, Ex.ev, U1.ev, U2.ev, U3.ev, gam, List.map, List.getD_cons_zero, List.getD_cons_succ, List.length, List.cons_append, List.nil_append, if_true, Sc.int_i, Sc.bool_b, Sc.list_l, Sc.str_s, Nat.reduceEqDiff, if_false, List.getElem?_cons_zero, List.getElem?_cons_succ]
  have e1 : Int.tmod (hiW w) m = ((w / 18446744073709551616 % m : Nat) : Int) := rfl
  have e2 : loW w = ((w % 18446744073709551616 : Nat) : Int) := rfl
  have hz : ¬ (m : Int) = 0 := by omega
  have d := div64_F (w / 18446744073709551616 % m) (w % 18446744073709551616) m (Nat.mod_lt _ h0) (by omega) hm
  have e3 : (w / 18446744073709551616 % m * 18446744073709551616 + w % 18446744073709551616) % m = w % m := by
    have h := Nat.div_add_mod w 18446744073709551616
    have h2 := Nat.div_add_mod (w / 18446744073709551616) m
    have : w = (w / 18446744073709551616 % m * 18446744073709551616 + w % 18446744073709551616) + m * (w / 18446744073709551616 / m * 18446744073709551616) := by
      rw [← Nat.mul_assoc]; omega
    conv => rhs; rw [this]
    rw [Nat.add_mul_mod_self_left]
  rw [e3] at d
  simp only [e1, e2, hz, d, Int.natCast_nonneg, bne_iff_ne, beq_iff_eq, ne_eq, decide_eq_true_eq, Bool.and_eq_true, Bool.or_eq_true, Bool.not_eq_true', decide_eq_false_iff_not, beq_eq_false_iff_ne, bne_eq_false_iff_eq, not_true_eq_false, not_false_eq_true, if_true, if_false, reduceIte, and_true, true_and, and_false, false_and, or_false, false_or, or_true, true_or, List.getD_cons_zero, List.getD_cons_succ, List.length_cons, List.length_nil, List.cons_append, List.nil_append, Nat.reduceAdd, Nat.reduceEqDiff, reduceCtorEq, Bool.not_true, Bool.not_false, Bool.true_and, Bool.and_true, Bool.false_and, Bool.and_false, Bool.or_true, Bool.true_or, Bool.or_false, Bool.false_or, Bool.false_eq_true, Bool.true_eq_false, Sc.int_i, Sc.bool_b, Sc.list_l, Sc.str_s, Int.reduceEq, Int.reduceLT, Int.reduceLE, Int.reduceNe, decide_true, decide_false, decide_not, eq_self, Classical.not_not, List.getElem?_cons_zero, List.getElem?_cons_succ, beq_self_eq_true, bne_self_eq_false]
theorem wover_F (w m : Nat) (h0 : 0 < m) (hm : m < 18446744073709551616) : k_frac_wide_over.F [.i (hiW w), .i (loW w), .i m] = some (if w / m < 18446744073709551616 then [.i ((w / m : Nat) : Int), .b true] else [.i 0, .b false]) := by
  simp only [k_frac_wide_over_F, tk_frac_wide_over, k_bits_Div64_f, Go.Proofs.YtkjgcalkkfgmlaaDoor.T.den, Ex.ev, U1.ev, U2.ev, U3.ev, gam, List.map, List.getD_cons_zero, List.getD_cons_succ, List.length, List.cons_append, List.nil_append, if_true, Sc.int_i, Sc.bool_b, Sc.list_l, Sc.str_s, Nat.reduceEqDiff, if_false, List.getElem?_cons_zero, List.getElem?_cons_succ]
  have e1 : hiW w = ((w / 18446744073709551616 : Nat) : Int) := rfl
  have e2 : loW w = ((w % 18446744073709551616 : Nat) : Int) := rfl
  by_cases h : w / 18446744073709551616 < m
  · have d := div64_F (w / 18446744073709551616) (w % 18446744073709551616) m h (by omega) hm
    have e3 : w / 18446744073709551616 * 18446744073709551616 + w % 18446744073709551616 = w := Nat.div_add_mod' w _
    rw [e3] at d
    have hc : ¬ (m : Int) ≤ ((w / 18446744073709551616 : Nat) : Int) := by omega
    have hq : w / m < 18446744073709551616 := by
      rw [Nat.div_lt_iff_lt_mul h0]
      rw [Nat.div_lt_iff_lt_mul (by omega)] at h
      omega
    rw [if_pos hq]
    simp only [e1, e2, hc, d, Int.natCast_nonneg, bne_iff_ne, beq_iff_eq, ne_eq, decide_eq_true_eq, Bool.and_eq_true, Bool.or_eq_true, Bool.not_eq_true', decide_eq_false_iff_not, beq_eq_false_iff_ne, bne_eq_false_iff_eq, not_true_eq_false, not_false_eq_true, if_true, if_false, reduceIte, and_true, true_and, and_false, false_and, or_false, false_or, or_true, true_or, List.getD_cons_zero, List.getD_cons_succ, List.length_cons, List.length_nil, List.cons_append, List.nil_append, Nat.reduceAdd, Nat.reduceEqDiff, reduceCtorEq, Bool.not_true, Bool.not_false, Bool.true_and, Bool.and_true, Bool.false_and, Bool.and_false, Bool.or_true, Bool.true_or, Bool.or_false, Bool.false_or, Bool.false_eq_true, Bool.true_eq_false, Sc.int_i, Sc.bool_b, Sc.list_l, Sc.str_s, Int.reduceEq, Int.reduceLT, Int.reduceLE, Int.reduceNe, decide_true, decide_false, decide_not, eq_self, Classical.not_not, List.getElem?_cons_zero, List.getElem?_cons_succ, beq_self_eq_true, bne_self_eq_false]
  · have hc : (m : Int) ≤ ((w / 18446744073709551616 : Nat) : Int) := by omega
    have hq : ¬ w / m < 18446744073709551616 := by
      rw [Nat.div_lt_iff_lt_mul h0]
      rw [Nat.div_lt_iff_lt_mul (by omega)] at h
      omega
    rw [if_neg hq]
    simp only [e1, e2, hc, Int.natCast_nonneg, bne_iff_ne, beq_iff_eq, ne_eq, decide_eq_true_eq, Bool.and_eq_true, Bool.or_eq_true, Bool.not_eq_true', decide_eq_false_iff_not, beq_eq_false_iff_ne, bne_eq_false_iff_eq, not_true_eq_false, not_false_eq_true, if_true, if_false, reduceIte, and_true, true_and, and_false, false_and, or_false, false_or, or_true, true_or, List.getD_cons_zero, List.getD_cons_succ, List.length_cons, List.length_nil, List.cons_append, List.nil_append, Nat.reduceAdd, Nat.reduceEqDiff, reduceCtorEq, Bool.not_true, Bool.not_false, Bool.true_and, Bool.and_true, Bool.false_and, Bool.and_false, Bool.or_true, Bool.true_or, Bool.or_false, Bool.false_or, Bool.false_eq_true, Bool.true_eq_false, Sc.int_i, Sc.bool_b, Sc.list_l, Sc.str_s, Int.reduceEq, Int.reduceLT, Int.reduceLE, Int.reduceNe, decide_true, decide_false, decide_not, eq_self, Classical.not_not, List.getElem?_cons_zero, List.getElem?_cons_succ, beq_self_eq_true, bne_self_eq_false]
theorem outQ_zero : outQ 0 = [.i 0, .i 1, .b true] := by
  rw [outQ, if_pos fit_zero]; rfl
/-- A fraction from its sign, its numerator and its denominator. -/
theorem made_num {q : Rat} {neg : Bool} {n d : Nat} (h1 : q.num = if neg = true then -(n : Int) else n) (h2 : q.den = d) : madeQ neg n d = outQ q := by
  have ha : q.num.natAbs = n := by rw [h1]; cases neg <;> simp
  unfold madeQ outQ
  by_cases h : n ≤ maxN ∧ d ≤ maxD
  · rw [if_pos h, if_pos (fitQ_iff.2 (by rw [ha, h2]; exact h)), ← h1, h2]
  · rw [if_neg h, if_neg (fun x => h (by rw [← ha, ← h2]; exact fitQ_iff.1 x))]
theorem un_fit {q : Rat} (h : maxN < q.num.natAbs ∨ maxD < q.den) : outQ q = noQ := by
  unfold outQ
  rw [if_neg (fun x => by have := fitQ_iff.1 x; omega)]
theorem sgn_nat_dvd (neg : Bool) {n t : Nat} (h : t ∣ n) : sgn neg n / (t : Int) = sgn neg (n / t) := by
  cases neg with
  | false => rfl
  | true =>
    show -(n : Int) / (t : Int) = -((n / t : Nat) : Int)
    rw [Int.neg_ediv_of_dvd (Int.ofNat_dvd.2 h)]; rfl
theorem divInt_val {q r : Rat} {a b c d : Int} (h1 : a = q.num) (h2 : b = q.den) (h3 : c = r.num) (h4 : d = r.den) : Rat.divInt a b = q ∧ Rat.divInt c d = r := by
  subst h1 h2 h3 h4; exact ⟨divInt_q q, divInt_q r⟩
theorem fsum_core (minus : Bool) {q r r' : Rat} (hq : fitQ q = true) (hr : fitQ r = true) (hr' : r'.num = sgn ((decide (r.num < 0)) != minus) r.num.natAbs) (hd : r'.den = r.den) : k_frac_sum.F [.i q.num, .i q.den, .i r.num, .i r.den, .b minus] = some (outQ (q + r')) := by
  obtain ⟨a1, a2, a3, a4⟩ := fit_bounds hq
  obtain ⟨b1, b2, b3, b4⟩ := fit_bounds hr
  have iq : I64 q.num := ⟨by omega, by omega⟩
  have ir : I64 r.num := ⟨by omega, by omega⟩
  have v1 := valid_F q.num q.den iq ⟨by omega, by omega⟩
  have v2 := valid_F r.num r.den ir ⟨by omega, by omega⟩
  rw [okF_of hq] at v1
  rw [okF_of hr] at v2
  have u1 : IntKind.u64.wrap (q.den : Int) = q.den := wrU (by omega) (by omega)
  have u2 : IntKind.u64.wrap (r.den : Int) = r.den := wrU (by omega) (by omega)
  have g1 := gcd_F q.den r.den (by omega)
  have s1 := size_F q.num iq
  have s2 := size_F r.num ir
  obtain ⟨l1, l2⟩ := add_low q r'
  rw [hd] at l1 l2
  have hg0 : 0 < q.den.gcd r.den := Nat.gcd_pos_of_pos_left _ q.den_pos
  have hdq : 0 < q.den := q.den_pos
  have hdr : 0 < r.den := r.den_pos
  have gq := Nat.gcd_dvd_left q.den r.den
  have gr := Nat.gcd_dvd_right q.den r.den
  have gle : q.den.gcd r.den ≤ q.den := Nat.le_of_dvd hdq gq
  have dr := Nat.div_le_self r.den (q.den.gcd r.den)
  have dq := Nat.div_le_self q.den (q.den.gcd r.den)
  have o1 := quo_nat (a := r.den) (b := q.den.gcd r.den) (by omega)
  have o2 := quo_nat (a := q.den) (b := q.den.gcd r.den) (by omega)
  have t1 := times_F q.num.natAbs (r.den / q.den.gcd r.den) (by omega) (by omega)
  have t2 := times_F r.num.natAbs (q.den / q.den.gcd r.den) (by omega) (by omega)
  have m1 : q.num.natAbs * (r.den / q.den.gcd r.den) ≤ 4611686018427387904 * 1000000000000000 := Nat.mul_le_mul (by omega) (by omega)
  have m2 : r.num.natAbs * (q.den / q.den.gcd r.den) ≤ 4611686018427387904 * 1000000000000000 := Nat.mul_le_mul (by omega) (by omega)
  have sg := signed_F (decide (q.num < 0)) (q.num.natAbs * (r.den / q.den.gcd r.den)) ((decide (r.num < 0)) != minus) (r.num.natAbs * (q.den / q.den.gcd r.den)) (by omega)
  have bs := both_spec (decide (q.num < 0)) (q.num.natAbs * (r.den / q.den.gcd r.den)) ((decide (r.num < 0)) != minus) (r.num.natAbs * (q.den / q.den.gcd r.den))
  rw [sgn_mul, sgn_self, sgn_mul, ← hr'] at bs
  rw [← bs] at l1 l2
  generalize both (decide (q.num < 0)) (q.num.natAbs * (r.den / q.den.gcd r.den)) ((decide (r.num < 0)) != minus) (r.num.natAbs * (q.den / q.den.gcd r.den)) = z at *
  obtain ⟨neg, w⟩ := z
  simp only [sgn_abs] at l1 l2
  have hx : (!(decide (r.num < 0) == minus)) = (decide (r.num < 0) != minus) := rfl
  have hgz : ¬ ((q.den.gcd r.den : Nat) : Int) = 0 := by omega
  have beq := cmp_zero_beq w
  have wm := wmod_F w (q.den.gcd r.den) hg0 (by omega)
  have g2 := gcd_F (w % q.den.gcd r.den) (q.den.gcd r.den) (by omega)
  have eg : (w % q.den.gcd r.den).gcd (q.den.gcd r.den) = w.gcd (q.den.gcd r.den) := by rw [Nat.gcd_comm, gcd_step]
  rw [eg] at g2
  have ht0 : 0 < w.gcd (q.den.gcd r.den) := Nat.gcd_pos_of_pos_right _ hg0
  have htw := Nat.gcd_dvd_left w (q.den.gcd r.den)
  have htg : w.gcd (q.den.gcd r.den) ≤ q.den.gcd r.den := Nat.le_of_dvd hg0 (Nat.gcd_dvd_right ..)
  have wo := wover_F w (w.gcd (q.den.gcd r.den)) ht0 (by omega)
  have o3 := quo_nat (a := r.den) (b := w.gcd (q.den.gcd r.den)) (by omega)
  have dt := Nat.div_le_self r.den (w.gcd (q.den.gcd r.den))
  have t3 := times_F (q.den / q.den.gcd r.den) (r.den / w.gcd (q.den.gcd r.den)) (by omega) (by omega)
  have htz : ¬ ((w.gcd (q.den.gcd r.den) : Nat) : Int) = 0 := by omega
  rw [sgn_nat_dvd neg htw] at l1
  simp only [k_frac_sum_F, tk_frac_sum, k_frac_Valid_f, k_frac_gcd_f, k_frac_size_f, k_frac_times_f, k_frac_signed_f, k_frac_wide_mod_f, k_frac_wide_over_f, k_frac_made_f, v1, v2, u1, u2, g1, s1, s2, o1, o2, t1, t2, hx, sg, Go.Proofs.YtkjgcalkkfgmlaaDoor.T.den, Ex.ev, U1.ev, U2.ev, U3.ev, gam, List.map, List.getD_cons_zero, List.getD_cons_succ, List.length, List.cons_append, List.nil_append, if_true, Sc.int_i, Sc.bool_b, Sc.list_l, Sc.str_s, Nat.reduceEqDiff, if_false, List.getElem?_cons_zero, List.getElem?_cons_succ]
  by_cases hw : w = 0
  · subst hw
    have : q + r' = 0 := by
      rw [← Rat.num_eq_zero, l1]
      simp [sgn]
    rw [this, outQ_zero]
    simp only [hgz, beq, decide_true, Int.natCast_nonneg, bne_iff_ne, beq_iff_eq, ne_eq, decide_eq_true_eq, Bool.and_eq_true, Bool.or_eq_true, Bool.not_eq_true', decide_eq_false_iff_not, beq_eq_false_iff_ne, bne_eq_false_iff_eq, not_true_eq_false, not_false_eq_true, if_true, if_false, reduceIte, and_true, true_and, and_false, false_and, or_false, false_or, or_true, true_or, List.getD_cons_zero, List.getD_cons_succ, List.length_cons, List.length_nil, List.cons_append, List.nil_append, Nat.reduceAdd, Nat.reduceEqDiff, reduceCtorEq, Bool.not_true, Bool.not_false, Bool.true_and, Bool.and_true, Bool.false_and, Bool.and_false, Bool.or_true, Bool.true_or, Bool.or_false, Bool.false_or, Bool.false_eq_true, Bool.true_eq_false, Sc.int_i, Sc.bool_b, Sc.list_l, Sc.str_s, Int.reduceEq, Int.reduceLT, Int.reduceLE, Int.reduceNe, decide_true, decide_false, decide_not, eq_self, Classical.not_not, List.getElem?_cons_zero, List.getElem?_cons_succ, beq_self_eq_true, bne_self_eq_false]
  · have hw2 : decide (w = 0) = false := decide_eq_false hw
    rw [hw2] at beq
    generalize q.den.gcd r.den = g at *
    generalize w.gcd g = t at *
    generalize r.den / t = e at *
    generalize q.den / g = f at *
    generalize w / t = n at *
    by_cases hn : n < 18446744073709551616
    · rw [if_pos hn] at wo
      by_cases he : hiW (f * e) = 0
      · have hl : loW (f * e) = ((f * e : Nat) : Int) := by have := hi_lo (f * e); omega
        have md := made_F neg n (f * e)
        rw [made_num (q := q + r') l1 l2] at md
        obtain ⟨a, b, c, ho⟩ := outQ_form (q + r')
        rw [ho] at md ⊢
        simp only [hgz, beq, wm, g2, wo, o3, t3, he, hl, htz, md, Int.natCast_nonneg, bne_iff_ne, beq_iff_eq, ne_eq, decide_eq_true_eq, Bool.and_eq_true, Bool.or_eq_true, Bool.not_eq_true', decide_eq_false_iff_not, beq_eq_false_iff_ne, bne_eq_false_iff_eq, not_true_eq_false, not_false_eq_true, if_true, if_false, reduceIte, and_true, true_and, and_false, false_and, or_false, false_or, or_true, true_or, List.getD_cons_zero, List.getD_cons_succ, List.length_cons, List.length_nil, List.cons_append, List.nil_append, Nat.reduceAdd, Nat.reduceEqDiff, reduceCtorEq, Bool.not_true, Bool.not_false, Bool.true_and, Bool.and_true, Bool.false_and, Bool.and_false, Bool.or_true, Bool.true_or, Bool.or_false, Bool.false_or, Bool.false_eq_true, Bool.true_eq_false, Sc.int_i, Sc.bool_b, Sc.list_l, Sc.str_s, Int.reduceEq, Int.reduceLT, Int.reduceLE, Int.reduceNe, decide_true, decide_false, decide_not, eq_self, Classical.not_not, List.getElem?_cons_zero, List.getElem?_cons_succ, beq_self_eq_true, bne_self_eq_false]
      · have : outQ (q + r') = noQ := un_fit (.inr (by
          rw [l2]
          unfold maxD
          rcases Nat.lt_or_ge 1000000000000000 (f * e) with h | h
          · exact h
          · exact absurd (hi_small (x := f * e) (by omega)) he))
        rw [this]
        simp only [hgz, beq, wm, g2, wo, o3, t3, he, htz, noQ, Int.natCast_nonneg, bne_iff_ne, beq_iff_eq, ne_eq, decide_eq_true_eq, Bool.and_eq_true, Bool.or_eq_true, Bool.not_eq_true', decide_eq_false_iff_not, beq_eq_false_iff_ne, bne_eq_false_iff_eq, not_true_eq_false, not_false_eq_true, if_true, if_false, reduceIte, and_true, true_and, and_false, false_and, or_false, false_or, or_true, true_or, List.getD_cons_zero, List.getD_cons_succ, List.length_cons, List.length_nil, List.cons_append, List.nil_append, Nat.reduceAdd, Nat.reduceEqDiff, reduceCtorEq, Bool.not_true, Bool.not_false, Bool.true_and, Bool.and_true, Bool.false_and, Bool.and_false, Bool.or_true, Bool.true_or, Bool.or_false, Bool.false_or, Bool.false_eq_true, Bool.true_eq_false, Sc.int_i, Sc.bool_b, Sc.list_l, Sc.str_s, Int.reduceEq, Int.reduceLT, Int.reduceLE, Int.reduceNe, decide_true, decide_false, decide_not, eq_self, Classical.not_not, List.getElem?_cons_zero, List.getElem?_cons_succ, beq_self_eq_true, bne_self_eq_false]
    · rw [if_neg hn] at wo
      have : outQ (q + r') = noQ := un_fit (.inl (by rw [l1, sgn_abs]; unfold maxN; omega))
      rw [this]
      simp only [hgz, beq, wm, g2, wo, o3, t3, htz, noQ, Int.natCast_nonneg, bne_iff_ne, beq_iff_eq, ne_eq, decide_eq_true_eq, Bool.and_eq_true, Bool.or_eq_true, Bool.not_eq_true', decide_eq_false_iff_not, beq_eq_false_iff_ne, bne_eq_false_iff_eq, not_true_eq_false, not_false_eq_true, if_true, if_false, reduceIte, and_true, true_and, and_false, false_and, or_false, false_or, or_true, true_or, List.getD_cons_zero, List.getD_cons_succ, List.length_cons, List.length_nil, List.cons_append, List.nil_append, Nat.reduceAdd, Nat.reduceEqDiff, reduceCtorEq, Bool.not_true, Bool.not_false, Bool.true_and, Bool.and_true, Bool.false_and, Bool.and_false, Bool.or_true, Bool.true_or, Bool.or_false, Bool.false_or, Bool.false_eq_true, Bool.true_eq_false, Sc.int_i, Sc.bool_b, Sc.list_l, Sc.str_s, Int.reduceEq, Int.reduceLT, Int.reduceLE, Int.reduceNe, decide_true, decide_false, decide_not, eq_self, Classical.not_not, List.getElem?_cons_zero, List.getElem?_cons_succ, beq_self_eq_true, bne_self_eq_false]
theorem neg_num (r : Rat) : (-r).num = sgn ((decide (r.num < 0)) != true) r.num.natAbs := by
  rw [Rat.neg_num]
  unfold sgn
  by_cases h : r.num < 0
  · rw [decide_eq_true h]; simp; omega
  · rw [decide_eq_false h]; simp; omega
theorem fsum_bad (minus : Bool) {a b c d : Int} (ha : I64 a) (hb : I64 b) (hc : I64 c) (hd : I64 d) (h : ¬ (okF a b = true ∧ okF c d = true)) : k_frac_sum.F [.i a, .i b, .i c, .i d, .b minus] = some noQ := by
  have v1 := valid_F a b ha hb
  have v2 := valid_F c d hc hd
  simp only [k_frac_sum_F, tk_frac_sum, k_frac_Valid_f, v1, v2, Go.Proofs.YtkjgcalkkfgmlaaDoor.T.den, Ex.ev, U1.ev, U2.ev, U3.ev, gam, List.map, List.getD_cons_zero, List.getD_cons_succ, List.length, List.cons_append, List.nil_append, if_true, Sc.int_i, Sc.bool_b, Sc.list_l, Sc.str_s, Nat.reduceEqDiff, if_false, List.getElem?_cons_zero, List.getElem?_cons_succ]
  unfold noQ
  cases h1 : okF a b
  · simp only [Int.natCast_nonneg, bne_iff_ne, beq_iff_eq, ne_eq, decide_eq_true_eq, Bool.and_eq_true, Bool.or_eq_true, Bool.not_eq_true', decide_eq_false_iff_not, beq_eq_false_iff_ne, bne_eq_false_iff_eq, not_true_eq_false, not_false_eq_true, if_true, if_false, reduceIte, and_true, true_and, and_false, false_and, or_false, false_or, or_true, true_or, List.getD_cons_zero, List.getD_cons_succ, List.length_cons, List.length_nil, List.cons_append, List.nil_append, Nat.reduceAdd, Nat.reduceEqDiff, reduceCtorEq, Bool.not_true, Bool.not_false, Bool.true_and, Bool.and_true, Bool.false_and, Bool.and_false, Bool.or_true, Bool.true_or, Bool.or_false, Bool.false_or, Bool.false_eq_true, Bool.true_eq_false, Sc.int_i, Sc.bool_b, Sc.list_l, Sc.str_s, Int.reduceEq, Int.reduceLT, Int.reduceLE, Int.reduceNe, decide_true, decide_false, decide_not, eq_self, Classical.not_not, List.getElem?_cons_zero, List.getElem?_cons_succ, beq_self_eq_true, bne_self_eq_false]
  · have h2 : okF c d = false := by
      cases h3 : okF c d
      · rfl
      · exact absurd ⟨h1, h3⟩ h
    simp only [h2, Int.natCast_nonneg, bne_iff_ne, beq_iff_eq, ne_eq, decide_eq_true_eq, Bool.and_eq_true, Bool.or_eq_true, Bool.not_eq_true', decide_eq_false_iff_not, beq_eq_false_iff_ne, bne_eq_false_iff_eq, not_true_eq_false, not_false_eq_true, if_true, if_false, reduceIte, and_true, true_and, and_false, false_and, or_false, false_or, or_true, true_or, List.getD_cons_zero, List.getD_cons_succ, List.length_cons, List.length_nil, List.cons_append, List.nil_append, Nat.reduceAdd, Nat.reduceEqDiff, reduceCtorEq, Bool.not_true, Bool.not_false, Bool.true_and, Bool.and_true, Bool.false_and, Bool.and_false, Bool.or_true, Bool.true_or, Bool.or_false, Bool.false_or, Bool.false_eq_true, Bool.true_eq_false, Sc.int_i, Sc.bool_b, Sc.list_l, Sc.str_s, Int.reduceEq, Int.reduceLT, Int.reduceLE, Int.reduceNe, decide_true, decide_false, decide_not, eq_self, Classical.not_not, List.getElem?_cons_zero, List.getElem?_cons_succ, beq_self_eq_true, bne_self_eq_false]
theorem fsum_F (minus : Bool) (a b c d : Int) (ha : I64 a) (hb : I64 b) (hc : I64 c) (hd : I64 d) : k_frac_sum.F [.i a, .i b, .i c, .i d, .b minus] = some (if minus = true then subQ a b c d else addQ a b c d) := by
  by_cases h : okF a b = true ∧ okF c d = true
  · obtain ⟨q, rfl, rfl, hq⟩ := okF_q h.1
    obtain ⟨r, rfl, rfl, hr⟩ := okF_q h.2
    unfold subQ addQ
    rw [if_pos h, if_pos h, divInt_q, divInt_q]
    cases minus with
    | true =>
      rw [if_pos rfl, Rat.sub_eq_add_neg]
      exact fsum_core true hq hr (neg_num r) (Rat.neg_den ..)
    | false =>
      rw [if_neg (by simp)]
      exact fsum_core false hq hr (by rw [Bool.bne_false, sgn_self]) rfl
  · rw [fsum_bad minus ha hb hc hd h]
    unfold subQ addQ
    rw [if_neg h, if_neg h]; simp
theorem addQ_form (a b c d : Int) : ∃ x y z, addQ a b c d = [.i x, .i y, .b z] := by
  unfold addQ; split
  · exact outQ_form _
  · exact ⟨_, _, _, rfl⟩
theorem subQ_form (a b c d : Int) : ∃ x y z, subQ a b c d = [.i x, .i y, .b z] := by
  unfold subQ; split
  · exact outQ_form _
  · exact ⟨_, _, _, rfl⟩
theorem sub_F (a b c d : Int) (ha : I64 a) (hb : I64 b) (hc : I64 c) (hd : I64 d) : k_frac_Sub.F [.i a, .i b, .i c, .i d] = some (subQ a b c d) := by
  have h := fsum_F true a b c d ha hb hc hd
  obtain ⟨x, y, z, e⟩ := subQ_form a b c d
  rw [if_pos rfl, e] at h
  rw [e]
  simp only [k_frac_Sub_F, tk_frac_Sub, k_frac_sum_f, h, Go.Proofs.YtkjgcalkkfgmlaaDoor.T.den, Ex.ev, U1.ev, U2.ev, U3.ev, gam, List.map, List.getD_cons_zero, List.getD_cons_succ, List.length, List.cons_append, List.nil_append, if_true, Sc.int_i, Sc.bool_b, Sc.list_l, Sc.str_s, Nat.reduceEqDiff, if_false, List.getElem?_cons_zero, List.getElem?_cons_succ]
end Go.Proofs.YtkjgcalkkfgmlaaDoor
