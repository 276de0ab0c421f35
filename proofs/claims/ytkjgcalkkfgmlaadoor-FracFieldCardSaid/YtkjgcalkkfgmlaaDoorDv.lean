/-
  Division of numbers of 128 bits, digit by digit: plain facts.
  What bits.LeadingZeros64 returns.
  What bits.Div64 returns.
-/
import Derived.Test.YtkjgcalkkfgmlaaDoorQ
import Derived.Test.YtkjgcalkkfgmlaaDoorFrB
import Derived.Test.YtkjgcalkkfgmlaaDoorSymX
namespace Go.Proofs.YtkjgcalkkfgmlaaDoor
set_option linter.unusedSimpArgs false

section
variable {Y y1 y0 U n q r : Nat}
theorem dig_eq (hY : Y = 4294967296 * y1 + y0) (e : U = q * y1 + r) : q * Y + 4294967296 * r = 4294967296 * U + q * y0 := by
  rw [hY, e, Nat.mul_add, Nat.mul_add, Nat.mul_left_comm]; omega
theorem dig_test (hY : Y = 4294967296 * y1 + y0) (hU : U < Y) (hn : n < 4294967296) (e : U = q * y1 + r) :
    (4294967296 ≤ q ∨ 4294967296 * r + n < q * y0) ↔ (U * 4294967296 + n) / Y < q := by
  have h := dig_eq hY e
  rw [Nat.div_lt_iff_lt_mul (by omega)]
  constructor
  · rintro (h1 | h1)
    · have := Nat.mul_le_mul_right Y h1; omega
    · omega
  · intro h1; omega
theorem dig_exit (hY : Y = 4294967296 * y1 + y0) (h0 : y0 < 4294967296) (hU : U < Y) (hn : n < 4294967296) (e : U = (q + 1) * y1 + r) (hq : (U * 4294967296 + n) / Y < q + 1) (hr : 4294967296 ≤ r + y1) : (U * 4294967296 + n) / Y = q := by
  have e' : U = q * y1 + (r + y1) := by rw [e, Nat.succ_mul]; omega
  have h := dig_eq hY e'
  have hb : q < 4294967296 := by
    rcases Nat.lt_or_ge q 4294967296 with h | h
    · exact h
    · have := Nat.mul_le_mul_right y1 h; omega
  have hm : q * y0 ≤ 4294967295 * 4294967295 := Nat.mul_le_mul (by omega) (by omega)
  have : q ≤ (U * 4294967296 + n) / Y := by
    rw [Nat.le_div_iff_mul_le (by omega)]; omega
  omega
theorem dig_start (hY : Y = 4294967296 * y1 + y0) (h0 : y0 < 4294967296) (h1 : 2147483648 ≤ y1) (hU : U < Y) (hn : n < 4294967296) : (U * 4294967296 + n) / Y ≤ U / y1 ∧ U / y1 ≤ 4294967297 ∧ U % y1 < 4294967296 ∨ 4294967296 ≤ y1 := by
  by_cases h2 : 4294967296 ≤ y1
  · exact .inr h2
  left
  have hp : 0 < y1 := by omega
  have hdm := Nat.div_add_mod U y1
  have hlt := Nat.mod_lt U hp
  refine ⟨?_, ?_, by omega⟩
  · rw [Nat.le_div_iff_mul_le hp]
    have hdm2 := Nat.div_mul_le_self (U * 4294967296 + n) Y
    generalize (U * 4294967296 + n) / Y = Q at *
    rw [hY, Nat.mul_add, Nat.mul_left_comm] at hdm2
    omega
  · have : U / y1 < 4294967298 := by rw [Nat.div_lt_iff_lt_mul hp]; omega
    omega
end
theorem dig_join' {N y s Y U un1 un0 Q1 R1 Q0 R0 : Nat} (hYe : Y = y * 2 ^ s) (d1 : Y * Q1 + R1 = U * 4294967296 + un1) (d2 : Y * Q0 + R0 = R1 * 4294967296 + un0) (l2 : R0 < Y) (e : U * 18446744073709551616 + (un1 * 4294967296 + un0) = N * 2 ^ s) :
    Q1 * 4294967296 + Q0 = N / y ∧ R0 / 2 ^ s = N % y := by
  have hs : 0 < 2 ^ s := Nat.two_pow_pos s
  have hY : 0 < Y := by omega
  have e2 : N * 2 ^ s = R0 + Y * (Q1 * 4294967296 + Q0) := by
    rw [← e, Nat.mul_add, ← Nat.mul_assoc]; omega
  constructor
  · have : N * 2 ^ s / Y = Q1 * 4294967296 + Q0 := by
      rw [e2, Nat.add_mul_div_left _ _ hY, Nat.div_eq_of_lt l2, Nat.zero_add]
    rw [hYe, Nat.mul_div_mul_right _ _ hs] at this
    exact this.symm
  · have : N * 2 ^ s % Y = R0 := by
      rw [e2, Nat.add_mul_mod_self_left, Nat.mod_eq_of_lt l2]
    rw [hYe, Nat.mul_mod_mul_right] at this
    rw [← this, Nat.mul_div_cancel _ hs]
theorem dig_join {N y s Y U un1 un0 : Nat} (hy : 0 < y) (hYe : Y = y * 2 ^ s) (e : U * 18446744073709551616 + (un1 * 4294967296 + un0) = N * 2 ^ s) :
    (U * 4294967296 + un1) / Y * 4294967296 + ((U * 4294967296 + un1) % Y * 4294967296 + un0) / Y = N / y ∧ ((U * 4294967296 + un1) % Y * 4294967296 + un0) % Y / 2 ^ s = N % y :=
  dig_join' hYe (Nat.div_add_mod ..) (Nat.div_add_mod ..) (Nat.mod_lt _ (by rw [hYe]; exact Nat.mul_pos hy (Nat.two_pow_pos s))) e
/-- The halves of a number moved left. -/
theorem shl_join {hi lo s : Nat} (hs : s ≤ 64) : (hi * 2 ^ s + lo / 2 ^ (64 - s)) * 18446744073709551616 + lo * 2 ^ s % 18446744073709551616 = (hi * 18446744073709551616 + lo) * 2 ^ s := by
  have e : (18446744073709551616 : Nat) = 2 ^ (64 - s) * 2 ^ s := by rw [← Nat.pow_add, show 64 - s + s = 64 by omega]
  have h1 : lo * 2 ^ s / 18446744073709551616 = lo / 2 ^ (64 - s) := by rw [e, Nat.mul_div_mul_right _ _ (Nat.two_pow_pos s)]
  have h2 := Nat.div_add_mod (lo * 2 ^ s) 18446744073709551616
  rw [h1] at h2
  rw [Nat.add_mul, Nat.add_mul (hi * 18446744073709551616), Nat.mul_right_comm]
  omega
theorem shl_lt {hi lo y s : Nat} (hs : s ≤ 64) (h : hi < y) (hl : lo < 18446744073709551616) : hi * 2 ^ s + lo / 2 ^ (64 - s) < y * 2 ^ s := by
  have h1 : lo / 2 ^ (64 - s) < 2 ^ s := by
    rw [Nat.div_lt_iff_lt_mul (Nat.two_pow_pos _), ← Nat.pow_add, show s + (64 - s) = 64 by omega]; exact hl
  have h2 := Nat.mul_le_mul_right (2 ^ s) (show hi + 1 ≤ y by omega)
  rw [Nat.succ_mul] at h2
  omega
theorem norm_y {y L : Nat} (h1 : 1 ≤ L) (h2 : L ≤ 64) (ha : 2 ^ (L - 1) ≤ y) (hb : y < 2 ^ L) : 9223372036854775808 ≤ y * 2 ^ (64 - L) ∧ y * 2 ^ (64 - L) < 18446744073709551616 := by
  constructor
  · have := Nat.mul_le_mul_right (2 ^ (64 - L)) ha
    rw [← Nat.pow_add, show L - 1 + (64 - L) = 63 by omega] at this
    exact this
  · have := Nat.mul_lt_mul_of_pos_right hb (Nat.two_pow_pos (64 - L))
    rw [← Nat.pow_add, show L + (64 - L) = 64 by omega] at this
    exact this
theorem bor_add {a b s : Nat} (ha : 2 ^ s * a + b < 18446744073709551616) (hb : b < 2 ^ s) : IntKind.u64.wrap ((BitVec.ofInt IntKind.u64.bits ((2 ^ s * a : Nat) : Int) ||| BitVec.ofInt IntKind.u64.bits (b : Int)).toNat : Int) = ((2 ^ s * a + b : Nat) : Int) := by
  have e5 : IntKind.u64.bits = 64 := rfl
  rw [e5, BitVec.ofInt_natCast, BitVec.ofInt_natCast, BitVec.toNat_or, BitVec.toNat_ofNat, BitVec.toNat_ofNat, Nat.mod_eq_of_lt (by omega), Nat.mod_eq_of_lt (by omega), ← Nat.two_pow_add_eq_or_of_lt hb, IntKind.wrap_u64]
  omega
end Go.Proofs.YtkjgcalkkfgmlaaDoor
namespace Go.Proofs.YtkjgcalkkfgmlaaDoor
set_option linter.unusedSimpArgs false

def lenTab : List Nat := [0, 1, 2, 2, 3, 3, 3, 3, 4, 4, 4, 4, 4, 4, 4, 4, 5, 5, 5, 5, 5, 5, 5, 5, 5, 5, 5, 5, 5, 5, 5, 5, 6, 6, 6, 6, 6, 6, 6, 6, 6, 6, 6, 6, 6, 6, 6, 6, 6, 6, 6, 6, 6, 6, 6, 6, 6, 6, 6, 6, 6, 6, 6, 6, 7, 7, 7, 7, 7, 7, 7, 7, 7, 7, 7, 7, 7, 7, 7, 7, 7, 7, 7, 7, 7, 7, 7, 7, 7, 7, 7, 7, 7, 7, 7, 7, 7, 7, 7, 7, 7, 7, 7, 7, 7, 7, 7, 7, 7, 7, 7, 7, 7, 7, 7, 7, 7, 7, 7, 7, 7, 7, 7, 7, 7, 7, 7, 7, 8, 8, 8, 8, 8, 8, 8, 8, 8, 8, 8, 8, 8, 8, 8, 8, 8, 8, 8, 8, 8, 8, 8, 8, 8, 8, 8, 8, 8, 8, 8, 8, 8, 8, 8, 8, 8, 8, 8, 8, 8, 8, 8, 8, 8, 8, 8, 8, 8, 8, 8, 8, 8, 8, 8, 8, 8, 8, 8, 8, 8, 8, 8, 8, 8, 8, 8, 8, 8, 8, 8, 8, 8, 8, 8, 8, 8, 8, 8, 8, 8, 8, 8, 8, 8, 8, 8, 8, 8, 8, 8, 8, 8, 8, 8, 8, 8, 8, 8, 8, 8, 8, 8, 8, 8, 8, 8, 8, 8, 8, 8, 8, 8, 8, 8, 8, 8, 8, 8, 8, 8, 8, 8, 8, 8, 8, 8, 8]
def lenT (l : List Nat) : T (List Ex) :=
 (.ite (.o .le (.i 4294967296) (.v 0))
 (.ite (.o .le (.i 65536) (.o (.shr .u64) (.v 0) (.i 32)))
 (.ite (.o .le (.i 256) (.o (.shr .u64) (.o (.shr .u64) (.v 0) (.i 32)) (.i 16)))
 (.need (.o .le (.i 0) (.u (.conv .u8) (.o (.shr .u64) (.o (.shr .u64) (.o (.shr .u64) (.v 0) (.i 32)) (.i 16)) (.i 8)))) (.need (.o .lt (.u (.conv .u8) (.o (.shr .u64) (.o (.shr .u64) (.o (.shr .u64) (.v 0) (.i 32)) (.i 16)) (.i 8))) (.u .slen (.s l))) (.leaf [(.o (.add .i64) (.i 56) (.u (.conv .i64) (.o .sidx (.s l) (.u (.conv .u8) (.o (.shr .u64) (.o (.shr .u64) (.o (.shr .u64) (.v 0) (.i 32)) (.i 16)) (.i 8))))))])))
 (.need (.o .le (.i 0) (.u (.conv .u8) (.o (.shr .u64) (.o (.shr .u64) (.v 0) (.i 32)) (.i 16)))) (.need (.o .lt (.u (.conv .u8) (.o (.shr .u64) (.o (.shr .u64) (.v 0) (.i 32)) (.i 16))) (.u .slen (.s l))) (.leaf [(.o (.add .i64) (.i 48) (.u (.conv .i64) (.o .sidx (.s l) (.u (.conv .u8) (.o (.shr .u64) (.o (.shr .u64) (.v 0) (.i 32)) (.i 16))))))]))))
 (.ite (.o .le (.i 256) (.o (.shr .u64) (.v 0) (.i 32)))
 (.need (.o .le (.i 0) (.u (.conv .u8) (.o (.shr .u64) (.o (.shr .u64) (.v 0) (.i 32)) (.i 8)))) (.need (.o .lt (.u (.conv .u8) (.o (.shr .u64) (.o (.shr .u64) (.v 0) (.i 32)) (.i 8))) (.u .slen (.s l))) (.leaf [(.o (.add .i64) (.i 40) (.u (.conv .i64) (.o .sidx (.s l) (.u (.conv .u8) (.o (.shr .u64) (.o (.shr .u64) (.v 0) (.i 32)) (.i 8))))))])))
 (.need (.o .le (.i 0) (.u (.conv .u8) (.o (.shr .u64) (.v 0) (.i 32)))) (.need (.o .lt (.u (.conv .u8) (.o (.shr .u64) (.v 0) (.i 32))) (.u .slen (.s l))) (.leaf [(.o (.add .i64) (.i 32) (.u (.conv .i64) (.o .sidx (.s l) (.u (.conv .u8) (.o (.shr .u64) (.v 0) (.i 32))))))])))))
 (.ite (.o .le (.i 65536) (.v 0))
 (.ite (.o .le (.i 256) (.o (.shr .u64) (.v 0) (.i 16)))
 (.need (.o .le (.i 0) (.u (.conv .u8) (.o (.shr .u64) (.o (.shr .u64) (.v 0) (.i 16)) (.i 8)))) (.need (.o .lt (.u (.conv .u8) (.o (.shr .u64) (.o (.shr .u64) (.v 0) (.i 16)) (.i 8))) (.u .slen (.s l))) (.leaf [(.o (.add .i64) (.i 24) (.u (.conv .i64) (.o .sidx (.s l) (.u (.conv .u8) (.o (.shr .u64) (.o (.shr .u64) (.v 0) (.i 16)) (.i 8))))))])))
 (.need (.o .le (.i 0) (.u (.conv .u8) (.o (.shr .u64) (.v 0) (.i 16)))) (.need (.o .lt (.u (.conv .u8) (.o (.shr .u64) (.v 0) (.i 16))) (.u .slen (.s l))) (.leaf [(.o (.add .i64) (.i 16) (.u (.conv .i64) (.o .sidx (.s l) (.u (.conv .u8) (.o (.shr .u64) (.v 0) (.i 16))))))]))))
 (.ite (.o .le (.i 256) (.v 0))
 (.need (.o .le (.i 0) (.u (.conv .u8) (.o (.shr .u64) (.v 0) (.i 8)))) (.need (.o .lt (.u (.conv .u8) (.o (.shr .u64) (.v 0) (.i 8))) (.u .slen (.s l))) (.leaf [(.o (.add .i64) (.i 8) (.u (.conv .i64) (.o .sidx (.s l) (.u (.conv .u8) (.o (.shr .u64) (.v 0) (.i 8))))))])))
 (.need (.o .le (.i 0) (.u (.conv .u8) (.v 0))) (.need (.o .lt (.u (.conv .u8) (.v 0)) (.u .slen (.s l))) (.leaf [(.o (.add .i64) (.i 0) (.u (.conv .i64) (.o .sidx (.s l) (.u (.conv .u8) (.v 0)))))]))))))
set_option maxRecDepth 20000 in
theorem len_eq : tk_bits_Len64 = lenT lenTab := rfl
theorem shr32n (z : Nat) : Int.fdiv (z : Int) (2 ^ (Min.min (32 : Int).toNat IntKind.u64.bits)) = ((z / 4294967296 : Nat) : Int) := shr32 _
theorem shr16n (z : Nat) : Int.fdiv (z : Int) (2 ^ (Min.min (16 : Int).toNat IntKind.u64.bits)) = ((z / 65536 : Nat) : Int) := shr_nat z 16
theorem shr8n (z : Nat) : Int.fdiv (z : Int) (2 ^ (Min.min (8 : Int).toNat IntKind.u64.bits)) = ((z / 256 : Nat) : Int) := shr_nat z 8
theorem u8_w {z : Nat} (h : z < 256) : IntKind.u8.wrap (z : Int) = z := by
  have e : IntKind.u8.wrap (z : Int) = (z : Int) % 256 := rfl
  rw [e]; omega
theorem len_tab : ∀ i : Nat, i < 256 → 0 < i → 1 ≤ ((lenTab.map UInt8.ofNat).getD i 0).toNat ∧ ((lenTab.map UInt8.ofNat).getD i 0).toNat ≤ 8 ∧ 2 ^ (((lenTab.map UInt8.ofNat).getD i 0).toNat - 1) ≤ i ∧ i < 2 ^ ((lenTab.map UInt8.ofNat).getD i 0).toNat := by
  decide +kernel
theorem len_leaf (y k i : Nat) (hi : i = y / 2 ^ k) (h1 : 0 < i) (h2 : i < 256) (hk : k ≤ 56) : ∃ L : Nat, some [Sc.i (IntKind.i64.wrap ((k : Int) + IntKind.i64.wrap (((lenTab.map UInt8.ofNat).getD i 0).toNat : Int)))] = some [Sc.i L] ∧ 1 ≤ L ∧ L ≤ 64 ∧ 2 ^ (L - 1) ≤ y ∧ y < 2 ^ L := by
  obtain ⟨t1, t2, t3, t4⟩ := len_tab i h2 h1
  generalize ((lenTab.map UInt8.ofNat).getD i 0).toNat = t at *
  refine ⟨k + t, ?_, by omega, by omega, ?_, ?_⟩
  · rw [wrI (z := (t : Int)) (by omega) (by omega), wrI (by omega) (by omega)]; simp
  · have := Nat.mul_le_mul_right (2 ^ k) t3
    rw [← Nat.pow_add, show t - 1 + k = k + t - 1 by omega, hi] at this
    exact Nat.le_trans this (Nat.div_mul_le_self y _)
  · rw [hi, Nat.div_lt_iff_lt_mul (Nat.two_pow_pos _), ← Nat.pow_add, Nat.add_comm] at t4
    exact t4
theorem len_size : ({ data := (lenTab.map UInt8.ofNat).toArray } : ByteArray).size = 256 := by decide +kernel
theorem len64_F (y : Nat) (h0 : 0 < y) (hy : y < 18446744073709551616) : ∃ L : Nat, k_bits_Len64.F [.i y] = some [.i L] ∧ 1 ≤ L ∧ L ≤ 64 ∧ 2 ^ (L - 1) ≤ y ∧ y < 2 ^ L := by
  rw [k_bits_Len64_F, len_eq]
  have sz := len_size
  have leaf := len_leaf y
  generalize lenTab = l at *
  simp only [lenT, Go.Proofs.YtkjgcalkkfgmlaaDoor.T.den, Ex.ev, U1.ev, U2.ev, U3.ev, gam, List.map, List.getD_cons_zero, List.length, if_true, Sc.int_i, Sc.bool_b, Sc.str_s, shr32n, shr16n, shr8n, sz]
  by_cases b0 : (4294967296 : Int) ≤ ((y : Nat) : Int)
  · by_cases b1 : (65536 : Int) ≤ ((y / 4294967296 : Nat) : Int)
    · by_cases b2 : (256 : Int) ≤ ((y / 4294967296 / 65536 : Nat) : Int)
      · have w := u8_w (z := y / 4294967296 / 65536 / 256) (by omega)
        have i0 : (0 : Int) ≤ ((y / 4294967296 / 65536 / 256 : Nat) : Int) := by omega
        have i1 : ((y / 4294967296 / 65536 / 256 : Nat) : Int) < ((256 : Nat) : Int) := by omega
        have lf := leaf 56 (y / 4294967296 / 65536 / 256) (by rw [Nat.div_div_eq_div_mul, Nat.div_div_eq_div_mul]) (by omega) (by omega) (by omega)
        have c0 : ((56 : Nat) : Int) = 56 := rfl
        rw [c0] at lf
        simp only [b0, b1, b2, w, i0, i1, Int.toNat_natCast, Int.zero_add, Int.natCast_nonneg, bne_iff_ne, beq_iff_eq, ne_eq, decide_eq_true_eq, Bool.and_eq_true, Bool.or_eq_true, Bool.not_eq_true', decide_eq_false_iff_not, beq_eq_false_iff_ne, bne_eq_false_iff_eq, not_true_eq_false, not_false_eq_true, if_true, if_false, reduceIte, and_true, true_and, and_false, false_and, or_false, false_or, or_true, true_or, List.getD_cons_zero, List.getD_cons_succ, List.length_cons, List.length_nil, List.cons_append, List.nil_append, Nat.reduceAdd, Nat.reduceEqDiff, reduceCtorEq, Bool.not_true, Bool.not_false, Bool.true_and, Bool.and_true, Bool.false_and, Bool.and_false, Bool.or_true, Bool.true_or, Bool.or_false, Bool.false_or, Bool.false_eq_true, Bool.true_eq_false, Sc.int_i, Sc.bool_b, Sc.list_l, Sc.str_s, Int.reduceEq, Int.reduceLT, Int.reduceLE, Int.reduceNe, decide_true, decide_false, decide_not, eq_self, Classical.not_not, List.getElem?_cons_zero, List.getElem?_cons_succ, beq_self_eq_true, bne_self_eq_false]
        exact lf
      · have w := u8_w (z := y / 4294967296 / 65536) (by omega)
        have i0 : (0 : Int) ≤ ((y / 4294967296 / 65536 : Nat) : Int) := by omega
        have i1 : ((y / 4294967296 / 65536 : Nat) : Int) < ((256 : Nat) : Int) := by omega
        have lf := leaf 48 (y / 4294967296 / 65536) (by rw [Nat.div_div_eq_div_mul]) (by omega) (by omega) (by omega)
        have c0 : ((48 : Nat) : Int) = 48 := rfl
        rw [c0] at lf
        simp only [b0, b1, b2, w, i0, i1, Int.toNat_natCast, Int.zero_add, Int.natCast_nonneg, bne_iff_ne, beq_iff_eq, ne_eq, decide_eq_true_eq, Bool.and_eq_true, Bool.or_eq_true, Bool.not_eq_true', decide_eq_false_iff_not, beq_eq_false_iff_ne, bne_eq_false_iff_eq, not_true_eq_false, not_false_eq_true, if_true, if_false, reduceIte, and_true, true_and, and_false, false_and, or_false, false_or, or_true, true_or, List.getD_cons_zero, List.getD_cons_succ, List.length_cons, List.length_nil, List.cons_append, List.nil_append, Nat.reduceAdd, Nat.reduceEqDiff, reduceCtorEq, Bool.not_true, Bool.not_false, Bool.true_and, Bool.and_true, Bool.false_and, Bool.and_false, Bool.or_true, Bool.true_or, Bool.or_false, Bool.false_or, Bool.false_eq_true, Bool.true_eq_false, Sc.int_i, Sc.bool_b, Sc.list_l, Sc.str_s, Int.reduceEq, Int.reduceLT, Int.reduceLE, Int.reduceNe, decide_true, decide_false, decide_not, eq_self, Classical.not_not, List.getElem?_cons_zero, List.getElem?_cons_succ, beq_self_eq_true, bne_self_eq_false]
        exact lf
    · by_cases b2 : (256 : Int) ≤ ((y / 4294967296 : Nat) : Int)
      · have w := u8_w (z := y / 4294967296 / 256) (by omega)
        have i0 : (0 : Int) ≤ ((y / 4294967296 / 256 : Nat) : Int) := by omega
        have i1 : ((y / 4294967296 / 256 : Nat) : Int) < ((256 : Nat) : Int) := by omega
        have lf := leaf 40 (y / 4294967296 / 256) (by rw [Nat.div_div_eq_div_mul]) (by omega) (by omega) (by omega)
        have c0 : ((40 : Nat) : Int) = 40 := rfl
        rw [c0] at lf
        simp only [b0, b1, b2, w, i0, i1, Int.toNat_natCast, Int.zero_add, Int.natCast_nonneg, bne_iff_ne, beq_iff_eq, ne_eq, decide_eq_true_eq, Bool.and_eq_true, Bool.or_eq_true, Bool.not_eq_true', decide_eq_false_iff_not, beq_eq_false_iff_ne, bne_eq_false_iff_eq, not_true_eq_false, not_false_eq_true, if_true, if_false, reduceIte, and_true, true_and, and_false, false_and, or_false, false_or, or_true, true_or, List.getD_cons_zero, List.getD_cons_succ, List.length_cons, List.length_nil, List.cons_append, List.nil_append, Nat.reduceAdd, Nat.reduceEqDiff, reduceCtorEq, Bool.not_true, Bool.not_false, Bool.true_and, Bool.and_true, Bool.false_and, Bool.and_false, Bool.or_true, Bool.true_or, Bool.or_false, Bool.false_or, Bool.false_eq_true, Bool.true_eq_false, Sc.int_i, Sc.bool_b, Sc.list_l, Sc.str_s, Int.reduceEq, Int.reduceLT, Int.reduceLE, Int.reduceNe, decide_true, decide_false, decide_not, eq_self, Classical.not_not, List.getElem?_cons_zero, List.getElem?_cons_succ, beq_self_eq_true, bne_self_eq_false]
        exact lf
      · have w := u8_w (z := y / 4294967296) (by omega)
        have i0 : (0 : Int) ≤ ((y / 4294967296 : Nat) : Int) := by omega
        have i1 : ((y / 4294967296 : Nat) : Int) < ((256 : Nat) : Int) := by omega
        have lf := leaf 32 (y / 4294967296) (by rfl) (by omega) (by omega) (by omega)
        have c0 : ((32 : Nat) : Int) = 32 := rfl
        rw [c0] at lf
        simp only [b0, b1, b2, w, i0, i1, Int.toNat_natCast, Int.zero_add, Int.natCast_nonneg, bne_iff_ne, beq_iff_eq, ne_eq, decide_eq_true_eq, Bool.and_eq_true, Bool.or_eq_true, Bool.not_eq_true', decide_eq_false_iff_not, beq_eq_false_iff_ne, bne_eq_false_iff_eq, not_true_eq_false, not_false_eq_true, if_true, if_false, reduceIte, and_true, true_and, and_false, false_and, or_false, false_or, or_true, true_or, List.getD_cons_zero, List.getD_cons_succ, List.length_cons, List.length_nil, List.cons_append, List.nil_append, Nat.reduceAdd, Nat.reduceEqDiff, reduceCtorEq, Bool.not_true, Bool.not_false, Bool.true_and, Bool.and_true, Bool.false_and, Bool.and_false, Bool.or_true, Bool.true_or, Bool.or_false, Bool.false_or, Bool.false_eq_true, Bool.true_eq_false, Sc.int_i, Sc.bool_b, Sc.list_l, Sc.str_s, Int.reduceEq, Int.reduceLT, Int.reduceLE, Int.reduceNe, decide_true, decide_false, decide_not, eq_self, Classical.not_not, List.getElem?_cons_zero, List.getElem?_cons_succ, beq_self_eq_true, bne_self_eq_false]
        exact lf
  · by_cases b1 : (65536 : Int) ≤ ((y : Nat) : Int)
    · by_cases b2 : (256 : Int) ≤ ((y / 65536 : Nat) : Int)
      · have w := u8_w (z := y / 65536 / 256) (by omega)
        have i0 : (0 : Int) ≤ ((y / 65536 / 256 : Nat) : Int) := by omega
        have i1 : ((y / 65536 / 256 : Nat) : Int) < ((256 : Nat) : Int) := by omega
        have lf := leaf 24 (y / 65536 / 256) (by rw [Nat.div_div_eq_div_mul]) (by omega) (by omega) (by omega)
        have c0 : ((24 : Nat) : Int) = 24 := rfl
        rw [c0] at lf
        simp only [b0, b1, b2, w, i0, i1, Int.toNat_natCast, Int.zero_add, Int.natCast_nonneg, bne_iff_ne, beq_iff_eq, ne_eq, decide_eq_true_eq, Bool.and_eq_true, Bool.or_eq_true, Bool.not_eq_true', decide_eq_false_iff_not, beq_eq_false_iff_ne, bne_eq_false_iff_eq, not_true_eq_false, not_false_eq_true, if_true, if_false, reduceIte, and_true, true_and, and_false, false_and, or_false, false_or, or_true, true_or, List.getD_cons_zero, List.getD_cons_succ, List.length_cons, List.length_nil, List.cons_append, List.nil_append, Nat.reduceAdd, Nat.reduceEqDiff, reduceCtorEq, Bool.not_true, Bool.not_false, Bool.true_and, Bool.and_true, Bool.false_and, Bool.and_false, Bool.or_true, Bool.true_or, Bool.or_false, Bool.false_or, Bool.false_eq_true, Bool.true_eq_false, Sc.int_i, Sc.bool_b, Sc.list_l, Sc.str_s, Int.reduceEq, Int.reduceLT, Int.reduceLE, Int.reduceNe, decide_true, decide_false, decide_not, eq_self, Classical.not_not, List.getElem?_cons_zero, List.getElem?_cons_succ, beq_self_eq_true, bne_self_eq_false]
        exact lf
      · have w := u8_w (z := y / 65536) (by omega)
        have i0 : (0 : Int) ≤ ((y / 65536 : Nat) : Int) := by omega
        have i1 : ((y / 65536 : Nat) : Int) < ((256 : Nat) : Int) := by omega
        have lf := leaf 16 (y / 65536) (by rfl) (by omega) (by omega) (by omega)
        have c0 : ((16 : Nat) : Int) = 16 := rfl
        rw [c0] at lf
        simp only [b0, b1, b2, w, i0, i1, Int.toNat_natCast, Int.zero_add, Int.natCast_nonneg, bne_iff_ne, beq_iff_eq, ne_eq, decide_eq_true_eq, Bool.and_eq_true, Bool.or_eq_true, Bool.not_eq_true', decide_eq_false_iff_not, beq_eq_false_iff_ne, bne_eq_false_iff_eq, not_true_eq_false, not_false_eq_true, if_true, if_false, reduceIte, and_true, true_and, and_false, false_and, or_false, false_or, or_true, true_or, List.getD_cons_zero, List.getD_cons_succ, List.length_cons, List.length_nil, List.cons_append, List.nil_append, Nat.reduceAdd, Nat.reduceEqDiff, reduceCtorEq, Bool.not_true, Bool.not_false, Bool.true_and, Bool.and_true, Bool.false_and, Bool.and_false, Bool.or_true, Bool.true_or, Bool.or_false, Bool.false_or, Bool.false_eq_true, Bool.true_eq_false, Sc.int_i, Sc.bool_b, Sc.list_l, Sc.str_s, Int.reduceEq, Int.reduceLT, Int.reduceLE, Int.reduceNe, decide_true, decide_false, decide_not, eq_self, Classical.not_not, List.getElem?_cons_zero, List.getElem?_cons_succ, beq_self_eq_true, bne_self_eq_false]
        exact lf
    · by_cases b2 : (256 : Int) ≤ ((y : Nat) : Int)
      · have w := u8_w (z := y / 256) (by omega)
        have i0 : (0 : Int) ≤ ((y / 256 : Nat) : Int) := by omega
        have i1 : ((y / 256 : Nat) : Int) < ((256 : Nat) : Int) := by omega
        have lf := leaf 8 (y / 256) (by rfl) (by omega) (by omega) (by omega)
        have c0 : ((8 : Nat) : Int) = 8 := rfl
        rw [c0] at lf
        simp only [b0, b1, b2, w, i0, i1, Int.toNat_natCast, Int.zero_add, Int.natCast_nonneg, bne_iff_ne, beq_iff_eq, ne_eq, decide_eq_true_eq, Bool.and_eq_true, Bool.or_eq_true, Bool.not_eq_true', decide_eq_false_iff_not, beq_eq_false_iff_ne, bne_eq_false_iff_eq, not_true_eq_false, not_false_eq_true, if_true, if_false, reduceIte, and_true, true_and, and_false, false_and, or_false, false_or, or_true, true_or, List.getD_cons_zero, List.getD_cons_succ, List.length_cons, List.length_nil, List.cons_append, List.nil_append, Nat.reduceAdd, Nat.reduceEqDiff, reduceCtorEq, Bool.not_true, Bool.not_false, Bool.true_and, Bool.and_true, Bool.false_and, Bool.and_false, Bool.or_true, Bool.true_or, Bool.or_false, Bool.false_or, Bool.false_eq_true, Bool.true_eq_false, Sc.int_i, Sc.bool_b, Sc.list_l, Sc.str_s, Int.reduceEq, Int.reduceLT, Int.reduceLE, Int.reduceNe, decide_true, decide_false, decide_not, eq_self, Classical.not_not, List.getElem?_cons_zero, List.getElem?_cons_succ, beq_self_eq_true, bne_self_eq_false]
        exact lf
      · have w := u8_w (z := y) (by omega)
        have i0 : (0 : Int) ≤ ((y : Nat) : Int) := by omega
        have i1 : ((y : Nat) : Int) < ((256 : Nat) : Int) := by omega
        have lf := leaf 0 (y) (by simp) (by omega) (by omega) (by omega)
        have c0 : ((0 : Nat) : Int) = 0 := rfl
        rw [c0] at lf
        simp only [b0, b1, b2, w, i0, i1, Int.toNat_natCast, Int.zero_add, Int.natCast_nonneg, bne_iff_ne, beq_iff_eq, ne_eq, decide_eq_true_eq, Bool.and_eq_true, Bool.or_eq_true, Bool.not_eq_true', decide_eq_false_iff_not, beq_eq_false_iff_ne, bne_eq_false_iff_eq, not_true_eq_false, not_false_eq_true, if_true, if_false, reduceIte, and_true, true_and, and_false, false_and, or_false, false_or, or_true, true_or, List.getD_cons_zero, List.getD_cons_succ, List.length_cons, List.length_nil, List.cons_append, List.nil_append, Nat.reduceAdd, Nat.reduceEqDiff, reduceCtorEq, Bool.not_true, Bool.not_false, Bool.true_and, Bool.and_true, Bool.false_and, Bool.and_false, Bool.or_true, Bool.true_or, Bool.or_false, Bool.false_or, Bool.false_eq_true, Bool.true_eq_false, Sc.int_i, Sc.bool_b, Sc.list_l, Sc.str_s, Int.reduceEq, Int.reduceLT, Int.reduceLE, Int.reduceNe, decide_true, decide_false, decide_not, eq_self, Classical.not_not, List.getElem?_cons_zero, List.getElem?_cons_succ, beq_self_eq_true, bne_self_eq_false]
        simp only [Int.zero_add] at lf
        exact lf
theorem lz64_F (y : Nat) (h0 : 0 < y) (hy : y < 18446744073709551616) : ∃ s : Nat, k_bits_LeadingZeros64.F [.i y] = some [.i s] ∧ s < 64 ∧ 9223372036854775808 ≤ y * 2 ^ s ∧ y * 2 ^ s < 18446744073709551616 := by
  obtain ⟨L, e, l1, l2, l3, l4⟩ := len64_F y h0 hy
  refine ⟨64 - L, ?_, by omega, norm_y l1 l2 l3 l4⟩
  have w : IntKind.i64.wrap (64 - (L : Int)) = ((64 - L : Nat) : Int) := by rw [wrI (by omega) (by omega)]; omega
  simp only [k_bits_LeadingZeros64_F, tk_bits_LeadingZeros64, k_bits_Len64_f, e, w, Go.Proofs.YtkjgcalkkfgmlaaDoor.T.den, Ex.ev, U1.ev, U2.ev, U3.ev, gam, List.map, List.getD_cons_zero, List.getD_cons_succ, List.length, List.cons_append, List.nil_append, if_true, Sc.int_i, Sc.bool_b, Sc.list_l, Sc.str_s, Nat.reduceEqDiff, if_false, List.getElem?_cons_zero, List.getElem?_cons_succ]
end Go.Proofs.YtkjgcalkkfgmlaaDoor
namespace Go.Proofs.YtkjgcalkkfgmlaaDoor
set_option linter.unusedSimpArgs false
theorem cast_shl (a s : Nat) : ((a * 2 ^ s : Nat) : Int) = (a : Int) * 2 ^ s := by simp
theorem band32n (z : Nat) (h : z < 18446744073709551616) : IntKind.u64.wrap ((BitVec.ofInt IntKind.u64.bits (z : Int) &&& BitVec.ofInt IntKind.u64.bits 4294967295).toNat : Int) = ((z % 4294967296 : Nat) : Int) := band32 _ (by omega) (by omega)
theorem dig_rule {g : (List Sc → Option (List Sc)) → List Sc → Option (List Sc)} {Y y1 y0 U n : Nat} {R : Option (List Sc)} (K : Nat → Option (List Sc)) (hY : Y = 4294967296 * y1 + y0) (h0 : y0 < 4294967296) (h1 : 2147483648 ≤ y1) (h2 : y1 < 4294967296) (hU : U < Y) (hn : n < 4294967296)
    (stop : ∀ q r rec, q < 4294967296 → r < 4294967296 → ¬ 4294967296 * r + n < q * y0 → g rec [.i ((q : Nat) : Int), .i ((r : Nat) : Int)] = K q)
    (exit : ∀ q r rec, q ≤ 4294967296 → r < 4294967296 → (4294967296 ≤ q + 1 ∨ 4294967296 * r + n < (q + 1) * y0) → 4294967296 ≤ r + y1 → g rec [.i ((q + 1 : Nat) : Int), .i ((r : Nat) : Int)] = K q)
    (cont : ∀ q r rec, q ≤ 4294967296 → r < 4294967296 → (4294967296 ≤ q + 1 ∨ 4294967296 * r + n < (q + 1) * y0) → r + y1 < 4294967296 → g rec [.i ((q + 1 : Nat) : Int), .i ((r : Nat) : Int)] = rec [.i (q : Int), .i ((r + y1 : Nat) : Int)])
    (fin : K ((U * 4294967296 + n) / Y) = R) : loopN g rounds [.i ((U / y1 : Nat) : Int), .i ((U % y1 : Nat) : Int)] = R := by
  have st := dig_start hY h0 h1 hU hn
  have dm := Nat.div_add_mod U y1
  refine loop_rounds (S := Nat × Nat) (fun s => [.i s.1, .i s.2]) (fun _ => R) (fun s => U = s.1 * y1 + s.2 ∧ s.2 < 4294967296 ∧ s.1 ≤ 4294967297 ∧ (U * 4294967296 + n) / Y ≤ s.1) (fun s => s.1) ?_ (U / y1, U % y1) ⟨by rw [Nat.mul_comm]; exact dm.symm, by simp only; omega, by simp only; omega, by simp only; omega⟩ (by simp only; omega)
  rintro ⟨q, r⟩ rec ⟨e, hr, hq, hQ⟩ hrec
  simp only at e hr hq hQ ⊢
  have ct := dig_test hY hU hn e
  by_cases hlt : (U * 4294967296 + n) / Y < q
  · obtain ⟨q, rfl⟩ : ∃ k, q = k + 1 := ⟨q - 1, (Nat.succ_pred_eq_of_pos (Nat.lt_of_le_of_lt (Nat.zero_le _) hlt)).symm⟩
    have hc := ct.2 hlt
    by_cases he : 4294967296 ≤ r + y1
    · have x := dig_exit hY h0 hU hn e hlt he
      rw [exit q r rec (by omega) hr hc he, ← x, fin]
    · rw [cont q r rec (by omega) hr hc (by omega)]
      exact hrec (q, r + y1) ⟨by show U = q * y1 + (r + y1); rw [e, Nat.succ_mul]; omega, by simp only; omega, by simp only; omega, Nat.le_of_lt_succ hlt⟩ (by simp only; omega)
  · have hc : ¬ (4294967296 ≤ q ∨ 4294967296 * r + n < q * y0) := fun h => hlt (ct.1 h)
    have hq2 : q < 4294967296 := Nat.lt_of_not_le (fun h => hc (.inl h))
    have x : (U * 4294967296 + n) / Y = q := Nat.le_antisymm hQ (Nat.le_of_not_lt hlt)
    rw [stop q r rec hq2 hr (fun h => hc (.inr h)), ← x, fin]
theorem un_eq {U un1 Q Y R : Nat} (h : Y * Q + R = U * 4294967296 + un1) (hR : R < 18446744073709551616) : IntKind.u64.wrap (IntKind.u64.wrap (IntKind.u64.wrap ((U : Int) * 4294967296) + un1) - IntKind.u64.wrap ((Q : Int) * Y)) = R := by
  have e : (Q : Int) * Y = ((Y * Q : Nat) : Int) := by rw [Nat.mul_comm]; simp
  rw [e]
  simp only [IntKind.wrap_u64]
  omega
theorem rem_eq {a b : Nat} (h : a < 18446744073709551616) : IntKind.u64.wrap ((a : Int) - IntKind.u64.wrap (((a / b : Nat) : Int) * b)) = ((a % b : Nat) : Int) := by
  have e : ((a / b : Nat) : Int) * b = ((b * (a / b) : Nat) : Int) := by rw [Nat.mul_comm]; simp
  have d := Nat.div_add_mod a b
  rw [e]
  simp only [IntKind.wrap_u64]
  omega
/-- The wraps of a round. -/
theorem dig_w {q r n y1 y0 : Nat} (hq : q ≤ 4294967297) (hr : r < 4294967296) (hn : n < 4294967296) (h2 : y1 < 4294967296) (h0 : y0 < 4294967296) :
    IntKind.u64.wrap (IntKind.u64.wrap (4294967296 * (r : Int)) + n) = ((4294967296 * r + n : Nat) : Int) ∧ IntKind.u64.wrap ((q : Int) * y0) = ((q * y0 : Nat) : Int) ∧ IntKind.u64.wrap ((r : Int) + y1) = ((r + y1 : Nat) : Int) := by
  have m : q * y0 ≤ 4294967297 * 4294967295 := Nat.mul_le_mul hq (by omega)
  refine ⟨?_, ?_, ?_⟩
  · rw [wrU (z := 4294967296 * (r : Int)) (by omega) (by omega), wrU (by omega) (by omega)]; omega
  · rw [← Int.natCast_mul, wrU (by omega) (by omega)]
  · rw [wrU (by omega) (by omega)]; omega
theorem two_w {a b : Nat} (h : a * 4294967296 + b < 18446744073709551616) : IntKind.u64.wrap (IntKind.u64.wrap ((a : Int) * 4294967296) + b) = ((a * 4294967296 + b : Nat) : Int) := by
  simp only [IntKind.wrap_u64]; omega
theorem div64_F (hi lo y : Nat) (h : hi < y) (hl : lo < 18446744073709551616) (hy : y < 18446744073709551616) : k_bits_Div64.F [.i hi, .i lo, .i y] = some [.i (((hi * 18446744073709551616 + lo) / y : Nat) : Int), .i (((hi * 18446744073709551616 + lo) % y : Nat) : Int)] := by
  obtain ⟨s, ls, hs, n1, n2⟩ := lz64_F y (by omega) hy
  have ws : IntKind.u64.wrap (s : Int) = s := wrU (by omega) (by omega)
  have w64 : IntKind.u64.wrap (64 - (s : Int)) = ((64 - s : Nat) : Int) := by rw [wrU (by omega) (by omega)]; omega
  have t1 : Min.min (s : Int).toNat IntKind.u64.bits = s := by show Min.min s 64 = s; omega
  have t2 : Min.min ((64 - s : Nat) : Int).toNat IntKind.u64.bits = 64 - s := by show Min.min (64 - s) 64 = 64 - s; omega
  have py : IntKind.u64.wrap ((y : Int) * 2 ^ s) = ((y * 2 ^ s : Nat) : Int) := by
    rw [← cast_shl, wrU (by omega) (by omega)]
  have hlt := shl_lt (s := s) (by omega) h hl
  have hlo : lo / 2 ^ (64 - s) < 2 ^ s := by
    rw [Nat.div_lt_iff_lt_mul (Nat.two_pow_pos _), ← Nat.pow_add, show s + (64 - s) = 64 by omega]; exact hl
  have hh : hi * 2 ^ s < 18446744073709551616 := Nat.lt_of_le_of_lt (Nat.le_add_right _ _) (Nat.lt_trans hlt n2)
  have ph : IntKind.u64.wrap ((hi : Int) * 2 ^ s) = ((hi * 2 ^ s : Nat) : Int) := by
    rw [← cast_shl, wrU (by omega) (by omega)]
  have pl : IntKind.u64.wrap ((lo : Int) * 2 ^ s) = ((lo * 2 ^ s % 18446744073709551616 : Nat) : Int) := by
    rw [← cast_shl, IntKind.wrap_u64]; omega
  have bo := bor_add (a := hi) (b := lo / 2 ^ (64 - s)) (s := s) (by rw [Nat.mul_comm]; omega) hlo
  have jn := shl_join (hi := hi) (lo := lo) (s := s) (by omega)
  have sy := shr32n (y * 2 ^ s)
  have by' := band32n (y * 2 ^ s) n2
  have sl := shr32n (lo * 2 ^ s % 18446744073709551616)
  have bl := band32n (lo * 2 ^ s % 18446744073709551616) (by omega)
  have c0 : (0 : Int) ≤ s := by omega
  have c1 : (0 : Int) ≤ ((64 - s : Nat) : Int) := by omega
  rw [Nat.mul_comm (2 ^ s) hi] at bo
  have dj := dig_join (N := hi * 18446744073709551616 + lo) (y := y) (s := s) (Y := y * 2 ^ s) (U := hi * 2 ^ s + lo / 2 ^ (64 - s)) (un1 := lo * 2 ^ s % 18446744073709551616 / 4294967296) (un0 := lo * 2 ^ s % 18446744073709551616 % 4294967296) (by omega) rfl (by rw [Nat.div_add_mod']; exact jn)
  have g0 : ¬ (y : Int) = 0 := by omega
  have g1 : ¬ (y : Int) ≤ hi := by omega
  have hyd := Nat.div_add_mod (y * 2 ^ s) 4294967296
  have hy0 : y * 2 ^ s % 4294967296 < 4294967296 := Nat.mod_lt _ (by omega)
  have hy1 : 2147483648 ≤ y * 2 ^ s / 4294967296 ∧ y * 2 ^ s / 4294967296 < 4294967296 := by omega
  have hn1 : lo * 2 ^ s % 18446744073709551616 / 4294967296 < 4294967296 := by omega
  have hn0 : lo * 2 ^ s % 18446744073709551616 % 4294967296 < 4294967296 := by omega
  have g2 : ¬ ((y * 2 ^ s / 4294967296 : Nat) : Int) = 0 := by omega
  have shr_s := fun z : Nat => shr_nat z s
  simp only [k_bits_Div64_F, tk_bits_Div64, k_bits_LeadingZeros64_f, ls, ws, w64, t1, t2, py, shr_nat lo (64 - s), Go.Proofs.YtkjgcalkkfgmlaaDoor.T.den, Ex.ev, U1.ev, U2.ev, U3.ev, gam, List.map, List.getD_cons_zero, List.getD_cons_succ, List.length, List.cons_append, List.nil_append, if_true, Sc.int_i, Sc.bool_b, Sc.list_l, Sc.str_s, Nat.reduceEqDiff, if_false, List.getElem?_cons_zero, List.getElem?_cons_succ]
  simp only [ph, bo, pl, sy, by', sl, bl]
  generalize hYY : y * 2 ^ s = Y at *
  generalize hUU : hi * 2 ^ s + lo / 2 ^ (64 - s) = U at *
  generalize h11 : lo * 2 ^ s % 18446744073709551616 / 4294967296 = un1 at *
  generalize h00 : lo * 2 ^ s % 18446744073709551616 % 4294967296 = un0 at *
  generalize Y / 4294967296 = y1 at *
  generalize Y % 4294967296 = y0 at *
  simp only [g0, g1, g2, c0, c1, beq_iff_eq, Int.natCast_nonneg, bne_iff_ne, beq_iff_eq, ne_eq, decide_eq_true_eq, Bool.and_eq_true, Bool.or_eq_true, Bool.not_eq_true', decide_eq_false_iff_not, beq_eq_false_iff_ne, bne_eq_false_iff_eq, not_true_eq_false, not_false_eq_true, if_true, if_false, reduceIte, and_true, true_and, and_false, false_and, or_false, false_or, or_true, true_or, List.getD_cons_zero, List.getD_cons_succ, List.length_cons, List.length_nil, List.cons_append, List.nil_append, Nat.reduceAdd, Nat.reduceEqDiff, reduceCtorEq, Bool.not_true, Bool.not_false, Bool.true_and, Bool.and_true, Bool.false_and, Bool.and_false, Bool.or_true, Bool.true_or, Bool.or_false, Bool.false_or, Bool.false_eq_true, Bool.true_eq_false, Sc.int_i, Sc.bool_b, Sc.list_l, Sc.str_s, Int.reduceEq, Int.reduceLT, Int.reduceLE, Int.reduceNe, decide_true, decide_false, decide_not, eq_self, Classical.not_not, List.getElem?_cons_zero, List.getElem?_cons_succ, beq_self_eq_true, bne_self_eq_false]
  by_cases hz : (hi : Int) = 0
  · have hz' : hi = 0 := by omega
    have q := quo_nat (a := lo) (b := y) hl
    have m : Int.tmod (lo : Int) (y : Int) = ((lo % y : Nat) : Int) := rfl
    rw [if_pos hz, q, m, hz', Nat.zero_mul, Nat.zero_add]
  rw [if_neg hz]
  have hU64 : U < 18446744073709551616 := by omega
  have iq := quo_nat (a := U) (b := y1) hU64
  have ir := rem_eq (a := U) (b := y1) hU64
  rw [iq, ir]
  have hyd' : Y = 4294967296 * y1 + y0 := by omega
  have key := fun g R K st ex co fi => dig_rule (g := g) (R := R) K hyd' hy0 hy1.1 hy1.2 hlt hn1 st ex co fi
  refine key _ _ ?_ ?_ ?_ ?_ ?_
  case refine_2 =>
    intro q r rec hq hr hc
    obtain ⟨w1, w2, w3⟩ := dig_w (q := q) (by omega) hr hn1 hy1.2 hy0
    have k1 : ¬ (4294967296 : Int) ≤ q := by omega
    have k2 : ¬ ((4294967296 * r + un1 : Nat) : Int) < ((q * y0 : Nat) : Int) := by omega
    simp only [w1, w2, k1, k2, Int.natCast_nonneg, bne_iff_ne, beq_iff_eq, ne_eq, decide_eq_true_eq, Bool.and_eq_true, Bool.or_eq_true, Bool.not_eq_true', decide_eq_false_iff_not, beq_eq_false_iff_ne, bne_eq_false_iff_eq, not_true_eq_false, not_false_eq_true, if_true, if_false, reduceIte, and_true, true_and, and_false, false_and, or_false, false_or, or_true, true_or, List.getD_cons_zero, List.getD_cons_succ, List.length_cons, List.length_nil, List.cons_append, List.nil_append, Nat.reduceAdd, Nat.reduceEqDiff, reduceCtorEq, Bool.not_true, Bool.not_false, Bool.true_and, Bool.and_true, Bool.false_and, Bool.and_false, Bool.or_true, Bool.true_or, Bool.or_false, Bool.false_or, Bool.false_eq_true, Bool.true_eq_false, Sc.int_i, Sc.bool_b, Sc.list_l, Sc.str_s, Int.reduceEq, Int.reduceLT, Int.reduceLE, Int.reduceNe, decide_true, decide_false, decide_not, eq_self, Classical.not_not, List.getElem?_cons_zero, List.getElem?_cons_succ, beq_self_eq_true, bne_self_eq_false]
    rfl
  case refine_3 =>
    intro q r rec hq hr hc he
    obtain ⟨w1, w2, w3⟩ := dig_w (q := q + 1) (by omega) hr hn1 hy1.2 hy0
    have w4 : IntKind.u64.wrap (((q + 1 : Nat) : Int) - 1) = q := by rw [wrU (by omega) (by omega)]; omega
    have k3 : (4294967296 : Int) ≤ ((r + y1 : Nat) : Int) := by omega
    by_cases hb : 4294967296 ≤ q + 1
    · have k1 : (4294967296 : Int) ≤ ((q + 1 : Nat) : Int) := by omega
      simp only [w3, w4, k1, k3, Int.natCast_nonneg, bne_iff_ne, beq_iff_eq, ne_eq, decide_eq_true_eq, Bool.and_eq_true, Bool.or_eq_true, Bool.not_eq_true', decide_eq_false_iff_not, beq_eq_false_iff_ne, bne_eq_false_iff_eq, not_true_eq_false, not_false_eq_true, if_true, if_false, reduceIte, and_true, true_and, and_false, false_and, or_false, false_or, or_true, true_or, List.getD_cons_zero, List.getD_cons_succ, List.length_cons, List.length_nil, List.cons_append, List.nil_append, Nat.reduceAdd, Nat.reduceEqDiff, reduceCtorEq, Bool.not_true, Bool.not_false, Bool.true_and, Bool.and_true, Bool.false_and, Bool.and_false, Bool.or_true, Bool.true_or, Bool.or_false, Bool.false_or, Bool.false_eq_true, Bool.true_eq_false, Sc.int_i, Sc.bool_b, Sc.list_l, Sc.str_s, Int.reduceEq, Int.reduceLT, Int.reduceLE, Int.reduceNe, decide_true, decide_false, decide_not, eq_self, Classical.not_not, List.getElem?_cons_zero, List.getElem?_cons_succ, beq_self_eq_true, bne_self_eq_false]
    · have k1 : ¬ (4294967296 : Int) ≤ ((q + 1 : Nat) : Int) := by omega
      have k2 : ((4294967296 * r + un1 : Nat) : Int) < (((q + 1) * y0 : Nat) : Int) := by omega
      simp only [w1, w2, w3, w4, k1, k2, k3, Int.natCast_nonneg, bne_iff_ne, beq_iff_eq, ne_eq, decide_eq_true_eq, Bool.and_eq_true, Bool.or_eq_true, Bool.not_eq_true', decide_eq_false_iff_not, beq_eq_false_iff_ne, bne_eq_false_iff_eq, not_true_eq_false, not_false_eq_true, if_true, if_false, reduceIte, and_true, true_and, and_false, false_and, or_false, false_or, or_true, true_or, List.getD_cons_zero, List.getD_cons_succ, List.length_cons, List.length_nil, List.cons_append, List.nil_append, Nat.reduceAdd, Nat.reduceEqDiff, reduceCtorEq, Bool.not_true, Bool.not_false, Bool.true_and, Bool.and_true, Bool.false_and, Bool.and_false, Bool.or_true, Bool.true_or, Bool.or_false, Bool.false_or, Bool.false_eq_true, Bool.true_eq_false, Sc.int_i, Sc.bool_b, Sc.list_l, Sc.str_s, Int.reduceEq, Int.reduceLT, Int.reduceLE, Int.reduceNe, decide_true, decide_false, decide_not, eq_self, Classical.not_not, List.getElem?_cons_zero, List.getElem?_cons_succ, beq_self_eq_true, bne_self_eq_false]
  case refine_4 =>
    intro q r rec hq hr hc he
    obtain ⟨w1, w2, w3⟩ := dig_w (q := q + 1) (by omega) hr hn1 hy1.2 hy0
    have w4 : IntKind.u64.wrap (((q + 1 : Nat) : Int) - 1) = q := by rw [wrU (by omega) (by omega)]; omega
    have k3 : ¬ (4294967296 : Int) ≤ ((r + y1 : Nat) : Int) := by omega
    by_cases hb : 4294967296 ≤ q + 1
    · have k1 : (4294967296 : Int) ≤ ((q + 1 : Nat) : Int) := by omega
      simp only [w3, w4, k1, k3, Int.natCast_nonneg, bne_iff_ne, beq_iff_eq, ne_eq, decide_eq_true_eq, Bool.and_eq_true, Bool.or_eq_true, Bool.not_eq_true', decide_eq_false_iff_not, beq_eq_false_iff_ne, bne_eq_false_iff_eq, not_true_eq_false, not_false_eq_true, if_true, if_false, reduceIte, and_true, true_and, and_false, false_and, or_false, false_or, or_true, true_or, List.getD_cons_zero, List.getD_cons_succ, List.length_cons, List.length_nil, List.cons_append, List.nil_append, Nat.reduceAdd, Nat.reduceEqDiff, reduceCtorEq, Bool.not_true, Bool.not_false, Bool.true_and, Bool.and_true, Bool.false_and, Bool.and_false, Bool.or_true, Bool.true_or, Bool.or_false, Bool.false_or, Bool.false_eq_true, Bool.true_eq_false, Sc.int_i, Sc.bool_b, Sc.list_l, Sc.str_s, Int.reduceEq, Int.reduceLT, Int.reduceLE, Int.reduceNe, decide_true, decide_false, decide_not, eq_self, Classical.not_not, List.getElem?_cons_zero, List.getElem?_cons_succ, beq_self_eq_true, bne_self_eq_false]
    · have k1 : ¬ (4294967296 : Int) ≤ ((q + 1 : Nat) : Int) := by omega
      have k2 : ((4294967296 * r + un1 : Nat) : Int) < (((q + 1) * y0 : Nat) : Int) := by omega
      simp only [w1, w2, w3, w4, k1, k2, k3, Int.natCast_nonneg, bne_iff_ne, beq_iff_eq, ne_eq, decide_eq_true_eq, Bool.and_eq_true, Bool.or_eq_true, Bool.not_eq_true', decide_eq_false_iff_not, beq_eq_false_iff_ne, bne_eq_false_iff_eq, not_true_eq_false, not_false_eq_true, if_true, if_false, reduceIte, and_true, true_and, and_false, false_and, or_false, false_or, or_true, true_or, List.getD_cons_zero, List.getD_cons_succ, List.length_cons, List.length_nil, List.cons_append, List.nil_append, Nat.reduceAdd, Nat.reduceEqDiff, reduceCtorEq, Bool.not_true, Bool.not_false, Bool.true_and, Bool.and_true, Bool.false_and, Bool.and_false, Bool.or_true, Bool.true_or, Bool.or_false, Bool.false_or, Bool.false_eq_true, Bool.true_eq_false, Sc.int_i, Sc.bool_b, Sc.list_l, Sc.str_s, Int.reduceEq, Int.reduceLT, Int.reduceLE, Int.reduceNe, decide_true, decide_false, decide_not, eq_self, Classical.not_not, List.getElem?_cons_zero, List.getElem?_cons_succ, beq_self_eq_true, bne_self_eq_false]
  have d1 := Nat.div_add_mod (U * 4294967296 + un1) Y
  have hR1 := Nat.mod_lt (U * 4294967296 + un1) (show 0 < Y by omega)
  obtain ⟨Q1, eQ1⟩ : ∃ Q1, (U * 4294967296 + un1) / Y = Q1 := ⟨_, rfl⟩
  obtain ⟨R1, eR1⟩ : ∃ R1, (U * 4294967296 + un1) % Y = R1 := ⟨_, rfl⟩
  rw [eQ1, eR1] at d1 dj
  rw [eR1] at hR1
  rw [eQ1]
  have hR64 : R1 < 18446744073709551616 := by omega
  have u1 := un_eq d1 hR64
  have iq1 := quo_nat (a := R1) (b := y1) hR64
  have ir1 := rem_eq (a := R1) (b := y1) hR64
  have d0 := Nat.div_add_mod (R1 * 4294967296 + un0) Y
  have hR0 := Nat.mod_lt (R1 * 4294967296 + un0) (show 0 < Y by omega)
  simp only [u1, iq1, ir1]
  have key1 := fun g R K st ex co fi => dig_rule (g := g) (R := R) K hyd' hy0 hy1.1 hy1.2 hR1 hn0 st ex co fi
  refine key1 _ _ ?_ ?_ ?_ ?_ ?_
  case refine_2 =>
    intro q r rec hq hr hc
    obtain ⟨w1, w2, w3⟩ := dig_w (q := q) (by omega) hr hn0 hy1.2 hy0
    have k1 : ¬ (4294967296 : Int) ≤ q := by omega
    have k2 : ¬ ((4294967296 * r + un0 : Nat) : Int) < ((q * y0 : Nat) : Int) := by omega
    simp only [w1, w2, k1, k2, Int.natCast_nonneg, bne_iff_ne, beq_iff_eq, ne_eq, decide_eq_true_eq, Bool.and_eq_true, Bool.or_eq_true, Bool.not_eq_true', decide_eq_false_iff_not, beq_eq_false_iff_ne, bne_eq_false_iff_eq, not_true_eq_false, not_false_eq_true, if_true, if_false, reduceIte, and_true, true_and, and_false, false_and, or_false, false_or, or_true, true_or, List.getD_cons_zero, List.getD_cons_succ, List.length_cons, List.length_nil, List.cons_append, List.nil_append, Nat.reduceAdd, Nat.reduceEqDiff, reduceCtorEq, Bool.not_true, Bool.not_false, Bool.true_and, Bool.and_true, Bool.false_and, Bool.and_false, Bool.or_true, Bool.true_or, Bool.or_false, Bool.false_or, Bool.false_eq_true, Bool.true_eq_false, Sc.int_i, Sc.bool_b, Sc.list_l, Sc.str_s, Int.reduceEq, Int.reduceLT, Int.reduceLE, Int.reduceNe, decide_true, decide_false, decide_not, eq_self, Classical.not_not, List.getElem?_cons_zero, List.getElem?_cons_succ, beq_self_eq_true, bne_self_eq_false]
    rfl
  case refine_3 =>
    intro q r rec hq hr hc he
    obtain ⟨w1, w2, w3⟩ := dig_w (q := q + 1) (by omega) hr hn0 hy1.2 hy0
    have w4 : IntKind.u64.wrap (((q + 1 : Nat) : Int) - 1) = q := by rw [wrU (by omega) (by omega)]; omega
    have k3 : (4294967296 : Int) ≤ ((r + y1 : Nat) : Int) := by omega
    by_cases hb : 4294967296 ≤ q + 1
    · have k1 : (4294967296 : Int) ≤ ((q + 1 : Nat) : Int) := by omega
      simp only [w3, w4, k1, k3, Int.natCast_nonneg, bne_iff_ne, beq_iff_eq, ne_eq, decide_eq_true_eq, Bool.and_eq_true, Bool.or_eq_true, Bool.not_eq_true', decide_eq_false_iff_not, beq_eq_false_iff_ne, bne_eq_false_iff_eq, not_true_eq_false, not_false_eq_true, if_true, if_false, reduceIte, and_true, true_and, and_false, false_and, or_false, false_or, or_true, true_or, List.getD_cons_zero, List.getD_cons_succ, List.length_cons, List.length_nil, List.cons_append, List.nil_append, Nat.reduceAdd, Nat.reduceEqDiff, reduceCtorEq, Bool.not_true, Bool.not_false, Bool.true_and, Bool.and_true, Bool.false_and, Bool.and_false, Bool.or_true, Bool.true_or, Bool.or_false, Bool.false_or, Bool.false_eq_true, Bool.true_eq_false, Sc.int_i, Sc.bool_b, Sc.list_l, Sc.str_s, Int.reduceEq, Int.reduceLT, Int.reduceLE, Int.reduceNe, decide_true, decide_false, decide_not, eq_self, Classical.not_not, List.getElem?_cons_zero, List.getElem?_cons_succ, beq_self_eq_true, bne_self_eq_false]
    · have k1 : ¬ (4294967296 : Int) ≤ ((q + 1 : Nat) : Int) := by omega
      have k2 : ((4294967296 * r + un0 : Nat) : Int) < (((q + 1) * y0 : Nat) : Int) := by omega
      simp only [w1, w2, w3, w4, k1, k2, k3, Int.natCast_nonneg, bne_iff_ne, beq_iff_eq, ne_eq, decide_eq_true_eq, Bool.and_eq_true, Bool.or_eq_true, Bool.not_eq_true', decide_eq_false_iff_not, beq_eq_false_iff_ne, bne_eq_false_iff_eq, not_true_eq_false, not_false_eq_true, if_true, if_false, reduceIte, and_true, true_and, and_false, false_and, or_false, false_or, or_true, true_or, List.getD_cons_zero, List.getD_cons_succ, List.length_cons, List.length_nil, List.cons_append, List.nil_append, Nat.reduceAdd, Nat.reduceEqDiff, reduceCtorEq, Bool.not_true, Bool.not_false, Bool.true_and, Bool.and_true, Bool.false_and, Bool.and_false, Bool.or_true, Bool.true_or, Bool.or_false, Bool.false_or, Bool.false_eq_true, Bool.true_eq_false, Sc.int_i, Sc.bool_b, Sc.list_l, Sc.str_s, Int.reduceEq, Int.reduceLT, Int.reduceLE, Int.reduceNe, decide_true, decide_false, decide_not, eq_self, Classical.not_not, List.getElem?_cons_zero, List.getElem?_cons_succ, beq_self_eq_true, bne_self_eq_false]
  case refine_4 =>
    intro q r rec hq hr hc he
    obtain ⟨w1, w2, w3⟩ := dig_w (q := q + 1) (by omega) hr hn0 hy1.2 hy0
    have w4 : IntKind.u64.wrap (((q + 1 : Nat) : Int) - 1) = q := by rw [wrU (by omega) (by omega)]; omega
    have k3 : ¬ (4294967296 : Int) ≤ ((r + y1 : Nat) : Int) := by omega
    by_cases hb : 4294967296 ≤ q + 1
    · have k1 : (4294967296 : Int) ≤ ((q + 1 : Nat) : Int) := by omega
      simp only [w3, w4, k1, k3, Int.natCast_nonneg, bne_iff_ne, beq_iff_eq, ne_eq, decide_eq_true_eq, Bool.and_eq_true, Bool.or_eq_true, Bool.not_eq_true', decide_eq_false_iff_not, beq_eq_false_iff_ne, bne_eq_false_iff_eq, not_true_eq_false, not_false_eq_true, if_true, if_false, reduceIte, and_true, true_and, and_false, false_and, or_false, false_or, or_true, true_or, List.getD_cons_zero, List.getD_cons_succ, List.length_cons, List.length_nil, List.cons_append, List.nil_append, Nat.reduceAdd, Nat.reduceEqDiff, reduceCtorEq, Bool.not_true, Bool.not_false, Bool.true_and, Bool.and_true, Bool.false_and, Bool.and_false, Bool.or_true, Bool.true_or, Bool.or_false, Bool.false_or, Bool.false_eq_true, Bool.true_eq_false, Sc.int_i, Sc.bool_b, Sc.list_l, Sc.str_s, Int.reduceEq, Int.reduceLT, Int.reduceLE, Int.reduceNe, decide_true, decide_false, decide_not, eq_self, Classical.not_not, List.getElem?_cons_zero, List.getElem?_cons_succ, beq_self_eq_true, bne_self_eq_false]
    · have k1 : ¬ (4294967296 : Int) ≤ ((q + 1 : Nat) : Int) := by omega
      have k2 : ((4294967296 * r + un0 : Nat) : Int) < (((q + 1) * y0 : Nat) : Int) := by omega
      simp only [w1, w2, w3, w4, k1, k2, k3, Int.natCast_nonneg, bne_iff_ne, beq_iff_eq, ne_eq, decide_eq_true_eq, Bool.and_eq_true, Bool.or_eq_true, Bool.not_eq_true', decide_eq_false_iff_not, beq_eq_false_iff_ne, bne_eq_false_iff_eq, not_true_eq_false, not_false_eq_true, if_true, if_false, reduceIte, and_true, true_and, and_false, false_and, or_false, false_or, or_true, true_or, List.getD_cons_zero, List.getD_cons_succ, List.length_cons, List.length_nil, List.cons_append, List.nil_append, Nat.reduceAdd, Nat.reduceEqDiff, reduceCtorEq, Bool.not_true, Bool.not_false, Bool.true_and, Bool.and_true, Bool.false_and, Bool.and_false, Bool.or_true, Bool.true_or, Bool.or_false, Bool.false_or, Bool.false_eq_true, Bool.true_eq_false, Sc.int_i, Sc.bool_b, Sc.list_l, Sc.str_s, Int.reduceEq, Int.reduceLT, Int.reduceLE, Int.reduceNe, decide_true, decide_false, decide_not, eq_self, Classical.not_not, List.getElem?_cons_zero, List.getElem?_cons_succ, beq_self_eq_true, bne_self_eq_false]
  have u0 := un_eq d0 (Nat.lt_trans hR0 n2)
  obtain ⟨j1, j2⟩ := dj
  have hq64 : (hi * 18446744073709551616 + lo) / y < 18446744073709551616 := by
    rw [Nat.div_lt_iff_lt_mul (by omega)]
    have := Nat.mul_le_mul_left 18446744073709551616 (show hi + 1 ≤ y by omega)
    omega
  have q0 : IntKind.u64.wrap (IntKind.u64.wrap ((Q1 : Int) * 4294967296) + (((R1 * 4294967296 + un0) / Y : Nat) : Int)) = (((hi * 18446744073709551616 + lo) / y : Nat) : Int) := by
    rw [← j1] at hq64 ⊢
    exact two_w hq64
  simp only [u0, q0, shr_s, j2]
end Go.Proofs.YtkjgcalkkfgmlaaDoor
