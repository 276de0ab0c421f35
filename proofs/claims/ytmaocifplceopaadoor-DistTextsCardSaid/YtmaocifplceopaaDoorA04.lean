/-
  The worked examples of chapter 04 hold. 
-/
import Derived.Test.YtmaocifplceopaaDoorT04e
namespace Go.Proofs.YtmaocifplceopaaDoor
set_option linter.unusedSimpArgs false
set_option linter.unusedVariables false

theorem seq_bytes (a b : List UInt8) : ((ByteArray.mk a.toArray).toList == (ByteArray.mk b.toArray).toList) = decide (a = b) := by
  rw [ByteArray.toList_mk, ByteArray.toList_mk]
  rw [Bool.eq_iff_iff, beq_iff_eq, decide_eq_true_eq]
theorem awake04 : k_simulatorlaw04_awake.F [] = some [.b true] := by
  have h1 : k_dist_At.F [.i 2, .i 1, .i 6, .i 0, .l [], .l [], .i 0] = some [.i 1, .b true] := by kernel_rfl
  have h2 : k_dist_At.F [.i 2, .i 1, .i 6, .i 0, .l [], .l [], .i 9223372036854775808] = some [.i 4, .b true] := by kernel_rfl
  have h3 : k_dist_At.F [.i 2, .i 1, .i 6, .i 0, .l [], .l [], .i 18446744073709551615] = some [.i 6, .b true] := by kernel_rfl
  have h4 : k_dist_At.F [.i 3, .i 0, .i 0, .i 0, .l [.i 9, .i 2], .l [.i 1, .i 3], .i 9223372036854775808] = some [.i 2, .b true] := by kernel_rfl
  have h5 : k_dist_At.F [.i 3, .i 0, .i 0, .i 0, .l [.i 9, .i 2], .l [.i 1, .i 3], .i 18446744073709551615] = some [.i 9, .b true] := by kernel_rfl
  have h6 : k_dist_At.F [.i 5, .i 2, .i 5, .i 0, .l [], .l [], .i 0] = some [.i 1, .b true] := by kernel_rfl
  have h7 : k_dist_At.F [.i 5, .i 2, .i 5, .i 0, .l [], .l [], .i 9223372036854775809] = some [.i 2, .b true] := by kernel_rfl
  have h8 : k_dist_At.F [.i 5, .i 2, .i 5, .i 0, .l [], .l [], .i 18446744073709551615] = some [.i 5, .b true] := by kernel_rfl
  have h9 : k_dist_Mean.F [.i 3, .i 0, .i 0, .i 0, .l [.i 9, .i 2], .l [.i 1, .i 3]] = some [.i 15, .i 4, .b true] := by kernel_rfl
  have h10 : k_dist_Text.F [.i 3, .i 0, .i 0, .i 0, .l [.i 9, .i 2], .l [.i 1, .i 3]] = some [bS [116, 97, 98, 108, 101, 32, 57, 58, 49, 32, 50, 58, 51]] := by
    have t := ftext_F 3 0 0 0 [9, 2] [1, 3] (by decide) (by decide)
    have e : textD 3 0 0 0 [9, 2] [1, 3] = [116, 97, 98, 108, 101, 32, 57, 58, 49, 32, 50, 58, 51] := by
      unfold textD
      have c : chkD 3 0 0 0 [9, 2] [1, 3] = 0 := by decide
      have d : ∀ u : Nat, u < 10 → Lib.itoa (u : Int) = [UInt8.ofNat (48 + u)] := fun u hu => by
        rw [itoa_nat _ (by omega), Int.toNat_natCast, Lib.decDigits_one hu]
      rw [if_neg (fun h => h c), if_neg (by decide), if_neg (by decide), if_neg (by decide), if_neg (by decide)]
      have d9 : Lib.itoa 9 = [57] := d 9 (by omega)
      have d1 : Lib.itoa 1 = [49] := d 1 (by omega)
      have d2 : Lib.itoa 2 = [50] := d 2 (by omega)
      have d3 : Lib.itoa 3 = [51] := d 3 (by omega)
      simp [tabL, tabP, d9, d1, d2, d3]
    rw [e] at t
    exact t
  have h11 : k_dist_Check.F [.i 2, .i 3, .i 2, .i 0, .l [], .l []] = some [.i 2] := by kernel_rfl
  have h12 : k_dist_Check.F [.i 1, .i 0, .i 1, .i 0, .l [], .l []] = some [.i 1] := by kernel_rfl
  have h13 : k_dist_Least.F [.i 2, .i 1, .i 6, .i 0, .l [], .l []] = some [.i 1] := by kernel_rfl
  have h14 : k_dist_Most.F [.i 2, .i 1, .i 6, .i 0, .l [], .l []] = some [.i 6] := by kernel_rfl
  have h15 : k_dist_Same.F [.i 2, .i 1, .i 6, .i 0, .l [], .l [], .i 2, .i 1, .i 6, .i 0, .l [], .l []] = some [.b true] := by kernel_rfl
  have s := seq_bytes [116, 97, 98, 108, 101, 32, 57, 58, 49, 32, 50, 58, 51] [116, 97, 98, 108, 101, 32, 57, 58, 49, 32, 50, 58, 51]
  rw [decide_eq_true rfl] at s
  have s' : ((ByteArray.mk #[116, 97, 98, 108, 101, 32, 57, 58, 49, 32, 50, 58, 51]).toList == (ByteArray.mk #[UInt8.ofNat 116, UInt8.ofNat 97, UInt8.ofNat 98, UInt8.ofNat 108, UInt8.ofNat 101, UInt8.ofNat 32, UInt8.ofNat 57, UInt8.ofNat 58, UInt8.ofNat 49, UInt8.ofNat 32, UInt8.ofNat 50, UInt8.ofNat 58, UInt8.ofNat 51]).toList) = true := s
  unfold bS at h10
  simp only [k_simulatorlaw04_awake_F, tk_simulatorlaw04_awake, k_dist_At_f, k_dist_Mean_f, k_dist_Text_f, k_dist_Check_f, k_dist_Least_f, k_dist_Most_f, k_dist_Same_f, h1, h2, h3, h4, h5, h6, h7, h8, h9, h10, h11, h12, h13, h14, h15, Go.Proofs.YtmaocifplceopaaDoor.T.den, Ex.ev, U1.ev, U2.ev, U3.ev, gam, List.map, List.getD_cons_zero, List.getD_cons_succ, List.length, List.cons_append, List.nil_append, if_true, int_n, bool_n, list_n, Sc.str_s, Nat.reduceEqDiff, if_false, List.getElem?_cons_zero, List.getElem?_cons_succ]
  simp only [s', Int.natCast_nonneg, bne_iff_ne, beq_iff_eq, ne_eq, decide_eq_true_eq, Bool.and_eq_true, Bool.or_eq_true, Bool.not_eq_true', decide_eq_false_iff_not, beq_eq_false_iff_ne, bne_eq_false_iff_eq, not_true_eq_false, not_false_eq_true, if_true, if_false, reduceIte, and_true, true_and, and_false, false_and, or_false, false_or, or_true, true_or, List.getD_cons_zero, List.getD_cons_succ, List.length_cons, List.length_nil, List.cons_append, List.nil_append, Nat.reduceAdd, Nat.reduceEqDiff, reduceCtorEq, Bool.not_true, Bool.not_false, Bool.true_and, Bool.and_true, Bool.false_and, Bool.and_false, Bool.or_true, Bool.true_or, Bool.or_false, Bool.false_or, Bool.false_eq_true, Bool.true_eq_false, int_n, bool_n, list_n, Sc.str_s, Int.reduceEq, Int.reduceLT, Int.reduceLE, Int.reduceNe, decide_true, decide_false, decide_not, eq_self, Classical.not_not, List.getElem?_cons_zero, List.getElem?_cons_succ, beq_self_eq_true, bne_self_eq_false]
end Go.Proofs.YtmaocifplceopaaDoor
