/-
  The worked examples of chapter 02 hold.
-/
import Derived.Test.YtkjgcalkkfgmlaaDoorM02
namespace Go.Proofs.YtkjgcalkkfgmlaaDoor
set_option linter.unusedSimpArgs false
theorem of_F (n d : Int) : k_simulatorlaw02_of.F [.i n, .i d] = some [.i n, .i d] := by
  simp only [k_simulatorlaw02_of_F, tk_simulatorlaw02_of, Go.Proofs.YtkjgcalkkfgmlaaDoor.T.den, Ex.ev, U1.ev, U2.ev, U3.ev, gam, List.map, List.getD_cons_zero, List.getD_cons_succ, List.length, List.cons_append, List.nil_append, if_true, Sc.int_i, Sc.bool_b, Sc.list_l, Sc.str_s, Nat.reduceEqDiff, if_false, List.getElem?_cons_zero, List.getElem?_cons_succ]
theorem awake02 : k_simulatorlaw02_awake.F [] = some [.b true] := by
  have h1 : k_frac_Of.F [.i 6, .i (-4)] = some [.i (-3), .i 2, .b true] := by kernel_rfl
  have h2 : k_frac_Add.F [.i 1, .i 2, .i 1, .i 3] = some [.i 5, .i 6, .b true] := by kernel_rfl
  have h3 : k_frac_Div.F [.i 1, .i 2, .i 1, .i 3] = some [.i 3, .i 2, .b true] := by kernel_rfl
  have h4 : k_frac_Sum.F [.l [.l [.i 1, .i 3], .l [.i 1, .i 3], .l [.i 1, .i 3]]] = some [.i 1, .i 1, .b true] := by kernel_rfl
  have h5 : k_frac_Floor.F [.i (-1), .i 3, .i 10] = some [.i (-4), .b true] := by kernel_rfl
  have h6 : k_frac_Valid.F [.i (-3), .i 2] = some [.b true] := by kernel_rfl
  have h7 : k_frac_Valid.F [.i 2, .i 4] = some [.b false] := by kernel_rfl
  have h8 : k_frac_Cmp.F [.i 1, .i 3, .i 1, .i 2] = some [.i (-1)] := by kernel_rfl
  have h9 : k_frac_Text.F [.i (-3), .i 2] = some [bS [45, 51, 47, 50]] := by
    rw [fText_F (-3) 2 ⟨by omega, by omega⟩ ⟨by omega, by omega⟩]
    have o : okF (-3) 2 = true := by decide
    have e1 : Lib.itoa (-3) = [45, 51] := by
      unfold Lib.itoa; rw [if_pos (by omega), show (-3 : Int).natAbs = 3 from rfl, Lib.decDigits_one (by omega)]; rfl
    have e2 : Lib.itoa 2 = [50] := by
      unfold Lib.itoa; rw [if_neg (by omega), show (2 : Int).toNat = 2 from rfl, Lib.decDigits_one (by omega)]; rfl
    unfold textQ
    rw [o, if_pos rfl, if_neg (by omega), e1, e2]; rfl
  have h10 : (ByteArray.mk [45, 51, 47, 50].toArray).toList == (ByteArray.mk (List.map UInt8.ofNat [45, 51, 47, 50]).toArray).toList := by
    have : (ByteArray.mk (List.map UInt8.ofNat [45, 51, 47, 50]).toArray) = ByteArray.mk [45, 51, 47, 50].toArray := rfl
    rw [this]; exact beq_self_eq_true _
  unfold bS at h9
  simp only [List.map] at h10
  simp only [k_simulatorlaw02_awake_F, tk_simulatorlaw02_awake, k_frac_Of_f, k_simulatorlaw02_of_f, k_frac_Add_f, k_frac_Div_f, k_frac_Sum_f, k_frac_Floor_f, k_frac_Text_f, k_frac_Valid_f, k_frac_Cmp_f, of_F, h1, h2, h3, h4, h5, h6, h7, h8, h9, h10, Go.Proofs.YtkjgcalkkfgmlaaDoor.T.den, Ex.ev, U1.ev, U2.ev, U3.ev, gam, List.map, List.getD_cons_zero, List.getD_cons_succ, List.length, List.cons_append, List.nil_append, if_true, Sc.int_i, Sc.bool_b, Sc.list_l, Sc.str_s, Nat.reduceEqDiff, if_false, List.getElem?_cons_zero, List.getElem?_cons_succ]
  simp only [of_F, h1, h2, h3, h4, h5, h6, h7, h8, h9, h10, Int.natCast_nonneg, bne_iff_ne, beq_iff_eq, ne_eq, decide_eq_true_eq, Bool.and_eq_true, Bool.or_eq_true, Bool.not_eq_true', decide_eq_false_iff_not, beq_eq_false_iff_ne, bne_eq_false_iff_eq, not_true_eq_false, not_false_eq_true, if_true, if_false, reduceIte, and_true, true_and, and_false, false_and, or_false, false_or, or_true, true_or, List.getD_cons_zero, List.getD_cons_succ, List.length_cons, List.length_nil, List.cons_append, List.nil_append, Nat.reduceAdd, Nat.reduceEqDiff, reduceCtorEq, Bool.not_true, Bool.not_false, Bool.true_and, Bool.and_true, Bool.false_and, Bool.and_false, Bool.or_true, Bool.true_or, Bool.or_false, Bool.false_or, Bool.false_eq_true, Bool.true_eq_false, Sc.int_i, Sc.bool_b, Sc.list_l, Sc.str_s, Int.reduceEq, Int.reduceLT, Int.reduceLE, Int.reduceNe, decide_true, decide_false, decide_not, eq_self, Classical.not_not, List.getElem?_cons_zero, List.getElem?_cons_succ, beq_self_eq_true, bne_self_eq_false]
end Go.Proofs.YtkjgcalkkfgmlaaDoor
