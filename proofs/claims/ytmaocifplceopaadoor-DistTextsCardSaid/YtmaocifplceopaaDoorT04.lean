/-
  Texts: plain numbers. 
-/
import Derived.Test.YtmaocifplceopaaDoorM04c
import Derived.Lib.ItoaLen
import Derived.Laws.Strings
namespace Go.Proofs.YtmaocifplceopaaDoor
set_option linter.unusedSimpArgs false
set_option linter.unusedVariables false

def bS (l : List UInt8) : Sc := .s ⟨l.toArray⟩
theorem cat_mk (a b : List UInt8) : (ByteArray.mk a.toArray) ++ (ByteArray.mk b.toArray) = ByteArray.mk (a ++ b).toArray := by
  apply ByteArray.ext
  rw [ByteArray.data_append]
  simp
theorem size_mk (a : List UInt8) : (ByteArray.mk a.toArray).size = a.length := by simp [ByteArray.size]
theorem long_ok {n : Nat} (h : n ≤ 1000000) : ((n : Nat) : Int) ≤ 9223372036854775807 := by omega
theorem numText_F (n : Int) (h0 : 0 ≤ n) (h1 : n ≤ 1000000000) : k_num_Text.F [.i n] = some [bS (Lib.itoa n)] := by
  have e : itoaF [.i n] = some [bS (Lib.itoa n)] := by
    show (if -9223372036854775808 ≤ n ∧ n ≤ 9223372036854775807 then some [bS (Lib.itoa n)] else none) = _
    rw [if_pos ⟨by omega, by omega⟩]
  simp only [k_num_Text_F, tk_num_Text, k_strconv_Itoa_f, k_strconv_Itoa_F, e, Go.Proofs.YtmaocifplceopaaDoor.T.den, Ex.ev, U1.ev, U2.ev, U3.ev, gam, List.map, List.getD_cons_zero, List.getD_cons_succ, List.length, List.cons_append, List.nil_append, if_true, int_n, bool_n, list_n, Sc.str_s, Nat.reduceEqDiff, if_false, List.getElem?_cons_zero, List.getElem?_cons_succ]
theorem itoa_nat (n : Int) (h0 : 0 ≤ n) : Lib.itoa n = Lib.decDigits n.toNat := by unfold Lib.itoa; rw [if_neg (by omega)]
theorem itoa_len (n : Int) (h0 : 0 ≤ n) (h1 : n ≤ 1000000000) : (Lib.itoa n).length ≤ 20 := by
  rw [itoa_nat n h0, Lib.decDigits_length]; exact Lib.nDigits_le20 _ (by omega)
theorem dec_len (u : Nat) (h : u < 18446744073709551616) : (Lib.decDigits u).length ≤ 20 := by rw [Lib.decDigits_length]; exact Lib.nDigits_le20 u h
theorem ten_ssub (u : Nat) (h : u < 10) : (ByteArray.mk (List.map UInt8.ofNat [48, 49, 50, 51, 52, 53, 54, 55, 56, 57]).toArray).extract u (u + 1) = ByteArray.mk [UInt8.ofNat (48 + u)].toArray := by
  have : u = 0 ∨ u = 1 ∨ u = 2 ∨ u = 3 ∨ u = 4 ∨ u = 5 ∨ u = 6 ∨ u = 7 ∨ u = 8 ∨ u = 9 := by omega
  rcases this with rfl | rfl | rfl | rfl | rfl | rfl | rfl | rfl | rfl | rfl <;> decide
theorem rtext_rec : ∀ (m u : Nat), u ≤ 1000000000 → Lib.nDigits u ≤ m + 1 → (k_simulatorref01_Text_rec (m + 1)).F [.i (u : Int)] = some [bS (Lib.decDigits u)]
  | m, u, h, hm => by
    rw [k_simulatorref01_Text_rec_F]
    simp only [tk_simulatorref01_Text, Go.Proofs.YtmaocifplceopaaDoor.T.den, Ex.ev, U1.ev, U2.ev, U3.ev, gam, List.map, k_simulatorref01_Text_rec_f]
    have h0 : (0 : Int) ≤ u := by omega
    by_cases h10 : u < 10
    · have h10' : (u : Int) < 10 := by omega
      have w : IntKind.i64.wrap ((u : Int) + 1) = ((u + 1 : Nat) : Int) := by rw [wrJ (by omega) (by omega)]; omega
      have c1 : (u : Int) ≤ ((u + 1 : Nat) : Int) := by omega
      have c2 : ((u + 1 : Nat) : Int) ≤ (((ByteArray.mk (List.map UInt8.ofNat [48, 49, 50, 51, 52, 53, 54, 55, 56, 57]).toArray).size : Nat) : Int) := by
        have : (ByteArray.mk (List.map UInt8.ofNat [48, 49, 50, 51, 52, 53, 54, 55, 56, 57]).toArray).size = 10 := by decide
        omega
      have c3 := ten_ssub u h10
      simp only [List.map] at c2 c3
      rw [Lib.decDigits_one h10]
      simp only [h0, h10', w, c1, c2, Int.toNat_natCast, c3, Int.natCast_nonneg, bne_iff_ne, beq_iff_eq, ne_eq, decide_eq_true_eq, Bool.and_eq_true, Bool.or_eq_true, Bool.not_eq_true', decide_eq_false_iff_not, beq_eq_false_iff_ne, bne_eq_false_iff_eq, not_true_eq_false, not_false_eq_true, if_true, if_false, reduceIte, and_true, true_and, and_false, false_and, or_false, false_or, or_true, true_or, List.getD_cons_zero, List.getD_cons_succ, List.length_cons, List.length_nil, List.cons_append, List.nil_append, Nat.reduceAdd, Nat.reduceEqDiff, reduceCtorEq, Bool.not_true, Bool.not_false, Bool.true_and, Bool.and_true, Bool.false_and, Bool.and_false, Bool.or_true, Bool.true_or, Bool.or_false, Bool.false_or, Bool.false_eq_true, Bool.true_eq_false, int_n, bool_n, list_n, Sc.str_s, Int.reduceEq, Int.reduceLT, Int.reduceLE, Int.reduceNe, decide_true, decide_false, decide_not, eq_self, Classical.not_not, List.getElem?_cons_zero, List.getElem?_cons_succ, beq_self_eq_true, bne_self_eq_false]
      rfl
    · have h10' : ¬ (u : Int) < 10 := by omega
      have h0' : (0 : Int) < u := by omega
      obtain ⟨m, rfl⟩ : ∃ k, m = k + 1 := ⟨m - 1, by
        have h1 := Lib.nDigits_big h10
        have h2 := Lib.nDigits_pos (u / 10)
        omega⟩
      have r1 := rtext_rec m (u / 10) (by omega) (by have := Lib.nDigits_big h10; omega)
      have r2 := rtext_rec m (u % 10) (by omega) (by rw [Lib.nDigits_small (by omega)]; omega)
      have e1 : IntKind.i64.wrap (Int.tdiv (u : Int) 10) = ((u / 10 : Nat) : Int) := by
        have e : Int.tdiv (u : Int) 10 = ((u / 10 : Nat) : Int) := rfl
        rw [e, wrJ (by omega) (by omega)]
      have e2 : Int.tmod (u : Int) 10 = ((u % 10 : Nat) : Int) := rfl
      have ed : Lib.decDigits u = Lib.decDigits (u / 10) ++ Lib.decDigits (u % 10) := by
        rw [Lib.decDigits, dif_neg h10, Lib.decDigits_one (show u % 10 < 10 by omega)]
      have l1 := dec_len (u / 10) (by omega)
      have l2 := dec_len (u % 10) (by omega)
      unfold bS at r1 r2 ⊢
      have s1 : (((Lib.decDigits (u / 10)).length + (Lib.decDigits (u % 10)).length : Nat) : Int) ≤ 9223372036854775807 := long_ok (by omega)
      simp only [h0, h0', h10', e1, e2, r1, r2, cat_mk, size_mk, List.length_append, s1, Int.natCast_nonneg, bne_iff_ne, beq_iff_eq, ne_eq, decide_eq_true_eq, Bool.and_eq_true, Bool.or_eq_true, Bool.not_eq_true', decide_eq_false_iff_not, beq_eq_false_iff_ne, bne_eq_false_iff_eq, not_true_eq_false, not_false_eq_true, if_true, if_false, reduceIte, and_true, true_and, and_false, false_and, or_false, false_or, or_true, true_or, List.getD_cons_zero, List.getD_cons_succ, List.length_cons, List.length_nil, List.cons_append, List.nil_append, Nat.reduceAdd, Nat.reduceEqDiff, reduceCtorEq, Bool.not_true, Bool.not_false, Bool.true_and, Bool.and_true, Bool.false_and, Bool.and_false, Bool.or_true, Bool.true_or, Bool.or_false, Bool.false_or, Bool.false_eq_true, Bool.true_eq_false, int_n, bool_n, list_n, Sc.str_s, Int.reduceEq, Int.reduceLT, Int.reduceLE, Int.reduceNe, decide_true, decide_false, decide_not, eq_self, Classical.not_not, List.getElem?_cons_zero, List.getElem?_cons_succ, beq_self_eq_true, bne_self_eq_false]
      rw [ed]
theorem rnumText_F (n : Int) (h0 : 0 ≤ n) (h1 : n ≤ 1000000000) : k_simulatorref01_Text.F [.i n] = some [bS (Lib.itoa n)] := by
  rw [k_simulatorref01_Text_F, itoa_nat n h0]
  obtain ⟨r, hr⟩ : ∃ r, rounds = r + 20 + 1 := ⟨rounds - 21, by unfold rounds; omega⟩
  rw [hr]
  have := rtext_rec (r + 20) n.toNat (by omega) (by have := Lib.nDigits_le20 n.toNat (by omega); omega)
  rw [show ((n.toNat : Nat) : Int) = n by omega] at this
  exact this
end Go.Proofs.YtmaocifplceopaaDoor
