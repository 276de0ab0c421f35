/-
  Chapter 02: what Text, Floor and their references return.
-/
import Derived.Test.YtkjgcalkkfgmlaaDoorFrS
import Derived.Test.YtkjgcalkkfgmlaaDoorRfM
import Derived.Lib.ItoaLen
import Derived.Laws.Strings
namespace Go.Proofs.YtkjgcalkkfgmlaaDoor
set_option linter.unusedSimpArgs false

def bS (l : List UInt8) : Sc := .s ⟨l.toArray⟩
theorem cat_mk (a b : List UInt8) : (ByteArray.mk a.toArray) ++ (ByteArray.mk b.toArray) = ByteArray.mk (a ++ b).toArray := by
  apply ByteArray.ext
  rw [ByteArray.data_append]
  simp
theorem size_mk (a : List UInt8) : (ByteArray.mk a.toArray).size = a.length := by simp [ByteArray.size]
theorem numText_F (n : Int) (h : I64 n) : k_num_Text.F [.i n] = some [bS (Lib.itoa n)] := by
  have e : itoaF [.i n] = some [bS (Lib.itoa n)] := by
    show (if -9223372036854775808 ≤ n ∧ n ≤ 9223372036854775807 then some [bS (Lib.itoa n)] else none) = _
    rw [if_pos ⟨h.1, by have := h.2; omega⟩]
  simp only [k_num_Text_F, tk_num_Text, k_strconv_Itoa_f, k_strconv_Itoa_F, e, Go.Proofs.YtkjgcalkkfgmlaaDoor.T.den, Ex.ev, U1.ev, U2.ev, U3.ev, gam, List.map, List.getD_cons_zero, List.getD_cons_succ, List.length, List.cons_append, List.nil_append, if_true, Sc.int_i, Sc.bool_b, Sc.list_l, Sc.str_s, Nat.reduceEqDiff, if_false, List.getElem?_cons_zero, List.getElem?_cons_succ]
theorem itoa_len (n : Int) (h : I64 n) : (Lib.itoa n).length ≤ 21 := Lib.itoa_length_le n h.1 (by have := h.2; omega)
theorem dec_len (u : Nat) (h : u < 18446744073709551616) : (Lib.decDigits u).length ≤ 20 := by rw [Lib.decDigits_length]; exact Lib.nDigits_le20 u h
/-- A fraction's text. -/
def textQ (n d : Int) : List UInt8 := if okF n d = true then Lib.itoa n ++ (if d = 1 then [] else 47 :: Lib.itoa d) else []
theorem u47 : UInt8.ofNat 47 = 47 := rfl
theorem u45 : UInt8.ofNat 45 = 45 := rfl
theorem long_ok {n : Nat} (h : n ≤ 1000) : ((n : Nat) : Int) ≤ 9223372036854775807 := by omega
theorem need_s {a : ByteArray} {l : List UInt8} {M : Int} {X : Option (List Sc)} (h : a = ByteArray.mk l.toArray) (hl : (l.length : Int) ≤ M) :
    (if (Sc.b (decide ((Sc.i ((Sc.s a).str.size : Nat)).int ≤ (Sc.i M).int))).bool = true then X else none) = X := by
  subst h
  refine if_pos (decide_eq_true ?_)
  show (((ByteArray.mk l.toArray).size : Nat) : Int) ≤ M
  rw [size_mk]; exact hl
theorem fText_F (n d : Int) (hn : I64 n) (hd : I64 d) : k_frac_Text.F [.i n, .i d] = some [bS (textQ n d)] := by
  have t1 := numText_F n hn
  have t2 := numText_F d hd
  have l1 := itoa_len n hn
  have l2 := itoa_len d hd
  unfold bS at t1 t2 ⊢
  rw [k_frac_Text_F]
  unfold tk_frac_Text
  generalize hM : (9223372036854775807 : Int) = M
  simp only [k_frac_Valid_f, k_num_Text_f, valid_F n d hn hd, t1, t2, Go.Proofs.YtkjgcalkkfgmlaaDoor.T.den, Ex.ev, U1.ev, U2.ev, U3.ev, gam, List.map, List.getD_cons_zero, List.getD_cons_succ, List.length, List.cons_append, List.nil_append, if_true, Nat.reduceEqDiff, if_false]
  unfold textQ
  cases h : okF n d
  · exact if_pos rfl
  · refine (if_neg (by decide)).trans ?_
    rw [if_pos rfl]
    have a1 : (ByteArray.mk #[UInt8.ofNat 47] ++ ByteArray.mk (Lib.itoa d).toArray) = ByteArray.mk (47 :: Lib.itoa d).toArray := cat_mk [47] _
    by_cases h1 : d = 1
    · refine (if_neg (show ¬ (d != 1) = true by simp [h1])).trans ?_
      rw [if_pos h1, List.append_nil]
    · refine (if_pos (show (d != 1) = true by simp [h1])).trans ?_
      rw [if_neg h1]
      refine (need_s (l := 47 :: Lib.itoa d) a1 (by rw [← hM]; exact long_ok (by simp only [List.length_cons]; omega))).trans ?_
      refine (need_s (l := Lib.itoa n ++ 47 :: Lib.itoa d) ((congrArg (ByteArray.mk (Lib.itoa n).toArray ++ ·) a1).trans (cat_mk _ _)) (by rw [← hM]; exact long_ok (by simp only [List.length_append, List.length_cons]; omega))).trans ?_
      exact congrArg (fun z => some [Sc.s z]) ((congrArg (ByteArray.mk (Lib.itoa n).toArray ++ ·) a1).trans (cat_mk _ _))
theorem ten_ssub (u : Nat) (h : u < 10) : (ByteArray.mk (List.map UInt8.ofNat [48, 49, 50, 51, 52, 53, 54, 55, 56, 57]).toArray).extract u (u + 1) = ByteArray.mk [UInt8.ofNat (48 + u)].toArray := by
  have : u = 0 ∨ u = 1 ∨ u = 2 ∨ u = 3 ∨ u = 4 ∨ u = 5 ∨ u = 6 ∨ u = 7 ∨ u = 8 ∨ u = 9 := by omega
  rcases this with rfl | rfl | rfl | rfl | rfl | rfl | rfl | rfl | rfl | rfl <;> decide
theorem digits_rec : ∀ (m u : Nat), u < 18446744073709551616 → Lib.nDigits u ≤ m + 1 → (k_simulatorref02_Digits_rec (m + 1)).F [.i (u : Int)] = some [bS (Lib.decDigits u)]
  | m, u, h, hm => by
    rw [k_simulatorref02_Digits_rec_F]
    simp only [tk_simulatorref02_Digits, Go.Proofs.YtkjgcalkkfgmlaaDoor.T.den, Ex.ev, U1.ev, U2.ev, U3.ev, gam, List.map, k_simulatorref02_Digits_rec_f]
    by_cases h10 : u < 10
    · have h10' : (u : Int) < 10 := by omega
      have w : IntKind.u64.wrap ((u : Int) + 1) = ((u + 1 : Nat) : Int) := by rw [wrU (by omega) (by omega)]; omega
      have c1 : (u : Int) ≤ ((u + 1 : Nat) : Int) := by omega
      have c2 : ((u + 1 : Nat) : Int) ≤ (((ByteArray.mk (List.map UInt8.ofNat [48, 49, 50, 51, 52, 53, 54, 55, 56, 57]).toArray).size : Nat) : Int) := by
        have : (ByteArray.mk (List.map UInt8.ofNat [48, 49, 50, 51, 52, 53, 54, 55, 56, 57]).toArray).size = 10 := by decide
        omega
      have c3 := ten_ssub u h10
      simp only [List.map] at c2 c3
      rw [Lib.decDigits_one h10]
      simp only [h10', w, c1, c2, Int.toNat_natCast, c3, Int.natCast_nonneg, bne_iff_ne, beq_iff_eq, ne_eq, decide_eq_true_eq, Bool.and_eq_true, Bool.or_eq_true, Bool.not_eq_true', decide_eq_false_iff_not, beq_eq_false_iff_ne, bne_eq_false_iff_eq, not_true_eq_false, not_false_eq_true, if_true, if_false, reduceIte, and_true, true_and, and_false, false_and, or_false, false_or, or_true, true_or, List.getD_cons_zero, List.getD_cons_succ, List.length_cons, List.length_nil, List.cons_append, List.nil_append, Nat.reduceAdd, Nat.reduceEqDiff, reduceCtorEq, Bool.not_true, Bool.not_false, Bool.true_and, Bool.and_true, Bool.false_and, Bool.and_false, Bool.or_true, Bool.true_or, Bool.or_false, Bool.false_or, Bool.false_eq_true, Bool.true_eq_false, Sc.int_i, Sc.bool_b, Sc.list_l, Sc.str_s, Int.reduceEq, Int.reduceLT, Int.reduceLE, Int.reduceNe, decide_true, decide_false, decide_not, eq_self, Classical.not_not, List.getElem?_cons_zero, List.getElem?_cons_succ, beq_self_eq_true, bne_self_eq_false]
      rfl
    · have h10' : ¬ (u : Int) < 10 := by omega
      obtain ⟨m, rfl⟩ : ∃ k, m = k + 1 := ⟨m - 1, by
        have h1 := Lib.nDigits_big h10
        have h2 := Lib.nDigits_pos (u / 10)
        omega⟩
      have r1 := digits_rec m (u / 10) (by omega) (by have := Lib.nDigits_big h10; omega)
      have r2 := digits_rec m (u % 10) (by omega) (by rw [Lib.nDigits_small (by omega)]; omega)
      have e1 : IntKind.u64.wrap (Int.tdiv (u : Int) 10) = ((u / 10 : Nat) : Int) := by
        have e : Int.tdiv (u : Int) 10 = ((u / 10 : Nat) : Int) := rfl
        rw [e, wrU (by omega) (by omega)]
      have e2 : Int.tmod (u : Int) 10 = ((u % 10 : Nat) : Int) := rfl
      have ed : Lib.decDigits u = Lib.decDigits (u / 10) ++ Lib.decDigits (u % 10) := by
        rw [Lib.decDigits, dif_neg h10, Lib.decDigits_one (show u % 10 < 10 by omega)]
      have l1 := dec_len (u / 10) (by omega)
      have l2 := dec_len (u % 10) (by omega)
      unfold bS at r1 r2 ⊢
      have s1 : (((Lib.decDigits (u / 10)).length + (Lib.decDigits (u % 10)).length : Nat) : Int) ≤ 9223372036854775807 := long_ok (by omega)
      simp only [h10', e1, e2, r1, r2, cat_mk, size_mk, List.length_append, s1, Int.natCast_nonneg, bne_iff_ne, beq_iff_eq, ne_eq, decide_eq_true_eq, Bool.and_eq_true, Bool.or_eq_true, Bool.not_eq_true', decide_eq_false_iff_not, beq_eq_false_iff_ne, bne_eq_false_iff_eq, not_true_eq_false, not_false_eq_true, if_true, if_false, reduceIte, and_true, true_and, and_false, false_and, or_false, false_or, or_true, true_or, List.getD_cons_zero, List.getD_cons_succ, List.length_cons, List.length_nil, List.cons_append, List.nil_append, Nat.reduceAdd, Nat.reduceEqDiff, reduceCtorEq, Bool.not_true, Bool.not_false, Bool.true_and, Bool.and_true, Bool.false_and, Bool.and_false, Bool.or_true, Bool.true_or, Bool.or_false, Bool.false_or, Bool.false_eq_true, Bool.true_eq_false, Sc.int_i, Sc.bool_b, Sc.list_l, Sc.str_s, Int.reduceEq, Int.reduceLT, Int.reduceLE, Int.reduceNe, decide_true, decide_false, decide_not, eq_self, Classical.not_not, List.getElem?_cons_zero, List.getElem?_cons_succ, beq_self_eq_true, bne_self_eq_false]
      rw [ed]
theorem digits_F (u : Nat) (h : u < 18446744073709551616) : k_simulatorref02_Digits.F [.i (u : Int)] = some [bS (Lib.decDigits u)] := by
  rw [k_simulatorref02_Digits_F]
  obtain ⟨r, hr⟩ : ∃ r, rounds = r + 20 + 1 := ⟨rounds - 21, by unfold rounds; omega⟩
  rw [hr]
  exact digits_rec (r + 20) u h (by have := Lib.nDigits_le20 u h; omega)
theorem itoa_neg' (n : Int) (h : n < 0) : Lib.itoa n = 45 :: Lib.decDigits n.natAbs := by unfold Lib.itoa; rw [if_pos h]
theorem itoa_pos' (n : Int) (h : ¬ n < 0) : Lib.itoa n = Lib.decDigits n.natAbs := by
  unfold Lib.itoa; rw [if_neg h]; congr 1; omega
theorem rText_F (n d : Int) (hn : I64 n) (hd : I64 d) : k_simulatorref02_Text.F [.i n, .i d] = some [bS (textQ n d)] := by
  have hn2 := hn
  have hd2 := hd
  unfold I64 at hn2 hd2
  have z1 := refSize_F n hn
  have z2 := refSize_F d hd
  have t1 := digits_F n.natAbs (by omega)
  have t2 := digits_F d.natAbs (by omega)
  have l1 := dec_len n.natAbs (by omega)
  have l2 := dec_len d.natAbs (by omega)
  unfold bS at t1 t2 ⊢
  rw [k_simulatorref02_Text_F]
  unfold tk_simulatorref02_Text
  generalize hM : (9223372036854775807 : Int) = M
  simp only [k_simulatorref02_Valid_f, k_simulatorref02_Size_f, k_simulatorref02_Digits_f, rValid_F n d hn hd, z1, z2, t1, t2, Go.Proofs.YtkjgcalkkfgmlaaDoor.T.den, Ex.ev, U1.ev, U2.ev, U3.ev, gam, List.map, List.getD_cons_zero, List.getD_cons_succ, List.length, List.cons_append, List.nil_append, if_true, Nat.reduceEqDiff, if_false]
  unfold textQ
  have b1 : ByteArray.mk #[UInt8.ofNat 45] ++ ByteArray.mk (Lib.decDigits n.natAbs).toArray = ByteArray.mk (45 :: Lib.decDigits n.natAbs).toArray := cat_mk [45] _
  have c1 : ∀ A : List UInt8, ByteArray.mk A.toArray ++ ByteArray.mk #[UInt8.ofNat 47] = ByteArray.mk (A ++ [47]).toArray := fun A => cat_mk A [47]
  cases h : okF n d
  · exact if_pos rfl
  · refine (if_neg (by decide)).trans ?_
    rw [if_pos rfl]
    have hd0 : ¬ d < 0 := by
      obtain ⟨q, _, h2, _⟩ := okF_q h
      omega
    rw [itoa_pos' d hd0]
    by_cases h0 : n < 0
    · rw [itoa_neg' n h0]
      refine (if_pos (show decide (n < 0) = true from decide_eq_true h0)).trans ?_
      refine (need_s (l := 45 :: Lib.decDigits n.natAbs) b1 (by rw [← hM]; exact long_ok (by simp only [List.length_cons]; omega))).trans ?_
      by_cases h1 : d = 1
      · refine (if_neg (show ¬ (d != 1) = true by simp [h1])).trans ?_
        rw [if_pos h1, List.append_nil]
        exact congrArg (fun z => some [Sc.s z]) b1
      · refine (if_pos (show (d != 1) = true by simp [h1])).trans ?_
        rw [if_neg h1]
        have e1 := (congrArg (· ++ ByteArray.mk #[UInt8.ofNat 47]) b1).trans (c1 _)
        have e2 := (congrArg (· ++ ByteArray.mk (Lib.decDigits d.natAbs).toArray) e1).trans (cat_mk _ _)
        refine (need_s (l := 45 :: Lib.decDigits n.natAbs ++ [47]) e1 (by rw [← hM]; exact long_ok (by simp only [List.length_append, List.length_cons, List.length_nil]; omega))).trans ?_
        refine (need_s (l := 45 :: Lib.decDigits n.natAbs ++ [47] ++ Lib.decDigits d.natAbs) e2 (by rw [← hM]; exact long_ok (by simp only [List.length_append, List.length_cons, List.length_nil]; omega))).trans ?_
        refine (congrArg (fun z => some [Sc.s z]) e2).trans ?_
        simp [bS]
    · rw [itoa_pos' n h0]
      refine (if_neg (show ¬ decide (n < 0) = true by simp [h0])).trans ?_
      by_cases h1 : d = 1
      · refine (if_neg (show ¬ (d != 1) = true by simp [h1])).trans ?_
        rw [if_pos h1, List.append_nil]
      · refine (if_pos (show (d != 1) = true by simp [h1])).trans ?_
        rw [if_neg h1]
        have e1 := c1 (Lib.decDigits n.natAbs)
        have e2 := (congrArg (· ++ ByteArray.mk (Lib.decDigits d.natAbs).toArray) e1).trans (cat_mk _ _)
        refine (need_s (l := Lib.decDigits n.natAbs ++ [47]) e1 (by rw [← hM]; exact long_ok (by simp only [List.length_append, List.length_cons, List.length_nil]; omega))).trans ?_
        refine (need_s (l := Lib.decDigits n.natAbs ++ [47] ++ Lib.decDigits d.natAbs) e2 (by rw [← hM]; exact long_ok (by simp only [List.length_append, List.length_cons, List.length_nil]; omega))).trans ?_
        refine (congrArg (fun z => some [Sc.s z]) e2).trans ?_
        simp
end Go.Proofs.YtkjgcalkkfgmlaaDoor
