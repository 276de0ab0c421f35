/-
  The reference's Text; Mean, both ways. 
-/
import Derived.Test.YtmaocifplceopaaDoorT04b
import Derived.Test.YtmaocifplceopaaDoorFrO
namespace Go.Proofs.YtmaocifplceopaaDoor
set_option linter.unusedSimpArgs false
set_option linter.unusedVariables false

theorem rtextD_F (op a b n : Int) (vs ws : List Int) (hv : vs.length ≤ 17592186044416) (hw : ws.length ≤ 17592186044416) : k_simulatorref04_Text.F [.i op, .i a, .i b, .i n, .l (vs.map .i), .l (ws.map .i)] = some [bS (textD op a b n vs ws)] := by
  have C := rcheck_F op a b n vs ws hv hw
  by_cases h0 : chkD op a b n vs ws = 0
  rotate_left
  · simp only [k_simulatorref04_Text_F, tk_simulatorref04_Text, k_simulatorref04_Check_f, k_simulatorref01_Text_f, List.length_map, C, Go.Proofs.YtmaocifplceopaaDoor.T.den, Ex.ev, U1.ev, U2.ev, U3.ev, gam, List.map, List.getD_cons_zero, List.getD_cons_succ, List.length, List.cons_append, List.nil_append, if_true, int_n, bool_n, list_n, Sc.str_s, Nat.reduceEqDiff, if_false, List.getElem?_cons_zero, List.getElem?_cons_succ]
    unfold textD; rw [if_pos h0]
    simp only [h0, Int.natCast_nonneg, bne_iff_ne, beq_iff_eq, ne_eq, decide_eq_true_eq, Bool.and_eq_true, Bool.or_eq_true, Bool.not_eq_true', decide_eq_false_iff_not, beq_eq_false_iff_ne, bne_eq_false_iff_eq, not_true_eq_false, not_false_eq_true, if_true, if_false, reduceIte, and_true, true_and, and_false, false_and, or_false, false_or, or_true, true_or, List.getD_cons_zero, List.getD_cons_succ, List.length_cons, List.length_nil, List.cons_append, List.nil_append, Nat.reduceAdd, Nat.reduceEqDiff, reduceCtorEq, Bool.not_true, Bool.not_false, Bool.true_and, Bool.and_true, Bool.false_and, Bool.and_false, Bool.or_true, Bool.true_or, Bool.or_false, Bool.false_or, Bool.false_eq_true, Bool.true_eq_false, int_n, bool_n, list_n, Sc.str_s, Int.reduceEq, Int.reduceLT, Int.reduceLE, Int.reduceNe, decide_true, decide_false, decide_not, eq_self, Classical.not_not, List.getElem?_cons_zero, List.getElem?_cons_succ, beq_self_eq_true, bne_self_eq_false]
    rfl
  have hT : textD op a b n vs ws = if op = 1 then joinL wConst [a] else if op = 2 then joinL wUni [a, b] else if op = 4 then joinL wSum [n, a, b] else if op = 5 then joinL wGeom [a, b] else tabL vs ws vs.length := by
    unfold textD; rw [if_neg (fun h => h h0)]
  rw [hT]
  rcases chk_op h0 with rfl | rfl | rfl | rfl | rfl
  · obtain ⟨i1, i2⟩ := chk1 h0
    have q1 := rnumText_F a i1 i2
    have m1 := itoa_len a i1 i2
    have e : joinL wConst [a] = [99, 111, 110, 115, 116, 32] ++ Lib.itoa a := rfl
    rw [if_pos rfl, e]
    generalize Lib.itoa a = t1 at *
    unfold bS at q1 ⊢
    have c1 : ByteArray.mk #[UInt8.ofNat 99, UInt8.ofNat 111, UInt8.ofNat 110, UInt8.ofNat 115, UInt8.ofNat 116, UInt8.ofNat 32] ++ ByteArray.mk t1.toArray = ByteArray.mk ([99, 111, 110, 115, 116, 32] ++ t1).toArray := cat_mk [99, 111, 110, 115, 116, 32] t1
    have l1 : ([99, 111, 110, 115, 116, 32] ++ t1 : List UInt8).length ≤ 28 := by simp only [List.length_append, List.length_cons, List.length_nil]; omega
    generalize ([99, 111, 110, 115, 116, 32] ++ t1 : List UInt8) = u1 at *
    have s1 : (((ByteArray.mk u1.toArray).size : Nat) : Int) ≤ 9223372036854775807 := by rw [size_mk]; exact long_ok (by omega)
    simp only [k_simulatorref04_Text_F, tk_simulatorref04_Text, k_simulatorref04_Check_f, k_simulatorref01_Text_f, C, q1, Go.Proofs.YtmaocifplceopaaDoor.T.den, Ex.ev, U1.ev, U2.ev, U3.ev, gam, List.map, List.getD_cons_zero, List.getD_cons_succ, List.length, List.cons_append, List.nil_append, if_true, int_n, bool_n, list_n, Sc.str_s, Nat.reduceEqDiff, if_false, List.getElem?_cons_zero, List.getElem?_cons_succ]
    simp only [h0, c1, s1, Int.natCast_nonneg, bne_iff_ne, beq_iff_eq, ne_eq, decide_eq_true_eq, Bool.and_eq_true, Bool.or_eq_true, Bool.not_eq_true', decide_eq_false_iff_not, beq_eq_false_iff_ne, bne_eq_false_iff_eq, not_true_eq_false, not_false_eq_true, if_true, if_false, reduceIte, and_true, true_and, and_false, false_and, or_false, false_or, or_true, true_or, List.getD_cons_zero, List.getD_cons_succ, List.length_cons, List.length_nil, List.cons_append, List.nil_append, Nat.reduceAdd, Nat.reduceEqDiff, reduceCtorEq, Bool.not_true, Bool.not_false, Bool.true_and, Bool.and_true, Bool.false_and, Bool.and_false, Bool.or_true, Bool.true_or, Bool.or_false, Bool.false_or, Bool.false_eq_true, Bool.true_eq_false, int_n, bool_n, list_n, Sc.str_s, Int.reduceEq, Int.reduceLT, Int.reduceLE, Int.reduceNe, decide_true, decide_false, decide_not, eq_self, Classical.not_not, List.getElem?_cons_zero, List.getElem?_cons_succ, beq_self_eq_true, bne_self_eq_false]
  · obtain ⟨i1, i2, i3⟩ := chk2 h0
    have q1 := rnumText_F a i1 (by omega)
    have q2 := rnumText_F b (by omega) (by omega)
    have m1 := itoa_len a i1 (by omega)
    have m2 := itoa_len b (by omega) (by omega)
    have e : joinL wUni [a, b] = ([117, 110, 105, 102, 111, 114, 109, 32] ++ Lib.itoa a) ++ [32] ++ Lib.itoa b := by simp [joinL, wUni]
    rw [if_neg (by decide), if_pos rfl, e]
    generalize Lib.itoa a = t1 at *
    generalize Lib.itoa b = t2 at *
    unfold bS at q1 q2 ⊢
    have c1 : ByteArray.mk #[UInt8.ofNat 117, UInt8.ofNat 110, UInt8.ofNat 105, UInt8.ofNat 102, UInt8.ofNat 111, UInt8.ofNat 114, UInt8.ofNat 109, UInt8.ofNat 32] ++ ByteArray.mk t1.toArray = ByteArray.mk ([117, 110, 105, 102, 111, 114, 109, 32] ++ t1).toArray := cat_mk [117, 110, 105, 102, 111, 114, 109, 32] t1
    have l1 : ([117, 110, 105, 102, 111, 114, 109, 32] ++ t1 : List UInt8).length ≤ 28 := by simp only [List.length_append, List.length_cons, List.length_nil]; omega
    generalize ([117, 110, 105, 102, 111, 114, 109, 32] ++ t1 : List UInt8) = u1 at *
    have c2 : ByteArray.mk u1.toArray ++ ByteArray.mk #[UInt8.ofNat 32] = ByteArray.mk (u1 ++ [32]).toArray := cat_mk u1 [32]
    have c3 : ByteArray.mk (u1 ++ [32]).toArray ++ ByteArray.mk t2.toArray = ByteArray.mk (u1 ++ [32] ++ t2).toArray := cat_mk _ t2
    have s1 : (((ByteArray.mk u1.toArray).size : Nat) : Int) ≤ 9223372036854775807 := by rw [size_mk]; exact long_ok (by omega)
    have s2 : (((ByteArray.mk (u1 ++ [32]).toArray).size : Nat) : Int) ≤ 9223372036854775807 := by rw [size_mk]; exact long_ok (by simp only [List.length_append, List.length_cons, List.length_nil]; omega)
    have s3 : (((ByteArray.mk (u1 ++ [32] ++ t2).toArray).size : Nat) : Int) ≤ 9223372036854775807 := by rw [size_mk]; exact long_ok (by simp only [List.length_append, List.length_cons, List.length_nil]; omega)
    simp only [k_simulatorref04_Text_F, tk_simulatorref04_Text, k_simulatorref04_Check_f, k_simulatorref01_Text_f, C, q1, q2, Go.Proofs.YtmaocifplceopaaDoor.T.den, Ex.ev, U1.ev, U2.ev, U3.ev, gam, List.map, List.getD_cons_zero, List.getD_cons_succ, List.length, List.cons_append, List.nil_append, if_true, int_n, bool_n, list_n, Sc.str_s, Nat.reduceEqDiff, if_false, List.getElem?_cons_zero, List.getElem?_cons_succ]
    simp only [h0, c1, c2, c3, s1, s2, s3, Int.natCast_nonneg, bne_iff_ne, beq_iff_eq, ne_eq, decide_eq_true_eq, Bool.and_eq_true, Bool.or_eq_true, Bool.not_eq_true', decide_eq_false_iff_not, beq_eq_false_iff_ne, bne_eq_false_iff_eq, not_true_eq_false, not_false_eq_true, if_true, if_false, reduceIte, and_true, true_and, and_false, false_and, or_false, false_or, or_true, true_or, List.getD_cons_zero, List.getD_cons_succ, List.length_cons, List.length_nil, List.cons_append, List.nil_append, Nat.reduceAdd, Nat.reduceEqDiff, reduceCtorEq, Bool.not_true, Bool.not_false, Bool.true_and, Bool.and_true, Bool.false_and, Bool.and_false, Bool.or_true, Bool.true_or, Bool.or_false, Bool.false_or, Bool.false_eq_true, Bool.true_eq_false, int_n, bool_n, list_n, Sc.str_s, Int.reduceEq, Int.reduceLT, Int.reduceLE, Int.reduceNe, decide_true, decide_false, decide_not, eq_self, Classical.not_not, List.getElem?_cons_zero, List.getElem?_cons_succ, beq_self_eq_true, bne_self_eq_false]
  · obtain ⟨l1, l2, l3, l4, l5⟩ := chk3 h0
    have nv : okN vs := l4
    have nw : okN ws := fun x hx => by have := l5 x hx; omega
    rw [if_neg (by decide), if_neg (by decide), if_neg (by decide), if_neg (by decide)]
    simp only [k_simulatorref04_Text_F, tk_simulatorref04_Text, k_simulatorref04_Check_f, k_simulatorref01_Text_f, List.length_map, C, Go.Proofs.YtmaocifplceopaaDoor.T.den, Ex.ev, U1.ev, U2.ev, U3.ev, gam, List.map, List.getD_cons_zero, List.getD_cons_succ, List.length, List.cons_append, List.nil_append, if_true, int_n, bool_n, list_n, Sc.str_s, Nat.reduceEqDiff, if_false, List.getElem?_cons_zero, List.getElem?_cons_succ]
    simp only [h0, Int.natCast_nonneg, bne_iff_ne, beq_iff_eq, ne_eq, decide_eq_true_eq, Bool.and_eq_true, Bool.or_eq_true, Bool.not_eq_true', decide_eq_false_iff_not, beq_eq_false_iff_ne, bne_eq_false_iff_eq, not_true_eq_false, not_false_eq_true, if_true, if_false, reduceIte, and_true, true_and, and_false, false_and, or_false, false_or, or_true, true_or, List.getD_cons_zero, List.getD_cons_succ, List.length_cons, List.length_nil, List.cons_append, List.nil_append, Nat.reduceAdd, Nat.reduceEqDiff, reduceCtorEq, Bool.not_true, Bool.not_false, Bool.true_and, Bool.and_true, Bool.false_and, Bool.and_false, Bool.or_true, Bool.true_or, Bool.or_false, Bool.false_or, Bool.false_eq_true, Bool.true_eq_false, int_n, bool_n, list_n, Sc.str_s, Int.reduceEq, Int.reduceLT, Int.reduceLE, Int.reduceNe, decide_true, decide_false, decide_not, eq_self, Classical.not_not, List.getElem?_cons_zero, List.getElem?_cons_succ, beq_self_eq_true, bne_self_eq_false]
    refine loop_from (S := Nat) (fun j => [bS (tabL vs ws j), .i (j : Int)]) (fun _ => some [bS (tabL vs ws vs.length)]) (fun j => j ≤ vs.length) (fun j => vs.length - j) 0 (by unfold tabL; rw [List.take_zero]; rfl) rfl (by omega) (by omega) ?_
    intro j rec hj hrec
    by_cases hlt : j < vs.length
    · have hlt2 : j < ws.length := by omega
      have k1 : (j : Int) < vs.length := by omega
      have k2 : (j : Int) < ws.length := by omega
      have h1 := idx_map Sc.i vs j hlt
      have h2 := idx_map Sc.i ws j hlt2
      have hv1 := nv _ (List.getElem_mem hlt)
      have hw1 := nw _ (List.getElem_mem hlt2)
      have q1 := rnumText_F _ hv1.1 hv1.2
      have q2 := rnumText_F _ hw1.1 hw1.2
      have hs := succ_w (n := vs.length) hlt (by omega)
      have hr := hrec (j + 1) (by omega) (by omega)
      have tl := tab_len vs ws nv nw (j + 1)
      rw [tab_succ vs ws hlt hlt2] at hr tl
      generalize Lib.itoa vs[j] = t1 at *
      generalize Lib.itoa ws[j] = t2 at *
      generalize tabL vs ws j = u at *
      unfold bS at q1 q2 hr ⊢
      simp only [List.length_append, List.length_cons] at tl
      have c1 : ByteArray.mk u.toArray ++ ByteArray.mk #[UInt8.ofNat 32] = ByteArray.mk (u ++ [32]).toArray := cat_mk u [32]
      have c2 : ByteArray.mk (u ++ [32]).toArray ++ ByteArray.mk t1.toArray = ByteArray.mk (u ++ [32] ++ t1).toArray := cat_mk _ t1
      have c3 : ByteArray.mk (u ++ [32] ++ t1).toArray ++ ByteArray.mk #[UInt8.ofNat 58] = ByteArray.mk (u ++ [32] ++ t1 ++ [58]).toArray := cat_mk _ [58]
      have c4 : ByteArray.mk (u ++ [32] ++ t1 ++ [58]).toArray ++ ByteArray.mk t2.toArray = ByteArray.mk (u ++ 32 :: (t1 ++ 58 :: t2)).toArray := (cat_mk _ t2).trans (by simp)
      have s1 : (((ByteArray.mk (u ++ [32]).toArray).size : Nat) : Int) ≤ 9223372036854775807 := by rw [size_mk]; exact long_ok (by simp only [List.length_append, List.length_cons, List.length_nil]; omega)
      have s2 : (((ByteArray.mk (u ++ [32] ++ t1).toArray).size : Nat) : Int) ≤ 9223372036854775807 := by rw [size_mk]; exact long_ok (by simp only [List.length_append, List.length_cons, List.length_nil]; omega)
      have s3 : (((ByteArray.mk (u ++ [32] ++ t1 ++ [58]).toArray).size : Nat) : Int) ≤ 9223372036854775807 := by rw [size_mk]; exact long_ok (by simp only [List.length_append, List.length_cons, List.length_nil]; omega)
      have s4 : (((ByteArray.mk (u ++ 32 :: (t1 ++ 58 :: t2)).toArray).size : Nat) : Int) ≤ 9223372036854775807 := by rw [size_mk]; exact long_ok (by simp only [List.length_append, List.length_cons, List.length_nil]; omega)
      simp only [k1, k2, h1, h2, q1, q2, c1, c2, c3, c4, s1, s2, s3, s4, hs, hr, Int.natCast_nonneg, bne_iff_ne, beq_iff_eq, ne_eq, decide_eq_true_eq, Bool.and_eq_true, Bool.or_eq_true, Bool.not_eq_true', decide_eq_false_iff_not, beq_eq_false_iff_ne, bne_eq_false_iff_eq, not_true_eq_false, not_false_eq_true, if_true, if_false, reduceIte, and_true, true_and, and_false, false_and, or_false, false_or, or_true, true_or, List.getD_cons_zero, List.getD_cons_succ, List.length_cons, List.length_nil, List.cons_append, List.nil_append, Nat.reduceAdd, Nat.reduceEqDiff, reduceCtorEq, Bool.not_true, Bool.not_false, Bool.true_and, Bool.and_true, Bool.false_and, Bool.and_false, Bool.or_true, Bool.true_or, Bool.or_false, Bool.false_or, Bool.false_eq_true, Bool.true_eq_false, int_n, bool_n, list_n, Sc.str_s, Int.reduceEq, Int.reduceLT, Int.reduceLE, Int.reduceNe, decide_true, decide_false, decide_not, eq_self, Classical.not_not, List.getElem?_cons_zero, List.getElem?_cons_succ, beq_self_eq_true, bne_self_eq_false]
    · have k1 : ¬ (j : Int) < vs.length := by omega
      have e : j = vs.length := by omega
      subst e
      simp only [k1, Int.natCast_nonneg, bne_iff_ne, beq_iff_eq, ne_eq, decide_eq_true_eq, Bool.and_eq_true, Bool.or_eq_true, Bool.not_eq_true', decide_eq_false_iff_not, beq_eq_false_iff_ne, bne_eq_false_iff_eq, not_true_eq_false, not_false_eq_true, if_true, if_false, reduceIte, and_true, true_and, and_false, false_and, or_false, false_or, or_true, true_or, List.getD_cons_zero, List.getD_cons_succ, List.length_cons, List.length_nil, List.cons_append, List.nil_append, Nat.reduceAdd, Nat.reduceEqDiff, reduceCtorEq, Bool.not_true, Bool.not_false, Bool.true_and, Bool.and_true, Bool.false_and, Bool.and_false, Bool.or_true, Bool.true_or, Bool.or_false, Bool.false_or, Bool.false_eq_true, Bool.true_eq_false, int_n, bool_n, list_n, Sc.str_s, Int.reduceEq, Int.reduceLT, Int.reduceLE, Int.reduceNe, decide_true, decide_false, decide_not, eq_self, Classical.not_not, List.getElem?_cons_zero, List.getElem?_cons_succ, beq_self_eq_true, bne_self_eq_false]
  · obtain ⟨i0, i1, i2, i3⟩ := chk4 h0
    have q1 := rnumText_F a i1 (by omega)
    have q2 := rnumText_F b (by omega) (by omega)
    have q0 := rnumText_F n (by omega) (by omega)
    have m1 := itoa_len a i1 (by omega)
    have m2 := itoa_len b (by omega) (by omega)
    have m0 := itoa_len n (by omega) (by omega)
    have e : joinL wSum [n, a, b] = ([115, 117, 109, 32] ++ Lib.itoa n) ++ [32] ++ Lib.itoa a ++ [32] ++ Lib.itoa b := by simp [joinL, wSum]
    rw [if_neg (by decide), if_neg (by decide), if_pos rfl, e]
    generalize Lib.itoa n = t0 at *
    generalize Lib.itoa a = t1 at *
    generalize Lib.itoa b = t2 at *
    unfold bS at q0 q1 q2 ⊢
    have c1 : ByteArray.mk #[UInt8.ofNat 115, UInt8.ofNat 117, UInt8.ofNat 109, UInt8.ofNat 32] ++ ByteArray.mk t0.toArray = ByteArray.mk ([115, 117, 109, 32] ++ t0).toArray := cat_mk [115, 117, 109, 32] t0
    have l1 : ([115, 117, 109, 32] ++ t0 : List UInt8).length ≤ 28 := by simp only [List.length_append, List.length_cons, List.length_nil]; omega
    generalize ([115, 117, 109, 32] ++ t0 : List UInt8) = u1 at *
    have c2 : ByteArray.mk u1.toArray ++ ByteArray.mk #[UInt8.ofNat 32] = ByteArray.mk (u1 ++ [32]).toArray := cat_mk u1 [32]
    have c3 : ByteArray.mk (u1 ++ [32]).toArray ++ ByteArray.mk t1.toArray = ByteArray.mk (u1 ++ [32] ++ t1).toArray := cat_mk _ t1
    have c4 : ByteArray.mk (u1 ++ [32] ++ t1).toArray ++ ByteArray.mk #[UInt8.ofNat 32] = ByteArray.mk (u1 ++ [32] ++ t1 ++ [32]).toArray := cat_mk _ [32]
    have c5 : ByteArray.mk (u1 ++ [32] ++ t1 ++ [32]).toArray ++ ByteArray.mk t2.toArray = ByteArray.mk (u1 ++ [32] ++ t1 ++ [32] ++ t2).toArray := cat_mk _ t2
    have s1 : (((ByteArray.mk u1.toArray).size : Nat) : Int) ≤ 9223372036854775807 := by rw [size_mk]; exact long_ok (by omega)
    have s2 : (((ByteArray.mk (u1 ++ [32]).toArray).size : Nat) : Int) ≤ 9223372036854775807 := by rw [size_mk]; exact long_ok (by simp only [List.length_append, List.length_cons, List.length_nil]; omega)
    have s3 : (((ByteArray.mk (u1 ++ [32] ++ t1).toArray).size : Nat) : Int) ≤ 9223372036854775807 := by rw [size_mk]; exact long_ok (by simp only [List.length_append, List.length_cons, List.length_nil]; omega)
    have s4 : (((ByteArray.mk (u1 ++ [32] ++ t1 ++ [32]).toArray).size : Nat) : Int) ≤ 9223372036854775807 := by rw [size_mk]; exact long_ok (by simp only [List.length_append, List.length_cons, List.length_nil]; omega)
    have s5 : (((ByteArray.mk (u1 ++ [32] ++ t1 ++ [32] ++ t2).toArray).size : Nat) : Int) ≤ 9223372036854775807 := by rw [size_mk]; exact long_ok (by simp only [List.length_append, List.length_cons, List.length_nil]; omega)
    simp only [k_simulatorref04_Text_F, tk_simulatorref04_Text, k_simulatorref04_Check_f, k_simulatorref01_Text_f, C, q0, q1, q2, Go.Proofs.YtmaocifplceopaaDoor.T.den, Ex.ev, U1.ev, U2.ev, U3.ev, gam, List.map, List.getD_cons_zero, List.getD_cons_succ, List.length, List.cons_append, List.nil_append, if_true, int_n, bool_n, list_n, Sc.str_s, Nat.reduceEqDiff, if_false, List.getElem?_cons_zero, List.getElem?_cons_succ]
    simp only [h0, c1, c2, c3, c4, c5, s1, s2, s3, s4, s5, Int.natCast_nonneg, bne_iff_ne, beq_iff_eq, ne_eq, decide_eq_true_eq, Bool.and_eq_true, Bool.or_eq_true, Bool.not_eq_true', decide_eq_false_iff_not, beq_eq_false_iff_ne, bne_eq_false_iff_eq, not_true_eq_false, not_false_eq_true, if_true, if_false, reduceIte, and_true, true_and, and_false, false_and, or_false, false_or, or_true, true_or, List.getD_cons_zero, List.getD_cons_succ, List.length_cons, List.length_nil, List.cons_append, List.nil_append, Nat.reduceAdd, Nat.reduceEqDiff, reduceCtorEq, Bool.not_true, Bool.not_false, Bool.true_and, Bool.and_true, Bool.false_and, Bool.and_false, Bool.or_true, Bool.true_or, Bool.or_false, Bool.false_or, Bool.false_eq_true, Bool.true_eq_false, int_n, bool_n, list_n, Sc.str_s, Int.reduceEq, Int.reduceLT, Int.reduceLE, Int.reduceNe, decide_true, decide_false, decide_not, eq_self, Classical.not_not, List.getElem?_cons_zero, List.getElem?_cons_succ, beq_self_eq_true, bne_self_eq_false]
  · obtain ⟨i1, i2⟩ := chk5 h0
    have q1 := rnumText_F a (by omega) (by omega)
    have q2 := rnumText_F b (by omega) (by omega)
    have m1 := itoa_len a (by omega) (by omega)
    have m2 := itoa_len b (by omega) (by omega)
    have e : joinL wGeom [a, b] = ([103, 101, 111, 109, 32] ++ Lib.itoa a) ++ [32] ++ Lib.itoa b := by simp [joinL, wGeom]
    rw [if_neg (by decide), if_neg (by decide), if_neg (by decide), if_pos rfl, e]
    generalize Lib.itoa a = t1 at *
    generalize Lib.itoa b = t2 at *
    unfold bS at q1 q2 ⊢
    have c1 : ByteArray.mk #[UInt8.ofNat 103, UInt8.ofNat 101, UInt8.ofNat 111, UInt8.ofNat 109, UInt8.ofNat 32] ++ ByteArray.mk t1.toArray = ByteArray.mk ([103, 101, 111, 109, 32] ++ t1).toArray := cat_mk [103, 101, 111, 109, 32] t1
    have l1 : ([103, 101, 111, 109, 32] ++ t1 : List UInt8).length ≤ 28 := by simp only [List.length_append, List.length_cons, List.length_nil]; omega
    generalize ([103, 101, 111, 109, 32] ++ t1 : List UInt8) = u1 at *
    have c2 : ByteArray.mk u1.toArray ++ ByteArray.mk #[UInt8.ofNat 32] = ByteArray.mk (u1 ++ [32]).toArray := cat_mk u1 [32]
    have c3 : ByteArray.mk (u1 ++ [32]).toArray ++ ByteArray.mk t2.toArray = ByteArray.mk (u1 ++ [32] ++ t2).toArray := cat_mk _ t2
    have s1 : (((ByteArray.mk u1.toArray).size : Nat) : Int) ≤ 9223372036854775807 := by rw [size_mk]; exact long_ok (by omega)
    have s2 : (((ByteArray.mk (u1 ++ [32]).toArray).size : Nat) : Int) ≤ 9223372036854775807 := by rw [size_mk]; exact long_ok (by simp only [List.length_append, List.length_cons, List.length_nil]; omega)
    have s3 : (((ByteArray.mk (u1 ++ [32] ++ t2).toArray).size : Nat) : Int) ≤ 9223372036854775807 := by rw [size_mk]; exact long_ok (by simp only [List.length_append, List.length_cons, List.length_nil]; omega)
    simp only [k_simulatorref04_Text_F, tk_simulatorref04_Text, k_simulatorref04_Check_f, k_simulatorref01_Text_f, C, q1, q2, Go.Proofs.YtmaocifplceopaaDoor.T.den, Ex.ev, U1.ev, U2.ev, U3.ev, gam, List.map, List.getD_cons_zero, List.getD_cons_succ, List.length, List.cons_append, List.nil_append, if_true, int_n, bool_n, list_n, Sc.str_s, Nat.reduceEqDiff, if_false, List.getElem?_cons_zero, List.getElem?_cons_succ]
    simp only [h0, c1, c2, c3, s1, s2, s3, Int.natCast_nonneg, bne_iff_ne, beq_iff_eq, ne_eq, decide_eq_true_eq, Bool.and_eq_true, Bool.or_eq_true, Bool.not_eq_true', decide_eq_false_iff_not, beq_eq_false_iff_ne, bne_eq_false_iff_eq, not_true_eq_false, not_false_eq_true, if_true, if_false, reduceIte, and_true, true_and, and_false, false_and, or_false, false_or, or_true, true_or, List.getD_cons_zero, List.getD_cons_succ, List.length_cons, List.length_nil, List.cons_append, List.nil_append, Nat.reduceAdd, Nat.reduceEqDiff, reduceCtorEq, Bool.not_true, Bool.not_false, Bool.true_and, Bool.and_true, Bool.false_and, Bool.and_false, Bool.or_true, Bool.true_or, Bool.or_false, Bool.false_or, Bool.false_eq_true, Bool.true_eq_false, int_n, bool_n, list_n, Sc.str_s, Int.reduceEq, Int.reduceLT, Int.reduceLE, Int.reduceNe, decide_true, decide_false, decide_not, eq_self, Classical.not_not, List.getElem?_cons_zero, List.getElem?_cons_succ, beq_self_eq_true, bne_self_eq_false]
/-- The weighted sum. -/
def wsumP (vs ws : List Int) (j : Nat) : Int := sumI (((vs.zip ws).take j).map fun p => p.1 * p.2)
theorem wsumP_in (vs ws : List Int) (hv : ∀ x ∈ vs, 0 ≤ x ∧ x ≤ 1000000000) (hw : ∀ x ∈ ws, 1 ≤ x ∧ x ≤ 1000) (j : Nat) : 0 ≤ wsumP vs ws j ∧ wsumP vs ws j ≤ j * 1000000000000 := by
  unfold wsumP
  have key : ∀ l : List (Int × Int), (∀ p ∈ l, (0 ≤ p.1 ∧ p.1 ≤ 1000000000) ∧ (1 ≤ p.2 ∧ p.2 ≤ 1000)) → 0 ≤ sumI (l.map fun p => p.1 * p.2) ∧ sumI (l.map fun p => p.1 * p.2) ≤ l.length * 1000000000000 := by
    intro l
    induction l with
    | nil => intro _; simp [sumI]
    | cons p r ih =>
      intro h
      have hp := h p (List.mem_cons_self ..)
      have := ih fun q hq => h q (List.mem_cons_of_mem _ hq)
      have h1 : 0 ≤ p.1 * p.2 := Int.mul_nonneg (by omega) (by omega)
      have h2 : p.1 * p.2 ≤ 1000000000 * 1000 := Int.mul_le_mul (by omega) (by omega) (by omega) (by omega)
      simp only [List.map_cons, sumI, List.length_cons]; omega
  have := key ((vs.zip ws).take j) (fun p hp => by
    have := List.mem_of_mem_take hp
    exact ⟨hv _ (List.of_mem_zip this).1, hw _ (List.of_mem_zip this).2⟩)
  have l3 : ((vs.zip ws).take j).length ≤ j := by rw [List.length_take]; omega
  omega
theorem wsumP_succ (vs ws : List Int) {j : Nat} (h1 : j < vs.length) (h2 : j < ws.length) : wsumP vs ws (j + 1) = wsumP vs ws j + vs[j] * ws[j] := by
  unfold wsumP
  rw [List.take_add_one, List.getElem?_eq_getElem (show j < (vs.zip ws).length by rw [List.length_zip]; omega), List.map_append, sumI_append]
  simp [sumI]
/-- What Mean returns. -/
def meanL (op a b n : Int) (vs ws : List Int) : List Sc :=
  if chkD op a b n vs ws ≠ 0 then [.i 0, .i 0, .b false] else
  if op = 1 then ofQ a 1 else if op = 2 then ofQ (a + b) 2 else if op = 4 then ofQ (n * (a + b)) 2 else if op = 3 then ofQ (wsumP vs ws vs.length) (sumI ws) else
  if a = 1 then ofQ 1 1 else if b = 1 then ofQ 1 1 else [.i 0, .i 0, .b false]
theorem meanL_form (op a b n : Int) (vs ws : List Int) : ∃ x y z, meanL op a b n vs ws = [.i x, .i y, .b z] := by
  unfold meanL
  repeat' split
  all_goals first | exact ofQ_form _ _ | exact ⟨_, _, _, rfl⟩
theorem mean_F (op a b n : Int) (vs ws : List Int) (hv : vs.length ≤ 17592186044416) (hw : ws.length ≤ 17592186044416) : k_dist_Mean.F [.i op, .i a, .i b, .i n, .l (vs.map .i), .l (ws.map .i)] = some (meanL op a b n vs ws) := by
  have C := fcheck_F op a b n vs ws hv hw
  by_cases h0 : chkD op a b n vs ws = 0
  rotate_left
  · simp only [k_dist_Mean_F, tk_dist_Mean, k_dist_Check_f, k_frac_Of_f, k_dist_weight_f, List.length_map, C, Go.Proofs.YtmaocifplceopaaDoor.T.den, Ex.ev, U1.ev, U2.ev, U3.ev, gam, List.map, List.getD_cons_zero, List.getD_cons_succ, List.length, List.cons_append, List.nil_append, if_true, int_n, bool_n, list_n, Sc.str_s, Nat.reduceEqDiff, if_false, List.getElem?_cons_zero, List.getElem?_cons_succ]
    unfold meanL; rw [if_pos h0]
    simp only [h0, Int.natCast_nonneg, bne_iff_ne, beq_iff_eq, ne_eq, decide_eq_true_eq, Bool.and_eq_true, Bool.or_eq_true, Bool.not_eq_true', decide_eq_false_iff_not, beq_eq_false_iff_ne, bne_eq_false_iff_eq, not_true_eq_false, not_false_eq_true, if_true, if_false, reduceIte, and_true, true_and, and_false, false_and, or_false, false_or, or_true, true_or, List.getD_cons_zero, List.getD_cons_succ, List.length_cons, List.length_nil, List.cons_append, List.nil_append, Nat.reduceAdd, Nat.reduceEqDiff, reduceCtorEq, Bool.not_true, Bool.not_false, Bool.true_and, Bool.and_true, Bool.false_and, Bool.and_false, Bool.or_true, Bool.true_or, Bool.or_false, Bool.false_or, Bool.false_eq_true, Bool.true_eq_false, int_n, bool_n, list_n, Sc.str_s, Int.reduceEq, Int.reduceLT, Int.reduceLE, Int.reduceNe, decide_true, decide_false, decide_not, eq_self, Classical.not_not, List.getElem?_cons_zero, List.getElem?_cons_succ, beq_self_eq_true, bne_self_eq_false]
  have hT : meanL op a b n vs ws = if op = 1 then ofQ a 1 else if op = 2 then ofQ (a + b) 2 else if op = 4 then ofQ (n * (a + b)) 2 else if op = 3 then ofQ (wsumP vs ws vs.length) (sumI ws) else
    if a = 1 then ofQ 1 1 else if b = 1 then ofQ 1 1 else [.i 0, .i 0, .b false] := by
    unfold meanL; rw [if_neg (fun h => h h0)]
  rw [hT]
  rcases chk_op h0 with rfl | rfl | rfl | rfl | rfl
  · obtain ⟨i1, i2⟩ := chk1 h0
    have o := fOf_F a 1 ⟨by omega, by omega⟩ ⟨by omega, by omega⟩
    obtain ⟨x, y, z, e⟩ := ofQ_form a 1
    rw [e] at o
    rw [if_pos rfl, e]
    simp only [k_dist_Mean_F, tk_dist_Mean, k_dist_Check_f, k_frac_Of_f, k_dist_weight_f, List.length_map, C, Go.Proofs.YtmaocifplceopaaDoor.T.den, Ex.ev, U1.ev, U2.ev, U3.ev, gam, List.map, List.getD_cons_zero, List.getD_cons_succ, List.length, List.cons_append, List.nil_append, if_true, int_n, bool_n, list_n, Sc.str_s, Nat.reduceEqDiff, if_false, List.getElem?_cons_zero, List.getElem?_cons_succ]
    simp only [h0, o, Int.natCast_nonneg, bne_iff_ne, beq_iff_eq, ne_eq, decide_eq_true_eq, Bool.and_eq_true, Bool.or_eq_true, Bool.not_eq_true', decide_eq_false_iff_not, beq_eq_false_iff_ne, bne_eq_false_iff_eq, not_true_eq_false, not_false_eq_true, if_true, if_false, reduceIte, and_true, true_and, and_false, false_and, or_false, false_or, or_true, true_or, List.getD_cons_zero, List.getD_cons_succ, List.length_cons, List.length_nil, List.cons_append, List.nil_append, Nat.reduceAdd, Nat.reduceEqDiff, reduceCtorEq, Bool.not_true, Bool.not_false, Bool.true_and, Bool.and_true, Bool.false_and, Bool.and_false, Bool.or_true, Bool.true_or, Bool.or_false, Bool.false_or, Bool.false_eq_true, Bool.true_eq_false, int_n, bool_n, list_n, Sc.str_s, Int.reduceEq, Int.reduceLT, Int.reduceLE, Int.reduceNe, decide_true, decide_false, decide_not, eq_self, Classical.not_not, List.getElem?_cons_zero, List.getElem?_cons_succ, beq_self_eq_true, bne_self_eq_false]
  · obtain ⟨i1, i2, i3⟩ := chk2 h0
    have w : IntKind.i64.wrap (a + b) = a + b := wrJ (by omega) (by omega)
    have o := fOf_F (a + b) 2 ⟨by omega, by omega⟩ ⟨by omega, by omega⟩
    obtain ⟨x, y, z, e⟩ := ofQ_form (a + b) 2
    rw [e] at o
    rw [if_neg (by decide), if_pos rfl, e]
    simp only [k_dist_Mean_F, tk_dist_Mean, k_dist_Check_f, k_frac_Of_f, k_dist_weight_f, List.length_map, C, Go.Proofs.YtmaocifplceopaaDoor.T.den, Ex.ev, U1.ev, U2.ev, U3.ev, gam, List.map, List.getD_cons_zero, List.getD_cons_succ, List.length, List.cons_append, List.nil_append, if_true, int_n, bool_n, list_n, Sc.str_s, Nat.reduceEqDiff, if_false, List.getElem?_cons_zero, List.getElem?_cons_succ]
    simp only [h0, w, o, Int.natCast_nonneg, bne_iff_ne, beq_iff_eq, ne_eq, decide_eq_true_eq, Bool.and_eq_true, Bool.or_eq_true, Bool.not_eq_true', decide_eq_false_iff_not, beq_eq_false_iff_ne, bne_eq_false_iff_eq, not_true_eq_false, not_false_eq_true, if_true, if_false, reduceIte, and_true, true_and, and_false, false_and, or_false, false_or, or_true, true_or, List.getD_cons_zero, List.getD_cons_succ, List.length_cons, List.length_nil, List.cons_append, List.nil_append, Nat.reduceAdd, Nat.reduceEqDiff, reduceCtorEq, Bool.not_true, Bool.not_false, Bool.true_and, Bool.and_true, Bool.false_and, Bool.and_false, Bool.or_true, Bool.true_or, Bool.or_false, Bool.false_or, Bool.false_eq_true, Bool.true_eq_false, int_n, bool_n, list_n, Sc.str_s, Int.reduceEq, Int.reduceLT, Int.reduceLE, Int.reduceNe, decide_true, decide_false, decide_not, eq_self, Classical.not_not, List.getElem?_cons_zero, List.getElem?_cons_succ, beq_self_eq_true, bne_self_eq_false]
  · obtain ⟨l1, l2, l3, l4, l5⟩ := chk3 h0
    have W := weight_F 3 a b n (vs.map .i) ws l5 (by omega)
    have sb := sum_bound (B := 1000) (by omega) ws (fun x hx => by have := l5 x hx; omega)
    have bw := wsumP_in vs ws l4 l5 vs.length
    have o := fOf_F (wsumP vs ws vs.length) (sumI ws) ⟨by omega, by omega⟩ ⟨by omega, by omega⟩
    obtain ⟨x, y, z, e⟩ := ofQ_form (wsumP vs ws vs.length) (sumI ws)
    rw [e] at o
    rw [if_neg (by decide), if_neg (by decide), if_neg (by decide), if_pos rfl, e]
    simp only [k_dist_Mean_F, tk_dist_Mean, k_dist_Check_f, k_frac_Of_f, k_dist_weight_f, List.length_map, C, W, Go.Proofs.YtmaocifplceopaaDoor.T.den, Ex.ev, U1.ev, U2.ev, U3.ev, gam, List.map, List.getD_cons_zero, List.getD_cons_succ, List.length, List.cons_append, List.nil_append, if_true, int_n, bool_n, list_n, Sc.str_s, Nat.reduceEqDiff, if_false, List.getElem?_cons_zero, List.getElem?_cons_succ]
    simp only [h0, Int.natCast_nonneg, bne_iff_ne, beq_iff_eq, ne_eq, decide_eq_true_eq, Bool.and_eq_true, Bool.or_eq_true, Bool.not_eq_true', decide_eq_false_iff_not, beq_eq_false_iff_ne, bne_eq_false_iff_eq, not_true_eq_false, not_false_eq_true, if_true, if_false, reduceIte, and_true, true_and, and_false, false_and, or_false, false_or, or_true, true_or, List.getD_cons_zero, List.getD_cons_succ, List.length_cons, List.length_nil, List.cons_append, List.nil_append, Nat.reduceAdd, Nat.reduceEqDiff, reduceCtorEq, Bool.not_true, Bool.not_false, Bool.true_and, Bool.and_true, Bool.false_and, Bool.and_false, Bool.or_true, Bool.true_or, Bool.or_false, Bool.false_or, Bool.false_eq_true, Bool.true_eq_false, int_n, bool_n, list_n, Sc.str_s, Int.reduceEq, Int.reduceLT, Int.reduceLE, Int.reduceNe, decide_true, decide_false, decide_not, eq_self, Classical.not_not, List.getElem?_cons_zero, List.getElem?_cons_succ, beq_self_eq_true, bne_self_eq_false]
    refine loop_from (S := Nat) (fun j => [.i (wsumP vs ws j), .i (j : Int)]) (fun _ => some [.i x, .i y, .b z]) (fun j => j ≤ vs.length) (fun j => vs.length - j) 0 (by unfold wsumP; rw [List.take_zero]; rfl) rfl (by omega) (by omega) ?_
    intro j rec hj hrec
    by_cases hlt : j < vs.length
    · have hlt2 : j < ws.length := by omega
      have k1 : (j : Int) < vs.length := by omega
      have k2 : (j : Int) < ws.length := by omega
      have h1 := idx_map Sc.i vs j hlt
      have h2 := idx_map Sc.i ws j hlt2
      have hs := succ_w (n := vs.length) hlt (by omega)
      have hr := hrec (j + 1) (by omega) (by omega)
      have bj := wsumP_in vs ws l4 l5 (j + 1)
      have hv1 := l4 _ (List.getElem_mem hlt)
      have hw1 := l5 _ (List.getElem_mem hlt2)
      have m1 : 0 ≤ vs[j] * ws[j] := Int.mul_nonneg (by omega) (by omega)
      have m2 : vs[j] * ws[j] ≤ 1000000000 * 1000 := Int.mul_le_mul (by omega) (by omega) (by omega) (by omega)
      have w1 : IntKind.i64.wrap (vs[j] * ws[j]) = vs[j] * ws[j] := wrJ (by omega) (by omega)
      have w2 : IntKind.i64.wrap (wsumP vs ws j + vs[j] * ws[j]) = wsumP vs ws (j + 1) := by rw [← wsumP_succ vs ws hlt hlt2]; exact wrJ (by omega) (by omega)
      simp only [k1, k2, h1, h2, w1, w2, hs, hr, Int.natCast_nonneg, bne_iff_ne, beq_iff_eq, ne_eq, decide_eq_true_eq, Bool.and_eq_true, Bool.or_eq_true, Bool.not_eq_true', decide_eq_false_iff_not, beq_eq_false_iff_ne, bne_eq_false_iff_eq, not_true_eq_false, not_false_eq_true, if_true, if_false, reduceIte, and_true, true_and, and_false, false_and, or_false, false_or, or_true, true_or, List.getD_cons_zero, List.getD_cons_succ, List.length_cons, List.length_nil, List.cons_append, List.nil_append, Nat.reduceAdd, Nat.reduceEqDiff, reduceCtorEq, Bool.not_true, Bool.not_false, Bool.true_and, Bool.and_true, Bool.false_and, Bool.and_false, Bool.or_true, Bool.true_or, Bool.or_false, Bool.false_or, Bool.false_eq_true, Bool.true_eq_false, int_n, bool_n, list_n, Sc.str_s, Int.reduceEq, Int.reduceLT, Int.reduceLE, Int.reduceNe, decide_true, decide_false, decide_not, eq_self, Classical.not_not, List.getElem?_cons_zero, List.getElem?_cons_succ, beq_self_eq_true, bne_self_eq_false]
    · have k1 : ¬ (j : Int) < vs.length := by omega
      have e : j = vs.length := by omega
      subst e
      simp only [k1, o, Int.natCast_nonneg, bne_iff_ne, beq_iff_eq, ne_eq, decide_eq_true_eq, Bool.and_eq_true, Bool.or_eq_true, Bool.not_eq_true', decide_eq_false_iff_not, beq_eq_false_iff_ne, bne_eq_false_iff_eq, not_true_eq_false, not_false_eq_true, if_true, if_false, reduceIte, and_true, true_and, and_false, false_and, or_false, false_or, or_true, true_or, List.getD_cons_zero, List.getD_cons_succ, List.length_cons, List.length_nil, List.cons_append, List.nil_append, Nat.reduceAdd, Nat.reduceEqDiff, reduceCtorEq, Bool.not_true, Bool.not_false, Bool.true_and, Bool.and_true, Bool.false_and, Bool.and_false, Bool.or_true, Bool.true_or, Bool.or_false, Bool.false_or, Bool.false_eq_true, Bool.true_eq_false, int_n, bool_n, list_n, Sc.str_s, Int.reduceEq, Int.reduceLT, Int.reduceLE, Int.reduceNe, decide_true, decide_false, decide_not, eq_self, Classical.not_not, List.getElem?_cons_zero, List.getElem?_cons_succ, beq_self_eq_true, bne_self_eq_false]
  · obtain ⟨i0, i1, i2, i3⟩ := chk4 h0
    have w : IntKind.i64.wrap (a + b) = a + b := wrJ (by omega) (by omega)
    have m1 : 0 ≤ n * (a + b) := Int.mul_nonneg (by omega) (by omega)
    have m2 : n * (a + b) ≤ 20 * 2000000 := Int.mul_le_mul (by omega) (by omega) (by omega) (by omega)
    have w2 : IntKind.i64.wrap (n * (a + b)) = n * (a + b) := wrJ (by omega) (by omega)
    have o := fOf_F (n * (a + b)) 2 ⟨by omega, by omega⟩ ⟨by omega, by omega⟩
    obtain ⟨x, y, z, e⟩ := ofQ_form (n * (a + b)) 2
    rw [e] at o
    rw [if_neg (by decide), if_neg (by decide), if_pos rfl, e]
    simp only [k_dist_Mean_F, tk_dist_Mean, k_dist_Check_f, k_frac_Of_f, k_dist_weight_f, List.length_map, C, Go.Proofs.YtmaocifplceopaaDoor.T.den, Ex.ev, U1.ev, U2.ev, U3.ev, gam, List.map, List.getD_cons_zero, List.getD_cons_succ, List.length, List.cons_append, List.nil_append, if_true, int_n, bool_n, list_n, Sc.str_s, Nat.reduceEqDiff, if_false, List.getElem?_cons_zero, List.getElem?_cons_succ]
    simp only [h0, w, w2, o, Int.natCast_nonneg, bne_iff_ne, beq_iff_eq, ne_eq, decide_eq_true_eq, Bool.and_eq_true, Bool.or_eq_true, Bool.not_eq_true', decide_eq_false_iff_not, beq_eq_false_iff_ne, bne_eq_false_iff_eq, not_true_eq_false, not_false_eq_true, if_true, if_false, reduceIte, and_true, true_and, and_false, false_and, or_false, false_or, or_true, true_or, List.getD_cons_zero, List.getD_cons_succ, List.length_cons, List.length_nil, List.cons_append, List.nil_append, Nat.reduceAdd, Nat.reduceEqDiff, reduceCtorEq, Bool.not_true, Bool.not_false, Bool.true_and, Bool.and_true, Bool.false_and, Bool.and_false, Bool.or_true, Bool.true_or, Bool.or_false, Bool.false_or, Bool.false_eq_true, Bool.true_eq_false, int_n, bool_n, list_n, Sc.str_s, Int.reduceEq, Int.reduceLT, Int.reduceLE, Int.reduceNe, decide_true, decide_false, decide_not, eq_self, Classical.not_not, List.getElem?_cons_zero, List.getElem?_cons_succ, beq_self_eq_true, bne_self_eq_false]
  · have o := fOf_F 1 1 ⟨by omega, by omega⟩ ⟨by omega, by omega⟩
    obtain ⟨x, y, z, e⟩ := ofQ_form 1 1
    rw [e] at o
    rw [if_neg (by decide), if_neg (by decide), if_neg (by decide), if_neg (by decide), e]
    simp only [k_dist_Mean_F, tk_dist_Mean, k_dist_Check_f, k_frac_Of_f, k_dist_weight_f, List.length_map, C, Go.Proofs.YtmaocifplceopaaDoor.T.den, Ex.ev, U1.ev, U2.ev, U3.ev, gam, List.map, List.getD_cons_zero, List.getD_cons_succ, List.length, List.cons_append, List.nil_append, if_true, int_n, bool_n, list_n, Sc.str_s, Nat.reduceEqDiff, if_false, List.getElem?_cons_zero, List.getElem?_cons_succ]
    by_cases a1 : a = 1
    · subst a1
      simp only [h0, o, Int.natCast_nonneg, bne_iff_ne, beq_iff_eq, ne_eq, decide_eq_true_eq, Bool.and_eq_true, Bool.or_eq_true, Bool.not_eq_true', decide_eq_false_iff_not, beq_eq_false_iff_ne, bne_eq_false_iff_eq, not_true_eq_false, not_false_eq_true, if_true, if_false, reduceIte, and_true, true_and, and_false, false_and, or_false, false_or, or_true, true_or, List.getD_cons_zero, List.getD_cons_succ, List.length_cons, List.length_nil, List.cons_append, List.nil_append, Nat.reduceAdd, Nat.reduceEqDiff, reduceCtorEq, Bool.not_true, Bool.not_false, Bool.true_and, Bool.and_true, Bool.false_and, Bool.and_false, Bool.or_true, Bool.true_or, Bool.or_false, Bool.false_or, Bool.false_eq_true, Bool.true_eq_false, int_n, bool_n, list_n, Sc.str_s, Int.reduceEq, Int.reduceLT, Int.reduceLE, Int.reduceNe, decide_true, decide_false, decide_not, eq_self, Classical.not_not, List.getElem?_cons_zero, List.getElem?_cons_succ, beq_self_eq_true, bne_self_eq_false]
    · by_cases b1 : b = 1
      · subst b1
        simp only [h0, a1, o, Int.natCast_nonneg, bne_iff_ne, beq_iff_eq, ne_eq, decide_eq_true_eq, Bool.and_eq_true, Bool.or_eq_true, Bool.not_eq_true', decide_eq_false_iff_not, beq_eq_false_iff_ne, bne_eq_false_iff_eq, not_true_eq_false, not_false_eq_true, if_true, if_false, reduceIte, and_true, true_and, and_false, false_and, or_false, false_or, or_true, true_or, List.getD_cons_zero, List.getD_cons_succ, List.length_cons, List.length_nil, List.cons_append, List.nil_append, Nat.reduceAdd, Nat.reduceEqDiff, reduceCtorEq, Bool.not_true, Bool.not_false, Bool.true_and, Bool.and_true, Bool.false_and, Bool.and_false, Bool.or_true, Bool.true_or, Bool.or_false, Bool.false_or, Bool.false_eq_true, Bool.true_eq_false, int_n, bool_n, list_n, Sc.str_s, Int.reduceEq, Int.reduceLT, Int.reduceLE, Int.reduceNe, decide_true, decide_false, decide_not, eq_self, Classical.not_not, List.getElem?_cons_zero, List.getElem?_cons_succ, beq_self_eq_true, bne_self_eq_false]
      · simp only [h0, a1, b1, Int.natCast_nonneg, bne_iff_ne, beq_iff_eq, ne_eq, decide_eq_true_eq, Bool.and_eq_true, Bool.or_eq_true, Bool.not_eq_true', decide_eq_false_iff_not, beq_eq_false_iff_ne, bne_eq_false_iff_eq, not_true_eq_false, not_false_eq_true, if_true, if_false, reduceIte, and_true, true_and, and_false, false_and, or_false, false_or, or_true, true_or, List.getD_cons_zero, List.getD_cons_succ, List.length_cons, List.length_nil, List.cons_append, List.nil_append, Nat.reduceAdd, Nat.reduceEqDiff, reduceCtorEq, Bool.not_true, Bool.not_false, Bool.true_and, Bool.and_true, Bool.false_and, Bool.and_false, Bool.or_true, Bool.true_or, Bool.or_false, Bool.false_or, Bool.false_eq_true, Bool.true_eq_false, int_n, bool_n, list_n, Sc.str_s, Int.reduceEq, Int.reduceLT, Int.reduceLE, Int.reduceNe, decide_true, decide_false, decide_not, eq_self, Classical.not_not, List.getElem?_cons_zero, List.getElem?_cons_succ, beq_self_eq_true, bne_self_eq_false]
end Go.Proofs.YtmaocifplceopaaDoor
