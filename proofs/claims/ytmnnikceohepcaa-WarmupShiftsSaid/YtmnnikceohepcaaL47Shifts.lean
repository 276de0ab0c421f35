/-
  WarmupShifts: adding a number to all elements, inverting their signs, or reversing those behind the first k does not change the score; it is 0 exactly if these are equal. No condition.
-/
import Derived.Test.YtmnnikceohepcaaRows
import Derived.Test.YtmnnikceohepcaaOpnR
import Derived.Test.YtmnnikceohepcaaA47
import Derived.Test.YtmnnikceohepcaaM47b
namespace Go.Proofs.Ytmnnikceohepcaa
open Go.ChangeShapes Go.WideShapes Go.ChangeAt Go.RowKit
set_option linter.unusedSimpArgs false

theorem sumI_shift (n : Int) : ∀ ys : List Int, sumI (ys.map (· + n)) = sumI ys + ys.length * n
  | [] => by simp [sumI]
  | y :: ys => by simp only [List.map_cons, sumI, sumI_shift n ys, List.length_cons]; grind
theorem sumQ_shift (n : Int) : ∀ ys : List Int, sumQ (ys.map (· + n)) = sumQ ys + 2 * n * sumI ys + ys.length * (n * n)
  | [] => by simp [sumQ, sumI]
  | y :: ys => by simp only [List.map_cons, sumI, sumQ, sumQ_shift n ys, List.length_cons]; grind
theorem varN_shift (n : Int) (ys : List Int) : varN (ys.map (· + n)) = varN ys := by
  unfold varN; rw [sumI_shift, sumQ_shift, List.length_map]; grind
theorem sumI_neg : ∀ ys : List Int, sumI (ys.map (- ·)) = - sumI ys
  | [] => by simp [sumI]
  | y :: ys => by simp only [List.map_cons, sumI, sumI_neg ys]; omega
theorem sumQ_neg : ∀ ys : List Int, sumQ (ys.map (- ·)) = sumQ ys
  | [] => by simp [sumQ]
  | y :: ys => by simp only [List.map_cons, sumQ, sumQ_neg ys]; grind
theorem varN_neg (ys : List Int) : varN (ys.map (- ·)) = varN ys := by
  unfold varN; rw [sumI_neg, sumQ_neg, List.length_map]; grind
theorem sumI_rev : ∀ ys : List Int, sumI ys.reverse = sumI ys
  | [] => rfl
  | y :: ys => by rw [List.reverse_cons, sumI_append, sumI_rev ys]; simp only [sumI]; omega
theorem sumQ_rev : ∀ ys : List Int, sumQ ys.reverse = sumQ ys
  | [] => rfl
  | y :: ys => by rw [List.reverse_cons, sumQ_append, sumQ_rev ys]; simp only [sumQ]; omega
theorem varN_rev (ys : List Int) : varN ys.reverse = varN ys := by
  unfold varN; rw [sumI_rev, sumQ_rev, List.length_reverse]
theorem score_eq {xs zs : List Int} {K : Nat} (hl : zs.length = xs.length) (h1 : ∀ z ∈ zs, -10000 ≤ z ∧ z ≤ 10000) (hv : varN (zs.drop K) = varN (xs.drop K)) (h2 : xs.length ≤ 1000) (hK : K < xs.length) :
    scoreL zs K = [.i (scQ xs K).num, .i (scQ xs K).den, .b true] := by
  have e : scQ zs K = scQ xs K := by
    unfold scQ mq; rw [hv, List.length_drop, List.length_drop, hl]
  rw [scoreL_in ⟨by omega, List.all_eq_true.2 fun z hz => val4_true.2 (h1 z hz), by omega, by omega⟩, Int.toNat_natCast, e]
def eqB (xs : List Int) (x0 : Int) (K k : Nat) : Bool := ((xs.take k).drop K).all fun y => decide (y = x0)
theorem eqB_small {xs : List Int} {x0 : Int} {K k : Nat} (h : k ≤ K) : eqB xs x0 K k = true := by
  unfold eqB; rw [List.drop_eq_nil_of_le (by rw [List.length_take]; omega)]; rfl
theorem eqB_succ {xs : List Int} {x0 : Int} {K k : Nat} (h : k < xs.length) (hk : K ≤ k) : eqB xs x0 K (k + 1) = (eqB xs x0 K k && decide (xs[k] = x0)) := by
  unfold eqB
  rw [List.take_add_one, List.getElem?_eq_getElem h, List.drop_append_of_le_length (by rw [List.length_take]; omega), List.all_append]
  simp
theorem map_take_snoc {xs : List Int} {f : Int → Int} {k : Nat} (h : k < xs.length) : ((xs.take (k + 1)).map f).map Sc.i = ((xs.take k).map f).map Sc.i ++ [Sc.i (f xs[k])] := by
  rw [List.take_add_one, List.getElem?_eq_getElem h, List.map_append, List.map_append]; rfl
theorem rev_snoc {xs : List Int} {j : Nat} (h : j < xs.length) : (xs.drop (xs.length - (j + 1))).reverse = (xs.drop (xs.length - j)).reverse ++ [xs[xs.length - 1 - j]] := by
  have e : xs.length - (j + 1) = xs.length - 1 - j := by omega
  rw [e, List.drop_eq_getElem_cons (by omega), List.reverse_cons]
  have e2 : xs.length - 1 - j + 1 = xs.length - j := by omega
  rw [e2]
theorem shifts_F (xs : List Int) (k v : Int) (hv : -32768 ≤ v ∧ v ≤ 32767) : k_simulatorlaw47_WarmupShifts.F [.l (xs.map .i), .i k, .i v] = some [.b true] := by
  simp only [k_simulatorlaw47_WarmupShifts_F, tk_simulatorlaw47_WarmupShifts, k_warmup_Score_f, k_simulatorlaw47_awake_f, awake47, List.length_map, Go.Proofs.Ytmnnikceohepcaa.T.den, Ex.ev, U1.ev, U2.ev, U3.ev, gam, List.map, List.getD_cons_zero, List.getD_cons_succ, List.length, List.cons_append, List.nil_append, if_true, Sc.int_i, Sc.bool_b, Sc.list_l, Sc.str_s, Nat.reduceEqDiff, if_false, List.getElem?_cons_zero, List.getElem?_cons_succ]
  by_cases h1 : (200 : Int) < xs.length
  · simp only [h1, Int.natCast_nonneg, bne_iff_ne, beq_iff_eq, ne_eq, decide_eq_true_eq, Bool.and_eq_true, Bool.or_eq_true, Bool.not_eq_true', decide_eq_false_iff_not, beq_eq_false_iff_ne, bne_eq_false_iff_eq, not_true_eq_false, not_false_eq_true, if_true, if_false, reduceIte, and_true, true_and, and_false, false_and, or_false, false_or, or_true, true_or, List.getD_cons_zero, List.getD_cons_succ, List.length_cons, List.length_nil, List.cons_append, List.nil_append, Nat.reduceAdd, Nat.reduceEqDiff, reduceCtorEq, Bool.not_true, Bool.not_false, Bool.true_and, Bool.and_true, Bool.false_and, Bool.and_false, Bool.or_true, Bool.true_or, Bool.or_false, Bool.false_or, Bool.false_eq_true, Bool.true_eq_false, Sc.int_i, Sc.bool_b, Sc.list_l, Sc.str_s, Int.reduceEq, Int.reduceLT, Int.reduceLE, Int.reduceNe, decide_true, decide_false, decide_not, eq_self, Classical.not_not, List.getElem?_cons_zero, List.getElem?_cons_succ, beq_self_eq_true, bne_self_eq_false]
  by_cases h2 : k < 0
  · simp only [h1, h2, Int.natCast_nonneg, bne_iff_ne, beq_iff_eq, ne_eq, decide_eq_true_eq, Bool.and_eq_true, Bool.or_eq_true, Bool.not_eq_true', decide_eq_false_iff_not, beq_eq_false_iff_ne, bne_eq_false_iff_eq, not_true_eq_false, not_false_eq_true, if_true, if_false, reduceIte, and_true, true_and, and_false, false_and, or_false, false_or, or_true, true_or, List.getD_cons_zero, List.getD_cons_succ, List.length_cons, List.length_nil, List.cons_append, List.nil_append, Nat.reduceAdd, Nat.reduceEqDiff, reduceCtorEq, Bool.not_true, Bool.not_false, Bool.true_and, Bool.and_true, Bool.false_and, Bool.and_false, Bool.or_true, Bool.true_or, Bool.or_false, Bool.false_or, Bool.false_eq_true, Bool.true_eq_false, Sc.int_i, Sc.bool_b, Sc.list_l, Sc.str_s, Int.reduceEq, Int.reduceLT, Int.reduceLE, Int.reduceNe, decide_true, decide_false, decide_not, eq_self, Classical.not_not, List.getElem?_cons_zero, List.getElem?_cons_succ, beq_self_eq_true, bne_self_eq_false]
  by_cases h3 : (xs.length : Int) ≤ k
  · simp only [h1, h2, h3, Int.natCast_nonneg, bne_iff_ne, beq_iff_eq, ne_eq, decide_eq_true_eq, Bool.and_eq_true, Bool.or_eq_true, Bool.not_eq_true', decide_eq_false_iff_not, beq_eq_false_iff_ne, bne_eq_false_iff_eq, not_true_eq_false, not_false_eq_true, if_true, if_false, reduceIte, and_true, true_and, and_false, false_and, or_false, false_or, or_true, true_or, List.getD_cons_zero, List.getD_cons_succ, List.length_cons, List.length_nil, List.cons_append, List.nil_append, Nat.reduceAdd, Nat.reduceEqDiff, reduceCtorEq, Bool.not_true, Bool.not_false, Bool.true_and, Bool.and_true, Bool.false_and, Bool.and_false, Bool.or_true, Bool.true_or, Bool.or_false, Bool.false_or, Bool.false_eq_true, Bool.true_eq_false, Sc.int_i, Sc.bool_b, Sc.list_l, Sc.str_s, Int.reduceEq, Int.reduceLT, Int.reduceLE, Int.reduceNe, decide_true, decide_false, decide_not, eq_self, Classical.not_not, List.getElem?_cons_zero, List.getElem?_cons_succ, beq_self_eq_true, bne_self_eq_false]
  obtain ⟨K, rfl⟩ : ∃ K : Nat, k = K := ⟨k.toNat, by omega⟩
  have hK : K < xs.length := by omega
  have hw : IntKind.i64.wrap v = v := wrI (by omega) (by omega)
  have hn1 : -5001 < Int.tmod v 5001 := by
    have := Int.lt_tmod_of_pos v (show (0 : Int) < 5001 by omega); omega
  have hn2 : Int.tmod v 5001 < 5001 := Int.tmod_lt_of_pos v (by omega)
  simp only [h1, h2, h3, hw, Int.natCast_nonneg, bne_iff_ne, beq_iff_eq, ne_eq, decide_eq_true_eq, Bool.and_eq_true, Bool.or_eq_true, Bool.not_eq_true', decide_eq_false_iff_not, beq_eq_false_iff_ne, bne_eq_false_iff_eq, not_true_eq_false, not_false_eq_true, if_true, if_false, reduceIte, and_true, true_and, and_false, false_and, or_false, false_or, or_true, true_or, List.getD_cons_zero, List.getD_cons_succ, List.length_cons, List.length_nil, List.cons_append, List.nil_append, Nat.reduceAdd, Nat.reduceEqDiff, reduceCtorEq, Bool.not_true, Bool.not_false, Bool.true_and, Bool.and_true, Bool.false_and, Bool.and_false, Bool.or_true, Bool.true_or, Bool.or_false, Bool.false_or, Bool.false_eq_true, Bool.true_eq_false, Sc.int_i, Sc.bool_b, Sc.list_l, Sc.str_s, Int.reduceEq, Int.reduceLT, Int.reduceLE, Int.reduceNe, decide_true, decide_false, decide_not, eq_self, Classical.not_not, List.getElem?_cons_zero, List.getElem?_cons_succ, beq_self_eq_true, bne_self_eq_false]
  generalize Int.tmod v 5001 = n at *
  have conv : ([.l [], .l [], .b true, .i 0] : List Sc) = [.l (((xs.take 0).map (· + n)).map .i), .l (((xs.take 0).map (- ·)).map .i), .b (eqB xs xs[K] K 0), .i ((0 : Nat) : Int)] := by
    rw [eqB_small (Nat.zero_le _)]; simp
  rw [conv]
  refine loop_rounds (S := Nat) (fun k => [.l (((xs.take k).map (· + n)).map .i), .l (((xs.take k).map (- ·)).map .i), .b (eqB xs xs[K] K k), .i (k : Int)]) (fun _ => some [.b true]) (fun k => k ≤ xs.length ∧ ∀ x ∈ xs.take k, -5000 ≤ x ∧ x ≤ 5000) (fun k => xs.length - k) ?_ 0 ⟨by omega, by simp⟩ (by omega)
  rintro k rec ⟨hk, hall⟩ hrec
  have hK0 : (0 : Int) ≤ K := by omega
  have hKl : (K : Int) < xs.length := by omega
  by_cases h : k < xs.length
  · have hkl : (k : Int) < xs.length := by omega
    have hi := idx_map Sc.i xs k h
    have hiK := idx_map Sc.i xs K hK
    by_cases c1 : xs[k] < -5000
    · simp only [hkl, hi, c1, Int.natCast_nonneg, bne_iff_ne, beq_iff_eq, ne_eq, decide_eq_true_eq, Bool.and_eq_true, Bool.or_eq_true, Bool.not_eq_true', decide_eq_false_iff_not, beq_eq_false_iff_ne, bne_eq_false_iff_eq, not_true_eq_false, not_false_eq_true, if_true, if_false, reduceIte, and_true, true_and, and_false, false_and, or_false, false_or, or_true, true_or, List.getD_cons_zero, List.getD_cons_succ, List.length_cons, List.length_nil, List.cons_append, List.nil_append, Nat.reduceAdd, Nat.reduceEqDiff, reduceCtorEq, Bool.not_true, Bool.not_false, Bool.true_and, Bool.and_true, Bool.false_and, Bool.and_false, Bool.or_true, Bool.true_or, Bool.or_false, Bool.false_or, Bool.false_eq_true, Bool.true_eq_false, Sc.int_i, Sc.bool_b, Sc.list_l, Sc.str_s, Int.reduceEq, Int.reduceLT, Int.reduceLE, Int.reduceNe, decide_true, decide_false, decide_not, eq_self, Classical.not_not, List.getElem?_cons_zero, List.getElem?_cons_succ, beq_self_eq_true, bne_self_eq_false]
    by_cases c2 : 5000 < xs[k]
    · simp only [hkl, hi, c1, c2, Int.natCast_nonneg, bne_iff_ne, beq_iff_eq, ne_eq, decide_eq_true_eq, Bool.and_eq_true, Bool.or_eq_true, Bool.not_eq_true', decide_eq_false_iff_not, beq_eq_false_iff_ne, bne_eq_false_iff_eq, not_true_eq_false, not_false_eq_true, if_true, if_false, reduceIte, and_true, true_and, and_false, false_and, or_false, false_or, or_true, true_or, List.getD_cons_zero, List.getD_cons_succ, List.length_cons, List.length_nil, List.cons_append, List.nil_append, Nat.reduceAdd, Nat.reduceEqDiff, reduceCtorEq, Bool.not_true, Bool.not_false, Bool.true_and, Bool.and_true, Bool.false_and, Bool.and_false, Bool.or_true, Bool.true_or, Bool.or_false, Bool.false_or, Bool.false_eq_true, Bool.true_eq_false, Sc.int_i, Sc.bool_b, Sc.list_l, Sc.str_s, Int.reduceEq, Int.reduceLT, Int.reduceLE, Int.reduceNe, decide_true, decide_false, decide_not, eq_self, Classical.not_not, List.getElem?_cons_zero, List.getElem?_cons_succ, beq_self_eq_true, bne_self_eq_false]
    have w1 : IntKind.i64.wrap (xs[k] + n) = xs[k] + n := wrI (by omega) (by omega)
    have w2 : IntKind.i64.wrap (0 - xs[k]) = - xs[k] := by rw [wrI (by omega) (by omega)]; omega
    have w3 := succ_w (n := xs.length) h (by omega)
    have l1 : (((((xs.take k).map (· + n)).map Sc.i) ++ [Sc.i (xs[k] + n)]).length : Int) ≤ 17592186044416 := by simp; omega
    have l2 : (((((xs.take k).map (- ·)).map Sc.i) ++ [Sc.i (- xs[k])]).length : Int) ≤ 17592186044416 := by simp; omega
    have hr := hrec (k + 1) ⟨by omega, fun x hx => by
      rw [List.take_add_one, List.getElem?_eq_getElem h] at hx
      rcases List.mem_append.1 hx with hx | hx
      · exact hall x hx
      · simp at hx; omega⟩ (by omega)
    rw [map_take_snoc h, map_take_snoc h] at hr
    generalize ((xs.take k).map (· + n)).map Sc.i = A at *
    generalize ((xs.take k).map (- ·)).map Sc.i = B at *
    by_cases c3 : k < K
    · have c3' : (k : Int) < K := by omega
      rw [eqB_small (by omega)] at hr ⊢
      simp only [hkl, hi, c1, c2, c3', w1, w2, w3, l1, l2, hr, Int.natCast_nonneg, bne_iff_ne, beq_iff_eq, ne_eq, decide_eq_true_eq, Bool.and_eq_true, Bool.or_eq_true, Bool.not_eq_true', decide_eq_false_iff_not, beq_eq_false_iff_ne, bne_eq_false_iff_eq, not_true_eq_false, not_false_eq_true, if_true, if_false, reduceIte, and_true, true_and, and_false, false_and, or_false, false_or, or_true, true_or, List.getD_cons_zero, List.getD_cons_succ, List.length_cons, List.length_nil, List.cons_append, List.nil_append, Nat.reduceAdd, Nat.reduceEqDiff, reduceCtorEq, Bool.not_true, Bool.not_false, Bool.true_and, Bool.and_true, Bool.false_and, Bool.and_false, Bool.or_true, Bool.true_or, Bool.or_false, Bool.false_or, Bool.false_eq_true, Bool.true_eq_false, Sc.int_i, Sc.bool_b, Sc.list_l, Sc.str_s, Int.reduceEq, Int.reduceLT, Int.reduceLE, Int.reduceNe, decide_true, decide_false, decide_not, eq_self, Classical.not_not, List.getElem?_cons_zero, List.getElem?_cons_succ, beq_self_eq_true, bne_self_eq_false]
    · have c3' : ¬ (k : Int) < K := by omega
      rw [eqB_succ h (by omega)] at hr
      cases he : eqB xs xs[K] K k
      · rw [he, Bool.false_and] at hr
        simp only [hkl, hi, c1, c2, c3', w1, w2, w3, l1, l2, hr, Int.natCast_nonneg, bne_iff_ne, beq_iff_eq, ne_eq, decide_eq_true_eq, Bool.and_eq_true, Bool.or_eq_true, Bool.not_eq_true', decide_eq_false_iff_not, beq_eq_false_iff_ne, bne_eq_false_iff_eq, not_true_eq_false, not_false_eq_true, if_true, if_false, reduceIte, and_true, true_and, and_false, false_and, or_false, false_or, or_true, true_or, List.getD_cons_zero, List.getD_cons_succ, List.length_cons, List.length_nil, List.cons_append, List.nil_append, Nat.reduceAdd, Nat.reduceEqDiff, reduceCtorEq, Bool.not_true, Bool.not_false, Bool.true_and, Bool.and_true, Bool.false_and, Bool.and_false, Bool.or_true, Bool.true_or, Bool.or_false, Bool.false_or, Bool.false_eq_true, Bool.true_eq_false, Sc.int_i, Sc.bool_b, Sc.list_l, Sc.str_s, Int.reduceEq, Int.reduceLT, Int.reduceLE, Int.reduceNe, decide_true, decide_false, decide_not, eq_self, Classical.not_not, List.getElem?_cons_zero, List.getElem?_cons_succ, beq_self_eq_true, bne_self_eq_false]
      · rw [he, Bool.true_and] at hr
        have hd : (xs[k] == xs[K]) = decide (xs[k] = xs[K]) := rfl
        simp only [hkl, hi, hiK, c1, c2, c3', w1, w2, w3, l1, l2, hK0, hKl, hr, hd, decide_true, decide_false, if_true, if_false, Int.natCast_nonneg, Sc.int_i, Sc.bool_b, Sc.list_l, reduceIte, Bool.false_eq_true, List.getD_cons_zero, List.getD_cons_succ, List.cons_append, List.nil_append]
  · have ek : k = xs.length := by omega
    subst ek
    rw [List.take_length] at hall
    rw [List.take_length]
    have e1 : K ≤ xs.length := by omega
    have e1' : (K : Int) ≤ xs.length := by omega
    have w0 : IntKind.i64.wrap (0 + IntKind.i64.wrap ((K : Int) - 0)) = K := by rw [wrI (z := (K : Int) - 0) (by omega) (by omega), wrI (by omega) (by omega)]; omega
    have w1 : IntKind.i64.wrap ((xs.length : Int) - 1) = ((xs.length : Int) - 1 - (0 : Nat)) := by rw [wrI (by omega) (by omega)]; omega
    have ll : ((((xs.map Sc.i).take (K : Int).toNat).drop (0 : Int).toNat).length : Int) ≤ 17592186044416 := by simp; omega
    have lz : ((xs.map Sc.i).take (K : Int).toNat).drop (0 : Int).toNat = (xs.take K ++ (xs.drop (xs.length - 0)).reverse).map Sc.i := by simp
    simp only [Int.lt_irrefl, w0, w1, ll, e1', hK0, Int.natCast_nonneg, bne_iff_ne, beq_iff_eq, ne_eq, decide_eq_true_eq, Bool.and_eq_true, Bool.or_eq_true, Bool.not_eq_true', decide_eq_false_iff_not, beq_eq_false_iff_ne, bne_eq_false_iff_eq, not_true_eq_false, not_false_eq_true, if_true, if_false, reduceIte, and_true, true_and, and_false, false_and, or_false, false_or, or_true, true_or, List.getD_cons_zero, List.getD_cons_succ, List.length_cons, List.length_nil, List.cons_append, List.nil_append, Nat.reduceAdd, Nat.reduceEqDiff, reduceCtorEq, Bool.not_true, Bool.not_false, Bool.true_and, Bool.and_true, Bool.false_and, Bool.and_false, Bool.or_true, Bool.true_or, Bool.or_false, Bool.false_or, Bool.false_eq_true, Bool.true_eq_false, Sc.int_i, Sc.bool_b, Sc.list_l, Sc.str_s, Int.reduceEq, Int.reduceLT, Int.reduceLE, Int.reduceNe, decide_true, decide_false, decide_not, eq_self, Classical.not_not, List.getElem?_cons_zero, List.getElem?_cons_succ, beq_self_eq_true, bne_self_eq_false]
    rw [lz]
    refine loop_rounds (S := Nat) (fun j => [.l ((xs.take K ++ (xs.drop (xs.length - j)).reverse).map Sc.i), .i ((xs.length : Int) - 1 - (j : Nat))]) (fun _ => some [.b true]) (fun j => j ≤ xs.length - K) (fun j => xs.length - K - j) ?_ 0 (by omega) (by omega)
    intro j rec2 hj hrec2
    by_cases hjl : j < xs.length - K
    · have hr := hrec2 (j + 1) (by omega) (by omega)
      have b1 : (K : Int) ≤ (xs.length : Int) - 1 - (j : Nat) := by omega
      have b2 : (0 : Int) ≤ (xs.length : Int) - 1 - (j : Nat) := by omega
      have b3 : (xs.length : Int) - 1 - (j : Nat) < xs.length := by omega
      have hi := idx_map Sc.i xs (xs.length - 1 - j) (by omega)
      have ec : ((xs.length - 1 - j : Nat) : Int) = (xs.length : Int) - 1 - (j : Nat) := by omega
      rw [ec] at hi
      have l3 : ((((xs.take K ++ (xs.drop (xs.length - j)).reverse).map Sc.i) ++ [Sc.i xs[xs.length - 1 - j]]).length : Int) ≤ 17592186044416 := by simp; omega
      have w4 : IntKind.i64.wrap ((xs.length : Int) - 1 - (j : Nat) - 1) = (xs.length : Int) - 1 - ((j + 1 : Nat) : Int) := by rw [wrI (by omega) (by omega)]; omega
      rw [rev_snoc (by omega), ← List.append_assoc, List.map_append (l₁ := xs.take K ++ _)] at hr
      simp only [List.map_cons, List.map_nil] at hr
      simp only [b1, b2, b3, hi, l3, w4, hr, Int.natCast_nonneg, bne_iff_ne, beq_iff_eq, ne_eq, decide_eq_true_eq, Bool.and_eq_true, Bool.or_eq_true, Bool.not_eq_true', decide_eq_false_iff_not, beq_eq_false_iff_ne, bne_eq_false_iff_eq, not_true_eq_false, not_false_eq_true, if_true, if_false, reduceIte, and_true, true_and, and_false, false_and, or_false, false_or, or_true, true_or, List.getD_cons_zero, List.getD_cons_succ, List.length_cons, List.length_nil, List.cons_append, List.nil_append, Nat.reduceAdd, Nat.reduceEqDiff, reduceCtorEq, Bool.not_true, Bool.not_false, Bool.true_and, Bool.and_true, Bool.false_and, Bool.and_false, Bool.or_true, Bool.true_or, Bool.or_false, Bool.false_or, Bool.false_eq_true, Bool.true_eq_false, Sc.int_i, Sc.bool_b, Sc.list_l, Sc.str_s, Int.reduceEq, Int.reduceLT, Int.reduceLE, Int.reduceNe, decide_true, decide_false, decide_not, eq_self, Classical.not_not, List.getElem?_cons_zero, List.getElem?_cons_succ, beq_self_eq_true, bne_self_eq_false]
    · have ej : j = xs.length - K := by omega
      subst ej
      have b1 : ¬ (K : Int) ≤ (xs.length : Int) - 1 - ((xs.length - K : Nat) : Int) := by omega
      have ed : xs.length - (xs.length - K) = K := by omega
      rw [ed]
      have s1 := score_F xs K
      have s2 := score_F (xs.map (· + n)) K
      have s3 := score_F (xs.map (- ·)) K
      have s4 := score_F (xs.take K ++ (xs.drop K).reverse) K
      rw [score_eq rfl (fun z hz => by have := hall z hz; omega) rfl (by omega) hK] at s1
      rw [score_eq (xs := xs) (by simp) (fun z hz => by obtain ⟨y, hy, rfl⟩ := List.mem_map.1 hz; have := hall y hy; omega) (by rw [← List.map_drop, varN_shift]) (by omega) hK] at s2
      rw [score_eq (xs := xs) (by simp) (fun z hz => by obtain ⟨y, hy, rfl⟩ := List.mem_map.1 hz; have := hall y hy; omega) (by rw [← List.map_drop, varN_neg]) (by omega) hK] at s3
      rw [score_eq (xs := xs) (by simp; omega) (fun z hz => by
        have hz' : z ∈ xs := by
          rcases List.mem_append.1 hz with h | h
          · exact List.mem_of_mem_take h
          · exact List.mem_of_mem_drop (List.mem_reverse.1 h)
        have := hall z hz'; omega) (by
          have : (xs.take K ++ (xs.drop K).reverse).drop K = (xs.drop K).reverse := by
            rw [List.drop_append_of_le_length (by rw [List.length_take]; omega), List.drop_eq_nil_of_le (by rw [List.length_take]; omega), List.nil_append]
          rw [this, varN_rev]) (by omega) hK] at s4
      have q1 : mq (xs.drop K) ≠ 0 := by
        have hm : ((xs.drop K).length : Int) ≠ 0 := by rw [List.length_drop]; omega
        exact Int.mul_ne_zero (Int.mul_ne_zero hm hm) hm
      have q2 : 0 < mq (xs.drop K) := by
        have hm : 0 < ((xs.drop K).length : Int) := by rw [List.length_drop]; omega
        exact Int.mul_pos (Int.mul_pos hm hm) hm
      have z1 : (scQ xs K).num = 0 ↔ varN (xs.drop K) = 0 := divInt_num_zero q1
      have z2 : 0 ≤ (scQ xs K).num := divInt_num_nonneg q2 (varN_nonneg _)
      have z3 : (decide ((scQ xs K).num = 0) == eqB xs xs[K] K xs.length) = true := by
        rw [beq_iff_eq]
        unfold eqB
        rw [List.take_length, Bool.eq_iff_iff, decide_eq_true_eq, z1, List.drop_eq_getElem_cons hK, varN_zero, List.all_cons]
        generalize List.drop (K + 1) xs = zs
        simp
      have z3' : ((scQ xs K).num == 0) = decide ((scQ xs K).num = 0) := rfl
      generalize eqB xs xs[K] K xs.length = eb at *
      generalize (scQ xs K).num = a at *
      generalize ((scQ xs K).den : Int) = b at *
      rw [← z3', beq_iff_eq] at z3
      simp only [b1, s1, s2, s3, s4, z2, z3, decide_true, decide_false, if_true, if_false, Int.natCast_nonneg, Sc.int_i, Sc.bool_b, Sc.list_l, reduceIte, Bool.false_eq_true, List.getD_cons_zero, List.getD_cons_succ, List.cons_append, List.nil_append, beq_self_eq_true, Bool.and_self, and_self, beq_iff_eq, eq_self, List.length_cons, List.length_nil, Nat.reduceAdd]

namespace warmupShifts
theorem own : ownKnob Try.prog.godebug = none := by kernel_rfl
theorem laidOut : laidOutB Try.prog = true := by kernel_rfl
set_option maxRecDepth 100000 in
theorem lifted (os : Os) (started : os.Started) (H : Type) (enc : TypeId × Value → H) :
    ReturnsInHanded {} Try.checked os 4 .any (Rows.warmupShiftsSpec.pre6 enc Try.prog Try.f4 Rows.warmupShiftsRow.domain false) (Rows.warmupShiftsSpec.post enc Try.prog Try.f4 false true false false) := by
  refine returnsInHanded_of_change (C := Try.checked) own started (by kernel_rfl) Try.func4
    (ChangeSpec.witness6 (enc := enc) (C := Try.checked) false ⟨#[], #[.slice none 0 0, .int .i64 0, .int .i16 0], []⟩ 8 (by kernel_rfl) (by kernel_rfl) (by kernel_rfl) (by kernel_rfl)) ?_
  intro W base args ds gs before hval0 hW hcnd _
  have hval : ∀ (j : Nat) t v, Try.f4.params[j]? = some t → args[j]? = some v → Value.okWide Try.prog W .any base t v := hval0
  have hW' := hW
  obtain ⟨p, q, hA0, hV, rfl, hfz, hnd⟩ := hW
  have hA : DataW.TrodAll enc Try.prog W 0 (fun _ => true) true Try.f4.params.toList args.toList ds p := hA0
  rw [Try.params4] at hA hval
  obtain ⟨v0, vs0, d0, ds0, p0, q0, hargs, rfl, rfl, h0, r0⟩ := trodAll_cons hA
  obtain ⟨v1, vs1, d1, ds1, p1, q1, rfl, rfl, rfl, h1, r1⟩ := trodAll_cons r0
  obtain ⟨v2, vs2, d2, ds2, p2, q2, rfl, rfl, rfl, h2, r2⟩ := trodAll_cons r1
  obtain ⟨rfl, rfl, rfl⟩ := trodAll_nil r2
  obtain rfl : args = #[v0, v1, v2] := by cases args; simp_all
  obtain ⟨rfl, rfl⟩ := trodVars_none hV
  have k0 := h0
  have lt0 : ∀ x ∈ p0, x.block < W.heap.size := by obtain ⟨m, hm⟩ := k0; exact DataW.trod_lt m _ _ _ hm
  have ok0 := hval 0 22 v0 rfl rfl
  have k1 := h1
  have lt1 : ∀ x ∈ p1, x.block < W.heap.size := by obtain ⟨m, hm⟩ := k1; exact DataW.trod_lt m _ _ _ hm
  have ok1 := hval 1 3 v1 rfl rfl
  have k2 := h2
  have lt2 : ∀ x ∈ p2, x.block < W.heap.size := by obtain ⟨m, hm⟩ := k2; exact DataW.trod_lt m _ _ _ hm
  have ok2 := hval 2 29 v2 rfl rfl
  obtain ⟨xs, _, _, g0⟩ := open_ints (k := .i64) Try.underlying22 (by kernel_rfl) (by kernel_rfl) ok0 h0
  obtain ⟨y1, ⟨n, rfl, _⟩, g1⟩ := open_a (k := .int .i64) (by kernel_rfl) ok1 h1
  obtain ⟨y2, ⟨m, rfl, hw⟩, g2⟩ := open_a (k := .int .i16) (by kernel_rfl) ok2 h2
  clear hA0 hval0
  refine (law_call k_simulatorlaw47_WarmupShifts (Try.call4 _ _) (vs := [v0, v1, v2]) (args3 g0 g1 g2) (shifts_F xs n m (wf_i16 hw)) rfl).mono fun e W' ⟨he, bel⟩ => ?_
  subst he
  exact ⟨_, rfl, _, _, _, [], _, [], hW', trodAll_mk1 (shut_bool Try.underlying4 _), (trodAll_cons_mk (Below.trod laidOut (by kernel_rfl) (of_decide_eq_true (by kernel_rfl)) k0 bel lt0) (trodAll_cons_mk (Below.trod laidOut (by kernel_rfl) (of_decide_eq_true (by kernel_rfl)) k1 bel lt1) (trodAll_cons_mk (Below.trod laidOut (by kernel_rfl) (of_decide_eq_true (by kernel_rfl)) k2 bel lt2) trodAll_mk0))), rfl, bel.frame _, fun h => by cases h⟩
theorem over : Rows.warmupShiftsRow.holds Try.pinned (OpenSpec.ofChange Rows.warmupShiftsSpec) :=
  OpenClaim.holds_of_wide 4 Try.f4 rfl rfl rfl rfl rfl rfl rfl ⟨rfl, rfl, rfl, rfl, rfl⟩ rfl rfl rfl rfl rfl (by kernel_rfl) Try.func4 (by kernel_rfl)
    (of_decide_eq_true (by kernel_rfl)) (by unfold Func.isWrapper; first | (rw [if_pos (by decide +kernel)]; kernel_rfl) | (rw [if_neg (by decide +kernel)]; exact ⟨rfl, rfl⟩))
    (fun os started H enc _ => lifted os started H enc)
theorem proved : Rows.WarmupShiftsSaid := over
end warmupShifts

end Go.Proofs.Ytmnnikceohepcaa
