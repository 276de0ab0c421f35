/-
  TallyTwo: n observations x and m observations y have the mean (n x + m y) / (n + m), and the variance n m (x - y)^2 / ((n + m) (n + m - 1)). No condition.
-/
import Derived.Test.YtahchcpimanjfaaRows
import Derived.Test.YtahchcpimanjfaaOpn
import Derived.Test.YtahchcpimanjfaaA27
import Derived.Test.YtahchcpimanjfaaM27g
namespace Go.Proofs.Ytahchcpimanjfaa
open Go.ChangeShapes Go.WideShapes Go.ChangeAt Go.RowKit
set_option linter.unusedSimpArgs false

theorem two_F (x y : Int) (n m : Nat) (hn : n < 256) (hm : m < 256) : k_simulatorlaw27_TallyTwo.F [.i x, .i y, .i n, .i m] = some [.b true] := by
  simp only [k_simulatorlaw27_TallyTwo_F, tk_simulatorlaw27_TallyTwo, k_tally_Of_f, k_tally_Mean_f, k_tally_Variance_f, k_simulatorref02_Of_f, k_simulatorlaw27_awake_f, awake27, Go.Proofs.Ytahchcpimanjfaa.T.den, Ex.ev, U1.ev, U2.ev, U3.ev, gam, List.map, List.getD_cons_zero, List.getD_cons_succ, List.length, List.cons_append, List.nil_append, if_true, Sc.int_i, Sc.bool_b, Sc.list_l, Sc.str_s, Nat.reduceEqDiff, if_false, List.getElem?_cons_zero, List.getElem?_cons_succ]
  have cn : IntKind.i64.wrap (n : Int) = n := wr64 (by omega) (by omega)
  have cm : IntKind.i64.wrap (m : Int) = m := wr64 (by omega) (by omega)
  have cs : IntKind.i64.wrap ((n : Int) + m) = (n : Int) + m := wr64 (by omega) (by omega)
  simp only [cn, cm, cs]
  by_cases h1 : x < -1000000; · simp only [h1, bne_iff_ne, beq_iff_eq, ne_eq, decide_eq_true_eq, Bool.and_eq_true, Bool.or_eq_true, Bool.not_eq_true', decide_eq_false_iff_not, beq_eq_false_iff_ne, bne_eq_false_iff_eq, not_true_eq_false, not_false_eq_true, if_true, if_false, reduceIte, and_true, true_and, and_false, false_and, or_false, false_or, or_true, true_or, List.getD_cons_zero, List.getD_cons_succ, List.length_cons, List.length_nil, List.cons_append, List.nil_append, Nat.reduceAdd, Nat.reduceEqDiff, reduceCtorEq, Bool.not_true, Bool.not_false, Bool.true_and, Bool.and_true, Bool.false_and, Bool.and_false, Bool.or_true, Bool.true_or, Bool.or_false, Bool.false_or, Bool.false_eq_true, Bool.true_eq_false, Sc.int_i, Sc.bool_b, Sc.list_l, Sc.str_s, Int.reduceEq, Int.reduceLT, Int.reduceLE, Int.reduceNe, decide_true, decide_false, decide_not, Classical.not_not, List.getElem?_cons_zero, List.getElem?_cons_succ, beq_self_eq_true, bne_self_eq_false]
  by_cases h2 : 1000000 < x; · simp only [h1, h2, bne_iff_ne, beq_iff_eq, ne_eq, decide_eq_true_eq, Bool.and_eq_true, Bool.or_eq_true, Bool.not_eq_true', decide_eq_false_iff_not, beq_eq_false_iff_ne, bne_eq_false_iff_eq, not_true_eq_false, not_false_eq_true, if_true, if_false, reduceIte, and_true, true_and, and_false, false_and, or_false, false_or, or_true, true_or, List.getD_cons_zero, List.getD_cons_succ, List.length_cons, List.length_nil, List.cons_append, List.nil_append, Nat.reduceAdd, Nat.reduceEqDiff, reduceCtorEq, Bool.not_true, Bool.not_false, Bool.true_and, Bool.and_true, Bool.false_and, Bool.and_false, Bool.or_true, Bool.true_or, Bool.or_false, Bool.false_or, Bool.false_eq_true, Bool.true_eq_false, Sc.int_i, Sc.bool_b, Sc.list_l, Sc.str_s, Int.reduceEq, Int.reduceLT, Int.reduceLE, Int.reduceNe, decide_true, decide_false, decide_not, Classical.not_not, List.getElem?_cons_zero, List.getElem?_cons_succ, beq_self_eq_true, bne_self_eq_false]
  by_cases h3 : y < -1000000; · simp only [h1, h2, h3, bne_iff_ne, beq_iff_eq, ne_eq, decide_eq_true_eq, Bool.and_eq_true, Bool.or_eq_true, Bool.not_eq_true', decide_eq_false_iff_not, beq_eq_false_iff_ne, bne_eq_false_iff_eq, not_true_eq_false, not_false_eq_true, if_true, if_false, reduceIte, and_true, true_and, and_false, false_and, or_false, false_or, or_true, true_or, List.getD_cons_zero, List.getD_cons_succ, List.length_cons, List.length_nil, List.cons_append, List.nil_append, Nat.reduceAdd, Nat.reduceEqDiff, reduceCtorEq, Bool.not_true, Bool.not_false, Bool.true_and, Bool.and_true, Bool.false_and, Bool.and_false, Bool.or_true, Bool.true_or, Bool.or_false, Bool.false_or, Bool.false_eq_true, Bool.true_eq_false, Sc.int_i, Sc.bool_b, Sc.list_l, Sc.str_s, Int.reduceEq, Int.reduceLT, Int.reduceLE, Int.reduceNe, decide_true, decide_false, decide_not, Classical.not_not, List.getElem?_cons_zero, List.getElem?_cons_succ, beq_self_eq_true, bne_self_eq_false]
  by_cases h4 : 1000000 < y; · simp only [h1, h2, h3, h4, bne_iff_ne, beq_iff_eq, ne_eq, decide_eq_true_eq, Bool.and_eq_true, Bool.or_eq_true, Bool.not_eq_true', decide_eq_false_iff_not, beq_eq_false_iff_ne, bne_eq_false_iff_eq, not_true_eq_false, not_false_eq_true, if_true, if_false, reduceIte, and_true, true_and, and_false, false_and, or_false, false_or, or_true, true_or, List.getD_cons_zero, List.getD_cons_succ, List.length_cons, List.length_nil, List.cons_append, List.nil_append, Nat.reduceAdd, Nat.reduceEqDiff, reduceCtorEq, Bool.not_true, Bool.not_false, Bool.true_and, Bool.and_true, Bool.false_and, Bool.and_false, Bool.or_true, Bool.true_or, Bool.or_false, Bool.false_or, Bool.false_eq_true, Bool.true_eq_false, Sc.int_i, Sc.bool_b, Sc.list_l, Sc.str_s, Int.reduceEq, Int.reduceLT, Int.reduceLE, Int.reduceNe, decide_true, decide_false, decide_not, Classical.not_not, List.getElem?_cons_zero, List.getElem?_cons_succ, beq_self_eq_true, bne_self_eq_false]
  by_cases h5 : (100 : Int) < n; · simp only [h1, h2, h3, h4, h5, bne_iff_ne, beq_iff_eq, ne_eq, decide_eq_true_eq, Bool.and_eq_true, Bool.or_eq_true, Bool.not_eq_true', decide_eq_false_iff_not, beq_eq_false_iff_ne, bne_eq_false_iff_eq, not_true_eq_false, not_false_eq_true, if_true, if_false, reduceIte, and_true, true_and, and_false, false_and, or_false, false_or, or_true, true_or, List.getD_cons_zero, List.getD_cons_succ, List.length_cons, List.length_nil, List.cons_append, List.nil_append, Nat.reduceAdd, Nat.reduceEqDiff, reduceCtorEq, Bool.not_true, Bool.not_false, Bool.true_and, Bool.and_true, Bool.false_and, Bool.and_false, Bool.or_true, Bool.true_or, Bool.or_false, Bool.false_or, Bool.false_eq_true, Bool.true_eq_false, Sc.int_i, Sc.bool_b, Sc.list_l, Sc.str_s, Int.reduceEq, Int.reduceLT, Int.reduceLE, Int.reduceNe, decide_true, decide_false, decide_not, Classical.not_not, List.getElem?_cons_zero, List.getElem?_cons_succ, beq_self_eq_true, bne_self_eq_false]
  by_cases h6 : (100 : Int) < m; · simp only [h1, h2, h3, h4, h5, h6, bne_iff_ne, beq_iff_eq, ne_eq, decide_eq_true_eq, Bool.and_eq_true, Bool.or_eq_true, Bool.not_eq_true', decide_eq_false_iff_not, beq_eq_false_iff_ne, bne_eq_false_iff_eq, not_true_eq_false, not_false_eq_true, if_true, if_false, reduceIte, and_true, true_and, and_false, false_and, or_false, false_or, or_true, true_or, List.getD_cons_zero, List.getD_cons_succ, List.length_cons, List.length_nil, List.cons_append, List.nil_append, Nat.reduceAdd, Nat.reduceEqDiff, reduceCtorEq, Bool.not_true, Bool.not_false, Bool.true_and, Bool.and_true, Bool.false_and, Bool.and_false, Bool.or_true, Bool.true_or, Bool.or_false, Bool.false_or, Bool.false_eq_true, Bool.true_eq_false, Sc.int_i, Sc.bool_b, Sc.list_l, Sc.str_s, Int.reduceEq, Int.reduceLT, Int.reduceLE, Int.reduceNe, decide_true, decide_false, decide_not, Classical.not_not, List.getElem?_cons_zero, List.getElem?_cons_succ, beq_self_eq_true, bne_self_eq_false]
  by_cases h7 : (n : Int) + m < 2; · simp only [h1, h2, h3, h4, h5, h6, h7, bne_iff_ne, beq_iff_eq, ne_eq, decide_eq_true_eq, Bool.and_eq_true, Bool.or_eq_true, Bool.not_eq_true', decide_eq_false_iff_not, beq_eq_false_iff_ne, bne_eq_false_iff_eq, not_true_eq_false, not_false_eq_true, if_true, if_false, reduceIte, and_true, true_and, and_false, false_and, or_false, false_or, or_true, true_or, List.getD_cons_zero, List.getD_cons_succ, List.length_cons, List.length_nil, List.cons_append, List.nil_append, Nat.reduceAdd, Nat.reduceEqDiff, reduceCtorEq, Bool.not_true, Bool.not_false, Bool.true_and, Bool.and_true, Bool.false_and, Bool.and_false, Bool.or_true, Bool.true_or, Bool.or_false, Bool.false_or, Bool.false_eq_true, Bool.true_eq_false, Sc.int_i, Sc.bool_b, Sc.list_l, Sc.str_s, Int.reduceEq, Int.reduceLT, Int.reduceLE, Int.reduceNe, decide_true, decide_false, decide_not, Classical.not_not, List.getElem?_cons_zero, List.getElem?_cons_succ, beq_self_eq_true, bne_self_eq_false]
  simp only [h1, h2, h3, h4, h5, h6, h7, decide_false, Bool.false_eq_true, if_false]
  refine loop_rounds (S := Nat) (fun k => [.l (List.replicate k (.i x)), .i k]) (fun _ => some [.b true]) (fun k => k ≤ n) (fun k => n - k) ?_ 0 (by omega) (by omega)
  intro k rec hk hrec
  by_cases hkn : (k : Int) < n
  · have hr := hrec (k + 1) (by omega) (by omega)
    have hw : IntKind.i64.wrap ((k : Int) + 1) = ((k + 1 : Nat) : Int) := by rw [wr64 (by omega) (by omega)]; omega
    have hl : ((List.replicate k (Sc.i x) ++ [Sc.i x]).length : Int) ≤ 17592186044416 := by simp; omega
    simp only [List.replicate_succ'] at hr
    simp only [hkn, hl, hw, hr, bne_iff_ne, beq_iff_eq, ne_eq, decide_eq_true_eq, Bool.and_eq_true, Bool.or_eq_true, Bool.not_eq_true', decide_eq_false_iff_not, beq_eq_false_iff_ne, bne_eq_false_iff_eq, not_true_eq_false, not_false_eq_true, if_true, if_false, reduceIte, and_true, true_and, and_false, false_and, or_false, false_or, or_true, true_or, List.getD_cons_zero, List.getD_cons_succ, List.length_cons, List.length_nil, List.cons_append, List.nil_append, Nat.reduceAdd, Nat.reduceEqDiff, reduceCtorEq, Bool.not_true, Bool.not_false, Bool.true_and, Bool.and_true, Bool.false_and, Bool.and_false, Bool.or_true, Bool.true_or, Bool.or_false, Bool.false_or, Bool.false_eq_true, Bool.true_eq_false, Sc.int_i, Sc.bool_b, Sc.list_l, Sc.str_s, Int.reduceEq, Int.reduceLT, Int.reduceLE, Int.reduceNe, decide_true, decide_false, decide_not, Classical.not_not, List.getElem?_cons_zero, List.getElem?_cons_succ, beq_self_eq_true, bne_self_eq_false]
  obtain rfl : k = n := by omega
  simp only [hkn, bne_iff_ne, beq_iff_eq, ne_eq, decide_eq_true_eq, Bool.and_eq_true, Bool.or_eq_true, Bool.not_eq_true', decide_eq_false_iff_not, beq_eq_false_iff_ne, bne_eq_false_iff_eq, not_true_eq_false, not_false_eq_true, if_true, if_false, reduceIte, and_true, true_and, and_false, false_and, or_false, false_or, or_true, true_or, List.getD_cons_zero, List.getD_cons_succ, List.length_cons, List.length_nil, List.cons_append, List.nil_append, Nat.reduceAdd, Nat.reduceEqDiff, reduceCtorEq, Bool.not_true, Bool.not_false, Bool.true_and, Bool.and_true, Bool.false_and, Bool.and_false, Bool.or_true, Bool.true_or, Bool.or_false, Bool.false_or, Bool.false_eq_true, Bool.true_eq_false, Sc.int_i, Sc.bool_b, Sc.list_l, Sc.str_s, Int.reduceEq, Int.reduceLT, Int.reduceLE, Int.reduceNe, decide_true, decide_false, decide_not, Classical.not_not, List.getElem?_cons_zero, List.getElem?_cons_succ, beq_self_eq_true, bne_self_eq_false]
  have conv : ([.l (List.replicate k (.i x)), .i 0] : List Sc) = [.l (List.replicate k (.i x) ++ List.replicate 0 (.i y)), .i ((0 : Nat) : Int)] := by simp
  rw [conv]
  refine loop_rounds (S := Nat) (fun j => [.l (List.replicate k (.i x) ++ List.replicate j (.i y)), .i j]) (fun _ => some [.b true]) (fun j => j ≤ m) (fun j => m - j) ?_ 0 (by omega) (by omega)
  intro j rec2 hj hrec2
  by_cases hjm : (j : Int) < m
  · have hr := hrec2 (j + 1) (by omega) (by omega)
    have hw : IntKind.i64.wrap ((j : Int) + 1) = ((j + 1 : Nat) : Int) := by rw [wr64 (by omega) (by omega)]; omega
    have hl : ((List.replicate k (Sc.i x) ++ List.replicate j (Sc.i y) ++ [Sc.i y]).length : Int) ≤ 17592186044416 := by simp; omega
    simp only [List.replicate_succ', ← List.append_assoc] at hr
    simp only [hjm, hl, hw, hr, bne_iff_ne, beq_iff_eq, ne_eq, decide_eq_true_eq, Bool.and_eq_true, Bool.or_eq_true, Bool.not_eq_true', decide_eq_false_iff_not, beq_eq_false_iff_ne, bne_eq_false_iff_eq, not_true_eq_false, not_false_eq_true, if_true, if_false, reduceIte, and_true, true_and, and_false, false_and, or_false, false_or, or_true, true_or, List.getD_cons_zero, List.getD_cons_succ, List.length_cons, List.length_nil, List.cons_append, List.nil_append, Nat.reduceAdd, Nat.reduceEqDiff, reduceCtorEq, Bool.not_true, Bool.not_false, Bool.true_and, Bool.and_true, Bool.false_and, Bool.and_false, Bool.or_true, Bool.true_or, Bool.or_false, Bool.false_or, Bool.false_eq_true, Bool.true_eq_false, Sc.int_i, Sc.bool_b, Sc.list_l, Sc.str_s, Int.reduceEq, Int.reduceLT, Int.reduceLE, Int.reduceNe, decide_true, decide_false, decide_not, Classical.not_not, List.getElem?_cons_zero, List.getElem?_cons_succ, beq_self_eq_true, bne_self_eq_false]
  obtain rfl : j = m := by omega
  have hvx : valB x = true := by simp only [valB, Bool.and_eq_true, decide_eq_true_eq]; omega
  have hvy : valB y = true := by simp only [valB, Bool.and_eq_true, decide_eq_true_eq]; omega
  have hall : (List.replicate k x ++ List.replicate j y).all valB = true := by simp [hvx, hvy]
  obtain ⟨o1, o2, o3⟩ := ofR_good (List.replicate k x ++ List.replicate j y) Tl.zero rfl hall (by simp [Tl.zero]; omega)
  obtain ⟨z1, z2, z3, _, z5⟩ := puts_spec (List.replicate k x ++ List.replicate j y) Tl.zero (by simp [Tl.zero]) (fun _ => ⟨rfl, rfl⟩)
  have hof := of_F (List.replicate k x ++ List.replicate j y) (by simp; omega)
  rw [o1, List.map_append, List.map_replicate, List.map_replicate] at hof
  generalize puts Tl.zero (List.replicate k x ++ List.replicate j y) = t at *
  obtain ⟨N, S, Q, lo, hi⟩ := t
  rw [sumI_append, sumI_rep, sumI_rep] at z2
  rw [sumQ_append, sumQ_rep, sumQ_rep] at z3
  simp only [Tl.zero, List.length_append, List.length_replicate, Int.zero_add, Int.natCast_add] at z1 z2 z3
  subst z1 z2 z3
  have hc : chk ((k : Int) + j) (k * x + j * y) (k * (x * x) + j * (y * y)) lo hi = 0 := o2
  obtain ⟨n0, n1, s0, s1, q0, q1, nq, nq0, ss, ss0, nn, nn0⟩ := okay_bnd (chk_okay hc (by omega))
  have eV : ((k : Int) + j) * (k * (x * x) + j * (y * y)) - (k * x + j * y) * (k * x + j * y) = k * j * (x - y) * (x - y) := by grind
  have hmean := mean_F ((k : Int) + j) (k * x + j * y) (k * (x * x) + j * (y * y)) lo hi
  have hvar := variance_F ((k : Int) + j) (k * x + j * y) (k * (x * x) + j * (y * y)) lo hi
  rw [meanL, if_pos ⟨hc, by omega⟩, ofQ_fit (by omega) (by unfold maxN; omega) (by unfold maxD; omega)] at hmean
  have v0 : 0 ≤ (k : Int) * j * (x - y) * (x - y) := by
    rw [Int.mul_assoc]; exact Int.mul_nonneg (Int.mul_nonneg (by omega) (by omega)) (sq_pos _)
  have d0 : 0 < ((k : Int) + j) * ((k : Int) + j - 1) := Int.mul_pos (by omega) (by omega)
  rw [varL, if_pos ⟨hc, by omega⟩, eV, ofQ_fit (by omega) (by unfold maxN; omega) (by unfold maxD; omega)] at hvar
  have r1 := rOf_F (k * x + j * y) ((k : Int) + j) ⟨by omega, by omega⟩ ⟨by omega, by omega⟩
  have r2 := rOf_F ((k : Int) * j * (x - y) * (x - y)) (((k : Int) + j) * ((k : Int) + j - 1)) ⟨by omega, by omega⟩ ⟨by omega, by omega⟩
  rw [ofQ_fit (by omega) (by unfold maxN; omega) (by unfold maxD; omega)] at r1 r2
  have b1 := mulB (a := k) (b := x) (A := 100) (B := 1000000) (by omega) (by omega) (by omega) (by omega) (by omega) (by omega)
  have b2 := mulB (a := j) (b := y) (A := 100) (B := 1000000) (by omega) (by omega) (by omega) (by omega) (by omega) (by omega)
  have b3 := mulB (a := k) (b := j) (A := 100) (B := 100) (by omega) (by omega) (by omega) (by omega) (by omega) (by omega)
  have b4 := mulB (a := (k : Int) * j) (b := x - y) (A := 10000) (B := 2000000) (by omega) (by omega) (by omega) (by omega) (by omega) (by omega)
  have b5 := mulB (a := (k : Int) * j * (x - y)) (b := x - y) (A := 20000000000) (B := 2000000) (by omega) (by omega) (by omega) (by omega) (by omega) (by omega)
  have w1 : IntKind.i64.wrap ((k : Int) * x) = k * x := wr64 (by omega) (by omega)
  have w2 : IntKind.i64.wrap ((j : Int) * y) = j * y := wr64 (by omega) (by omega)
  have w3 : IntKind.i64.wrap ((k : Int) * x + j * y) = k * x + j * y := wr64 (by omega) (by omega)
  have w4 : IntKind.i64.wrap ((k : Int) * j) = k * j := wr64 (by omega) (by omega)
  have w5 : IntKind.i64.wrap (x - y) = x - y := wr64 (by omega) (by omega)
  have w6 : IntKind.i64.wrap ((k : Int) * j * (x - y)) = k * j * (x - y) := wr64 (by omega) (by omega)
  have w7 : IntKind.i64.wrap ((k : Int) * j * (x - y) * (x - y)) = k * j * (x - y) * (x - y) := wr64 (by omega) (by omega)
  have w8 : IntKind.i64.wrap ((k : Int) + j - 1) = (k : Int) + j - 1 := wr64 (by omega) (by omega)
  have w9 : IntKind.i64.wrap (((k : Int) + j) * ((k : Int) + j - 1)) = ((k : Int) + j) * ((k : Int) + j - 1) := wr64 (by omega) (by omega)
  simp only [Tl.l] at hof
  simp only [hjm, hof, hmean, hvar, cs, w1, w2, w3, w4, w5, w6, w7, w8, w9, r1, r2, bne_iff_ne, beq_iff_eq, ne_eq, decide_eq_true_eq, Bool.and_eq_true, Bool.or_eq_true, Bool.not_eq_true', decide_eq_false_iff_not, beq_eq_false_iff_ne, bne_eq_false_iff_eq, not_true_eq_false, not_false_eq_true, if_true, if_false, reduceIte, and_true, true_and, and_false, false_and, or_false, false_or, or_true, true_or, List.getD_cons_zero, List.getD_cons_succ, List.length_cons, List.length_nil, List.cons_append, List.nil_append, Nat.reduceAdd, Nat.reduceEqDiff, reduceCtorEq, Bool.not_true, Bool.not_false, Bool.true_and, Bool.and_true, Bool.false_and, Bool.and_false, Bool.or_true, Bool.true_or, Bool.or_false, Bool.false_or, Bool.false_eq_true, Bool.true_eq_false, Sc.int_i, Sc.bool_b, Sc.list_l, Sc.str_s, Int.reduceEq, Int.reduceLT, Int.reduceLE, Int.reduceNe, decide_true, decide_false, decide_not, Classical.not_not, List.getElem?_cons_zero, List.getElem?_cons_succ, beq_self_eq_true, bne_self_eq_false]

namespace tallyTwo
theorem own : ownKnob Try.prog.godebug = none := by kernel_rfl
theorem laidOut : laidOutB Try.prog = true := by kernel_rfl
set_option maxRecDepth 100000 in
theorem lifted (os : Os) (started : os.Started) (H : Type) (enc : TypeId × Value → H) :
    ReturnsInHanded {} Try.checked os 4 .any (Rows.tallyTwoSpec.pre6 enc Try.prog Try.f4 Rows.tallyTwoRow.domain false) (Rows.tallyTwoSpec.post enc Try.prog Try.f4 false true false false) := by
  refine returnsInHanded_of_change (C := Try.checked) own started (by kernel_rfl) Try.func4
    (ChangeSpec.witness6 (enc := enc) (C := Try.checked) false ⟨#[], #[.agg #[.int .i64 0, .int .i64 0, .int .u8 0, .int .u8 0]], []⟩ 8 (by kernel_rfl) (by kernel_rfl) (by kernel_rfl) (by kernel_rfl)) ?_
  intro W base args ds gs before hval0 hW hcnd _
  have hval : ∀ (j : Nat) t v, Try.f4.params[j]? = some t → args[j]? = some v → Value.okWide Try.prog W .any base t v := hval0
  have hW' := hW
  obtain ⟨p, q, hA0, hV, rfl, hfz, hnd⟩ := hW
  have hA : DataW.TrodAll enc Try.prog W 0 (fun _ => true) true Try.f4.params.toList args.toList ds p := hA0
  rw [Try.params4] at hA hval
  obtain ⟨v0, vs0, d0, ds0, p0, q0, hargs, rfl, rfl, h0, r0⟩ := trodAll_cons hA
  obtain ⟨rfl, rfl, rfl⟩ := trodAll_nil r0
  obtain rfl : args = #[v0] := by cases args; simp_all
  obtain ⟨rfl, rfl⟩ := trodVars_none hV
  have k0 := h0
  have lt0 : ∀ x ∈ p0, x.block < W.heap.size := by obtain ⟨m, hm⟩ := k0; exact DataW.trod_lt m _ _ _ hm
  have ok0 := hval 0 35 v0 rfl rfl
  obtain ⟨y0, f0, g0⟩ := open_g Try.underlying35 (ks := [.int .i64, .int .i64, .int .u8, .int .u8]) (by kernel_rfl) ok0 h0
  obtain ⟨x, r1, rfl, _, f1⟩ := fitsL_int f0
  obtain ⟨y, r2, rfl, _, f2⟩ := fitsL_int f1
  obtain ⟨n, r3, rfl, wn, f3⟩ := fitsL_int f2
  obtain ⟨m, r4, rfl, wm, f4⟩ := fitsL_int f3
  obtain rfl := fitsL_nil f4
  obtain ⟨n, rfl, hn⟩ := wf_u8 wn
  obtain ⟨m, rfl, hm⟩ := wf_u8 wm
  clear hA0 hval0
  refine (law_call k_simulatorlaw27_TallyTwo (Try.call4 _ _) (vs := [v0]) (args1 g0) (two_F x y n m hn hm) rfl).mono fun e W' ⟨he, bel⟩ => ?_
  subst he
  exact ⟨_, rfl, _, _, _, [], _, [], hW', trodAll_mk1 (shut_bool Try.underlying4 _), (trodAll_cons_mk (Below.trod laidOut (by kernel_rfl) (of_decide_eq_true (by kernel_rfl)) k0 bel lt0) trodAll_mk0), rfl, bel.frame _, fun h => by cases h⟩
theorem over : Rows.tallyTwoRow.holds Try.pinned (OpenSpec.ofChange Rows.tallyTwoSpec) :=
  OpenClaim.holds_of_wide 4 Try.f4 rfl rfl rfl rfl rfl rfl rfl ⟨rfl, rfl, rfl, rfl, rfl⟩ rfl rfl rfl rfl rfl (by kernel_rfl) Try.func4 (by kernel_rfl)
    (of_decide_eq_true (by kernel_rfl)) (by unfold Func.isWrapper; first | (rw [if_pos (by decide +kernel)]; kernel_rfl) | (rw [if_neg (by decide +kernel)]; exact ⟨rfl, rfl⟩))
    (fun os started H enc _ => lifted os started H enc)
theorem proved : Rows.TallyTwoSaid := over
end tallyTwo

end Go.Proofs.Ytahchcpimanjfaa
