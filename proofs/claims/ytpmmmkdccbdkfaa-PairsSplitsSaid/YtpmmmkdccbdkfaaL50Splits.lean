/-
  PairsSplits: Split returns the specified lists; put together again they are the list. No condition.
-/
import Derived.Test.YtpmmmkdccbdkfaaRows
import Derived.Test.YtpmmmkdccbdkfaaOpnR
import Derived.Test.YtpmmmkdccbdkfaaA50
import Derived.Test.YtpmmmkdccbdkfaaM50
namespace Go.Proofs.Ytpmmmkdccbdkfaa
open Go.ChangeShapes Go.WideShapes Go.ChangeAt Go.RowKit
set_option linter.unusedSimpArgs false

def evs (ps : List (Int × Int)) (c j : Nat) : List Sc := (List.range j).map fun i => pt (ps.getD (2 * i + c) (0, 0))
theorem evs_len (ps : List (Int × Int)) (c j : Nat) : (evs ps c j).length = j := by simp [evs]
theorem evs_succ (ps : List (Int × Int)) (c j : Nat) : evs ps c (j + 1) = evs ps c j ++ [pt (ps.getD (2 * j + c) (0, 0))] := by
  unfold evs; rw [List.range_succ, List.map_append]; rfl
theorem evs_get (ps : List (Int × Int)) (c j i : Nat) (h : i < j) : (evs ps c j).getD ((i : Int)).toNat (.i 0) = .l [.i (ps.getD (2 * i + c) (0, 0)).1, .i (ps.getD (2 * i + c) (0, 0)).2] := by
  have := idx_map (fun i => pt (ps.getD (2 * i + c) (0, 0))) (List.range j) i (by simpa using h)
  rw [List.getElem_range] at this
  exact this
theorem getD_pt (ps : List (Int × Int)) (i : Nat) (h : i < ps.length) : (ps.map pt).getD ((i : Int)).toNat (.i 0) = .l [.i (ps.getD i (0, 0)).1, .i (ps.getD i (0, 0)).2] := by
  rw [idx_map pt ps i h, List.getD_eq_getElem?_getD, List.getElem?_eq_getElem h]; rfl
def splitL (ps : List (Int × Int)) : List Sc := if ps.length % 2 = 1 then [.l [], .l [], .i 8] else [.l (evs ps 0 (ps.length / 2)), .l (evs ps 1 (ps.length / 2)), .i 0]
set_option linter.unusedVariables false in
theorem split_loop {g : (List Sc → Option (List Sc)) → List Sc → Option (List Sc)} (ps : List (Int × Int)) (he : ps.length % 2 = 0) (hl : ps.length ≤ 8796093022208)
    (h1 : ∀ (j : Nat) rec (a b : List Sc) (h : 2 * j + 1 < ps.length), a.length = j → b.length = j → g rec [.l a, .l b, .i ((2 * j : Nat) : Int)] = rec [.l (a ++ [pt (ps.getD (2 * j + 0) (0, 0))]), .l (b ++ [pt (ps.getD (2 * j + 1) (0, 0))]), .i ((2 * (j + 1) : Nat) : Int)])
    (h2 : ∀ rec (a b : List Sc), g rec [.l a, .l b, .i (ps.length : Int)] = some [.l a, .l b, .i 0]) : loopN g rounds [.l [], .l [], .i 0] = some (splitL ps) := by
  have conv : ([.l [], .l [], .i 0] : List Sc) = [.l (evs ps 0 0), .l (evs ps 1 0), .i ((2 * 0 : Nat) : Int)] := by simp [evs]
  rw [conv]
  refine loop_rounds (S := Nat) (fun j => [.l (evs ps 0 j), .l (evs ps 1 j), .i ((2 * j : Nat) : Int)]) (fun _ => some (splitL ps)) (fun j => j ≤ ps.length / 2) (fun j => ps.length / 2 - j) ?_ 0 (by omega) (by omega)
  intro j rec hj hrec
  by_cases h : j < ps.length / 2
  · rw [h1 j rec _ _ (by omega) (evs_len ..) (evs_len ..), ← evs_succ, ← evs_succ]
    exact hrec (j + 1) (by omega) (by omega)
  · have e : j = ps.length / 2 := by omega
    have e2 : ((2 * j : Nat) : Int) = ps.length := by omega
    rw [e2, h2, e]
    unfold splitL
    rw [if_neg (by omega)]
theorem fsplit_F (ps : List (Int × Int)) (hl : ps.length ≤ 8796093022208) : k_pairs_Split.F [.l (ps.map pt)] = some (splitL ps) := by
  simp only [k_pairs_Split_F, tk_pairs_Split, List.length_map, Go.Proofs.Ytpmmmkdccbdkfaa.T.den, Ex.ev, U1.ev, U2.ev, U3.ev, gam, List.map, List.getD_cons_zero, List.getD_cons_succ, List.length, List.cons_append, List.nil_append, if_true, Sc.int_i, Sc.bool_b, Sc.list_l, Sc.str_s, Nat.reduceEqDiff, if_false, List.getElem?_cons_zero, List.getElem?_cons_succ]
  have tm : Int.tmod (ps.length : Int) 2 = ((ps.length % 2 : Nat) : Int) := rfl
  by_cases h : ps.length % 2 = 1
  · have h' : ((ps.length % 2 : Nat) : Int) = 1 := by omega
    unfold splitL
    rw [if_pos h]
    simp only [tm, h', Int.natCast_nonneg, bne_iff_ne, beq_iff_eq, ne_eq, decide_eq_true_eq, Bool.and_eq_true, Bool.or_eq_true, Bool.not_eq_true', decide_eq_false_iff_not, beq_eq_false_iff_ne, bne_eq_false_iff_eq, not_true_eq_false, not_false_eq_true, if_true, if_false, reduceIte, and_true, true_and, and_false, false_and, or_false, false_or, or_true, true_or, List.getD_cons_zero, List.getD_cons_succ, List.length_cons, List.length_nil, List.cons_append, List.nil_append, Nat.reduceAdd, Nat.reduceEqDiff, reduceCtorEq, Bool.not_true, Bool.not_false, Bool.true_and, Bool.and_true, Bool.false_and, Bool.and_false, Bool.or_true, Bool.true_or, Bool.or_false, Bool.false_or, Bool.false_eq_true, Bool.true_eq_false, Sc.int_i, Sc.bool_b, Sc.list_l, Sc.str_s, Int.reduceEq, Int.reduceLT, Int.reduceLE, Int.reduceNe, decide_true, decide_false, decide_not, eq_self, Classical.not_not, List.getElem?_cons_zero, List.getElem?_cons_succ, beq_self_eq_true, bne_self_eq_false]
  · have h' : ¬ ((ps.length % 2 : Nat) : Int) = 1 := by omega
    simp only [tm, h', Int.natCast_nonneg, bne_iff_ne, beq_iff_eq, ne_eq, decide_eq_true_eq, Bool.and_eq_true, Bool.or_eq_true, Bool.not_eq_true', decide_eq_false_iff_not, beq_eq_false_iff_ne, bne_eq_false_iff_eq, not_true_eq_false, not_false_eq_true, if_true, if_false, reduceIte, and_true, true_and, and_false, false_and, or_false, false_or, or_true, true_or, List.getD_cons_zero, List.getD_cons_succ, List.length_cons, List.length_nil, List.cons_append, List.nil_append, Nat.reduceAdd, Nat.reduceEqDiff, reduceCtorEq, Bool.not_true, Bool.not_false, Bool.true_and, Bool.and_true, Bool.false_and, Bool.and_false, Bool.or_true, Bool.true_or, Bool.or_false, Bool.false_or, Bool.false_eq_true, Bool.true_eq_false, Sc.int_i, Sc.bool_b, Sc.list_l, Sc.str_s, Int.reduceEq, Int.reduceLT, Int.reduceLE, Int.reduceNe, decide_true, decide_false, decide_not, eq_self, Classical.not_not, List.getElem?_cons_zero, List.getElem?_cons_succ, beq_self_eq_true, bne_self_eq_false]
    refine split_loop ps (by omega) hl ?_ ?_
    · intro j rec a b h ha hb
      have i1 := getD_pt ps (2 * j) (by omega)
      have i2 := getD_pt ps (2 * j + 1) (by omega)
      have k1 : ((2 * j : Nat) : Int) < ps.length := by omega
      have k2 : ((2 * j + 1 : Nat) : Int) < ps.length := by omega
      have w1 : IntKind.i64.wrap (((2 * j : Nat) : Int) + 1) = ((2 * j + 1 : Nat) : Int) := by rw [wrI (by omega) (by omega)]; omega
      have w2 : IntKind.i64.wrap (((2 * j : Nat) : Int) + 2) = ((2 * (j + 1) : Nat) : Int) := by rw [wrI (by omega) (by omega)]; omega
      generalize ps.getD (2 * j) (0, 0) = p at *
      generalize ps.getD (2 * j + 1) (0, 0) = q at *
      have l1 : ((a ++ [Sc.l [.i p.1, .i p.2]]).length : Int) ≤ 8796093022208 := by simp; omega
      have l2 : ((b ++ [Sc.l [.i q.1, .i q.2]]).length : Int) ≤ 8796093022208 := by simp; omega
      simp only [i1, i2, k1, k2, w1, w2, l1, l2, Nat.add_zero, pt, Int.natCast_nonneg, bne_iff_ne, beq_iff_eq, ne_eq, decide_eq_true_eq, Bool.and_eq_true, Bool.or_eq_true, Bool.not_eq_true', decide_eq_false_iff_not, beq_eq_false_iff_ne, bne_eq_false_iff_eq, not_true_eq_false, not_false_eq_true, if_true, if_false, reduceIte, and_true, true_and, and_false, false_and, or_false, false_or, or_true, true_or, List.getD_cons_zero, List.getD_cons_succ, List.length_cons, List.length_nil, List.cons_append, List.nil_append, Nat.reduceAdd, Nat.reduceEqDiff, reduceCtorEq, Bool.not_true, Bool.not_false, Bool.true_and, Bool.and_true, Bool.false_and, Bool.and_false, Bool.or_true, Bool.true_or, Bool.or_false, Bool.false_or, Bool.false_eq_true, Bool.true_eq_false, Sc.int_i, Sc.bool_b, Sc.list_l, Sc.str_s, Int.reduceEq, Int.reduceLT, Int.reduceLE, Int.reduceNe, decide_true, decide_false, decide_not, eq_self, Classical.not_not, List.getElem?_cons_zero, List.getElem?_cons_succ, beq_self_eq_true, bne_self_eq_false]
    · intro rec a b
      simp only [Int.lt_irrefl, Int.natCast_nonneg, bne_iff_ne, beq_iff_eq, ne_eq, decide_eq_true_eq, Bool.and_eq_true, Bool.or_eq_true, Bool.not_eq_true', decide_eq_false_iff_not, beq_eq_false_iff_ne, bne_eq_false_iff_eq, not_true_eq_false, not_false_eq_true, if_true, if_false, reduceIte, and_true, true_and, and_false, false_and, or_false, false_or, or_true, true_or, List.getD_cons_zero, List.getD_cons_succ, List.length_cons, List.length_nil, List.cons_append, List.nil_append, Nat.reduceAdd, Nat.reduceEqDiff, reduceCtorEq, Bool.not_true, Bool.not_false, Bool.true_and, Bool.and_true, Bool.false_and, Bool.and_false, Bool.or_true, Bool.true_or, Bool.or_false, Bool.false_or, Bool.false_eq_true, Bool.true_eq_false, Sc.int_i, Sc.bool_b, Sc.list_l, Sc.str_s, Int.reduceEq, Int.reduceLT, Int.reduceLE, Int.reduceNe, decide_true, decide_false, decide_not, eq_self, Classical.not_not, List.getElem?_cons_zero, List.getElem?_cons_succ, beq_self_eq_true, bne_self_eq_false]
theorem rsplit_F (ps : List (Int × Int)) (hl : ps.length ≤ 8796093022208) : k_simulatorref50_Split.F [.l (ps.map pt)] = some (splitL ps) := by
  simp only [k_simulatorref50_Split_F, tk_simulatorref50_Split, List.length_map, Go.Proofs.Ytpmmmkdccbdkfaa.T.den, Ex.ev, U1.ev, U2.ev, U3.ev, gam, List.map, List.getD_cons_zero, List.getD_cons_succ, List.length, List.cons_append, List.nil_append, if_true, Sc.int_i, Sc.bool_b, Sc.list_l, Sc.str_s, Nat.reduceEqDiff, if_false, List.getElem?_cons_zero, List.getElem?_cons_succ]
  have tm : Int.tmod (ps.length : Int) 2 = ((ps.length % 2 : Nat) : Int) := rfl
  by_cases h : ps.length % 2 = 1
  · have h' : ((ps.length % 2 : Nat) : Int) = 1 := by omega
    unfold splitL
    rw [if_pos h]
    simp only [tm, h', Int.natCast_nonneg, bne_iff_ne, beq_iff_eq, ne_eq, decide_eq_true_eq, Bool.and_eq_true, Bool.or_eq_true, Bool.not_eq_true', decide_eq_false_iff_not, beq_eq_false_iff_ne, bne_eq_false_iff_eq, not_true_eq_false, not_false_eq_true, if_true, if_false, reduceIte, and_true, true_and, and_false, false_and, or_false, false_or, or_true, true_or, List.getD_cons_zero, List.getD_cons_succ, List.length_cons, List.length_nil, List.cons_append, List.nil_append, Nat.reduceAdd, Nat.reduceEqDiff, reduceCtorEq, Bool.not_true, Bool.not_false, Bool.true_and, Bool.and_true, Bool.false_and, Bool.and_false, Bool.or_true, Bool.true_or, Bool.or_false, Bool.false_or, Bool.false_eq_true, Bool.true_eq_false, Sc.int_i, Sc.bool_b, Sc.list_l, Sc.str_s, Int.reduceEq, Int.reduceLT, Int.reduceLE, Int.reduceNe, decide_true, decide_false, decide_not, eq_self, Classical.not_not, List.getElem?_cons_zero, List.getElem?_cons_succ, beq_self_eq_true, bne_self_eq_false]
  · have h' : ¬ ((ps.length % 2 : Nat) : Int) = 1 := by omega
    simp only [tm, h', Int.natCast_nonneg, bne_iff_ne, beq_iff_eq, ne_eq, decide_eq_true_eq, Bool.and_eq_true, Bool.or_eq_true, Bool.not_eq_true', decide_eq_false_iff_not, beq_eq_false_iff_ne, bne_eq_false_iff_eq, not_true_eq_false, not_false_eq_true, if_true, if_false, reduceIte, and_true, true_and, and_false, false_and, or_false, false_or, or_true, true_or, List.getD_cons_zero, List.getD_cons_succ, List.length_cons, List.length_nil, List.cons_append, List.nil_append, Nat.reduceAdd, Nat.reduceEqDiff, reduceCtorEq, Bool.not_true, Bool.not_false, Bool.true_and, Bool.and_true, Bool.false_and, Bool.and_false, Bool.or_true, Bool.true_or, Bool.or_false, Bool.false_or, Bool.false_eq_true, Bool.true_eq_false, Sc.int_i, Sc.bool_b, Sc.list_l, Sc.str_s, Int.reduceEq, Int.reduceLT, Int.reduceLE, Int.reduceNe, decide_true, decide_false, decide_not, eq_self, Classical.not_not, List.getElem?_cons_zero, List.getElem?_cons_succ, beq_self_eq_true, bne_self_eq_false]
    refine split_loop ps (by omega) hl ?_ ?_
    · intro j rec a b h ha hb
      have i1 := getD_pt ps (2 * j) (by omega)
      have i2 := getD_pt ps (2 * j + 1) (by omega)
      have k1 : ((2 * j : Nat) : Int) < ps.length := by omega
      have k2 : ((2 * j + 1 : Nat) : Int) < ps.length := by omega
      have w1 : IntKind.i64.wrap (((2 * j : Nat) : Int) + 1) = ((2 * j + 1 : Nat) : Int) := by rw [wrI (by omega) (by omega)]; omega
      have w2 : IntKind.i64.wrap (((2 * j : Nat) : Int) + 2) = ((2 * (j + 1) : Nat) : Int) := by rw [wrI (by omega) (by omega)]; omega
      generalize ps.getD (2 * j) (0, 0) = p at *
      generalize ps.getD (2 * j + 1) (0, 0) = q at *
      have l1 : ((a ++ [Sc.l [.i p.1, .i p.2]]).length : Int) ≤ 8796093022208 := by simp; omega
      have l2 : ((b ++ [Sc.l [.i q.1, .i q.2]]).length : Int) ≤ 8796093022208 := by simp; omega
      simp only [i1, i2, k1, k2, w1, w2, l1, l2, Nat.add_zero, pt, Int.natCast_nonneg, bne_iff_ne, beq_iff_eq, ne_eq, decide_eq_true_eq, Bool.and_eq_true, Bool.or_eq_true, Bool.not_eq_true', decide_eq_false_iff_not, beq_eq_false_iff_ne, bne_eq_false_iff_eq, not_true_eq_false, not_false_eq_true, if_true, if_false, reduceIte, and_true, true_and, and_false, false_and, or_false, false_or, or_true, true_or, List.getD_cons_zero, List.getD_cons_succ, List.length_cons, List.length_nil, List.cons_append, List.nil_append, Nat.reduceAdd, Nat.reduceEqDiff, reduceCtorEq, Bool.not_true, Bool.not_false, Bool.true_and, Bool.and_true, Bool.false_and, Bool.and_false, Bool.or_true, Bool.true_or, Bool.or_false, Bool.false_or, Bool.false_eq_true, Bool.true_eq_false, Sc.int_i, Sc.bool_b, Sc.list_l, Sc.str_s, Int.reduceEq, Int.reduceLT, Int.reduceLE, Int.reduceNe, decide_true, decide_false, decide_not, eq_self, Classical.not_not, List.getElem?_cons_zero, List.getElem?_cons_succ, beq_self_eq_true, bne_self_eq_false]
    · intro rec a b
      simp only [Int.lt_irrefl, Int.natCast_nonneg, bne_iff_ne, beq_iff_eq, ne_eq, decide_eq_true_eq, Bool.and_eq_true, Bool.or_eq_true, Bool.not_eq_true', decide_eq_false_iff_not, beq_eq_false_iff_ne, bne_eq_false_iff_eq, not_true_eq_false, not_false_eq_true, if_true, if_false, reduceIte, and_true, true_and, and_false, false_and, or_false, false_or, or_true, true_or, List.getD_cons_zero, List.getD_cons_succ, List.length_cons, List.length_nil, List.cons_append, List.nil_append, Nat.reduceAdd, Nat.reduceEqDiff, reduceCtorEq, Bool.not_true, Bool.not_false, Bool.true_and, Bool.and_true, Bool.false_and, Bool.and_false, Bool.or_true, Bool.true_or, Bool.or_false, Bool.false_or, Bool.false_eq_true, Bool.true_eq_false, Sc.int_i, Sc.bool_b, Sc.list_l, Sc.str_s, Int.reduceEq, Int.reduceLT, Int.reduceLE, Int.reduceNe, decide_true, decide_false, decide_not, eq_self, Classical.not_not, List.getElem?_cons_zero, List.getElem?_cons_succ, beq_self_eq_true, bne_self_eq_false]
theorem splits_F (ps : List (Int × Int)) : k_simulatorlaw50_PairsSplits.F [.l (ps.map pt)] = some [.b true] := by
  simp only [k_simulatorlaw50_PairsSplits_F, tk_simulatorlaw50_PairsSplits, k_pairs_Split_f, k_simulatorref50_Split_f, k_simulatorref50_Same_f, k_simulatorlaw50_awake_f, awake50, List.length_map, Go.Proofs.Ytpmmmkdccbdkfaa.T.den, Ex.ev, U1.ev, U2.ev, U3.ev, gam, List.map, List.getD_cons_zero, List.getD_cons_succ, List.length, List.cons_append, List.nil_append, if_true, Sc.int_i, Sc.bool_b, Sc.list_l, Sc.str_s, Nat.reduceEqDiff, if_false, List.getElem?_cons_zero, List.getElem?_cons_succ]
  by_cases h1 : (100 : Int) < ps.length
  · simp only [h1, Int.natCast_nonneg, bne_iff_ne, beq_iff_eq, ne_eq, decide_eq_true_eq, Bool.and_eq_true, Bool.or_eq_true, Bool.not_eq_true', decide_eq_false_iff_not, beq_eq_false_iff_ne, bne_eq_false_iff_eq, not_true_eq_false, not_false_eq_true, if_true, if_false, reduceIte, and_true, true_and, and_false, false_and, or_false, false_or, or_true, true_or, List.getD_cons_zero, List.getD_cons_succ, List.length_cons, List.length_nil, List.cons_append, List.nil_append, Nat.reduceAdd, Nat.reduceEqDiff, reduceCtorEq, Bool.not_true, Bool.not_false, Bool.true_and, Bool.and_true, Bool.false_and, Bool.and_false, Bool.or_true, Bool.true_or, Bool.or_false, Bool.false_or, Bool.false_eq_true, Bool.true_eq_false, Sc.int_i, Sc.bool_b, Sc.list_l, Sc.str_s, Int.reduceEq, Int.reduceLT, Int.reduceLE, Int.reduceNe, decide_true, decide_false, decide_not, eq_self, Classical.not_not, List.getElem?_cons_zero, List.getElem?_cons_succ, beq_self_eq_true, bne_self_eq_false]
  have a := fsplit_F ps (by omega)
  have b := rsplit_F ps (by omega)
  have tm : Int.tmod (ps.length : Int) 2 = ((ps.length % 2 : Nat) : Int) := rfl
  unfold splitL at a b
  by_cases h : ps.length % 2 = 1
  · have h' : ((ps.length % 2 : Nat) : Int) = 1 := by omega
    rw [if_pos h] at a b
    have s := same50_F [] (by simp)
    simp only [h1, a, b, s, tm, h', Int.natCast_nonneg, bne_iff_ne, beq_iff_eq, ne_eq, decide_eq_true_eq, Bool.and_eq_true, Bool.or_eq_true, Bool.not_eq_true', decide_eq_false_iff_not, beq_eq_false_iff_ne, bne_eq_false_iff_eq, not_true_eq_false, not_false_eq_true, if_true, if_false, reduceIte, and_true, true_and, and_false, false_and, or_false, false_or, or_true, true_or, List.getD_cons_zero, List.getD_cons_succ, List.length_cons, List.length_nil, List.cons_append, List.nil_append, Nat.reduceAdd, Nat.reduceEqDiff, reduceCtorEq, Bool.not_true, Bool.not_false, Bool.true_and, Bool.and_true, Bool.false_and, Bool.and_false, Bool.or_true, Bool.true_or, Bool.or_false, Bool.false_or, Bool.false_eq_true, Bool.true_eq_false, Sc.int_i, Sc.bool_b, Sc.list_l, Sc.str_s, Int.reduceEq, Int.reduceLT, Int.reduceLE, Int.reduceNe, decide_true, decide_false, decide_not, eq_self, Classical.not_not, List.getElem?_cons_zero, List.getElem?_cons_succ, beq_self_eq_true, bne_self_eq_false]
  · rw [if_neg h] at a b
    have l1 := evs_len ps 0 (ps.length / 2)
    have l2 := evs_len ps 1 (ps.length / 2)
    have s1 := same50_F (evs ps 0 (ps.length / 2)) (by omega)
    have s2 := same50_F (evs ps 1 (ps.length / 2)) (by omega)
    have w : IntKind.i64.wrap (((ps.length / 2 : Nat) : Int) + ((ps.length / 2 : Nat) : Int)) = (ps.length : Int) := by rw [wrI (by omega) (by omega)]; omega
    have g0 := fun i h => evs_get ps 0 (ps.length / 2) i h
    have g1 := fun i h => evs_get ps 1 (ps.length / 2) i h
    generalize evs ps 0 (ps.length / 2) = A at *
    generalize evs ps 1 (ps.length / 2) = B at *
    simp only [h1, a, b, s1, s2, l1, l2, w, Int.natCast_nonneg, bne_iff_ne, beq_iff_eq, ne_eq, decide_eq_true_eq, Bool.and_eq_true, Bool.or_eq_true, Bool.not_eq_true', decide_eq_false_iff_not, beq_eq_false_iff_ne, bne_eq_false_iff_eq, not_true_eq_false, not_false_eq_true, if_true, if_false, reduceIte, and_true, true_and, and_false, false_and, or_false, false_or, or_true, true_or, List.getD_cons_zero, List.getD_cons_succ, List.length_cons, List.length_nil, List.cons_append, List.nil_append, Nat.reduceAdd, Nat.reduceEqDiff, reduceCtorEq, Bool.not_true, Bool.not_false, Bool.true_and, Bool.and_true, Bool.false_and, Bool.and_false, Bool.or_true, Bool.true_or, Bool.or_false, Bool.false_or, Bool.false_eq_true, Bool.true_eq_false, Sc.int_i, Sc.bool_b, Sc.list_l, Sc.str_s, Int.reduceEq, Int.reduceLT, Int.reduceLE, Int.reduceNe, decide_true, decide_false, decide_not, eq_self, Classical.not_not, List.getElem?_cons_zero, List.getElem?_cons_succ, beq_self_eq_true, bne_self_eq_false]
    refine loop_rounds (S := Nat) (fun j => [.i (j : Int)]) (fun _ => some [.b true]) (fun j => j ≤ ps.length / 2) (fun j => ps.length / 2 - j) ?_ 0 (by omega) (by omega)
    intro j rec hj hrec
    by_cases hjl : j < ps.length / 2
    · have hr := hrec (j + 1) (by omega) (by omega)
      have k0 : (j : Int) < ((ps.length / 2 : Nat) : Int) := by omega
      have i1 := getD_pt ps (2 * j) (by omega)
      have i2 := getD_pt ps (2 * j + 1) (by omega)
      have a1 := g0 j hjl
      have a2 := g1 j hjl
      rw [Nat.add_zero] at a1
      have k1 : ((2 * j : Nat) : Int) < ps.length := by omega
      have k2 : ((2 * j + 1 : Nat) : Int) < ps.length := by omega
      have w0 : IntKind.i64.wrap (2 * (j : Int)) = ((2 * j : Nat) : Int) := by rw [wrI (by omega) (by omega)]; omega
      have w1 : IntKind.i64.wrap (((2 * j : Nat) : Int) + 1) = ((2 * j + 1 : Nat) : Int) := by rw [wrI (by omega) (by omega)]; omega
      have w2 := succ_w (n := ps.length) (k := j) (by omega) (by omega)
      generalize ps.getD (2 * j) (0, 0) = p at *
      generalize ps.getD (2 * j + 1) (0, 0) = q at *
      simp only [k0, i1, i2, a1, a2, k1, k2, w0, w1, w2, hr, Int.natCast_nonneg, bne_iff_ne, beq_iff_eq, ne_eq, decide_eq_true_eq, Bool.and_eq_true, Bool.or_eq_true, Bool.not_eq_true', decide_eq_false_iff_not, beq_eq_false_iff_ne, bne_eq_false_iff_eq, not_true_eq_false, not_false_eq_true, if_true, if_false, reduceIte, and_true, true_and, and_false, false_and, or_false, false_or, or_true, true_or, List.getD_cons_zero, List.getD_cons_succ, List.length_cons, List.length_nil, List.cons_append, List.nil_append, Nat.reduceAdd, Nat.reduceEqDiff, reduceCtorEq, Bool.not_true, Bool.not_false, Bool.true_and, Bool.and_true, Bool.false_and, Bool.and_false, Bool.or_true, Bool.true_or, Bool.or_false, Bool.false_or, Bool.false_eq_true, Bool.true_eq_false, Sc.int_i, Sc.bool_b, Sc.list_l, Sc.str_s, Int.reduceEq, Int.reduceLT, Int.reduceLE, Int.reduceNe, decide_true, decide_false, decide_not, eq_self, Classical.not_not, List.getElem?_cons_zero, List.getElem?_cons_succ, beq_self_eq_true, bne_self_eq_false]
    · have k0 : ¬ (j : Int) < ((ps.length / 2 : Nat) : Int) := by omega
      simp only [k0, Int.natCast_nonneg, bne_iff_ne, beq_iff_eq, ne_eq, decide_eq_true_eq, Bool.and_eq_true, Bool.or_eq_true, Bool.not_eq_true', decide_eq_false_iff_not, beq_eq_false_iff_ne, bne_eq_false_iff_eq, not_true_eq_false, not_false_eq_true, if_true, if_false, reduceIte, and_true, true_and, and_false, false_and, or_false, false_or, or_true, true_or, List.getD_cons_zero, List.getD_cons_succ, List.length_cons, List.length_nil, List.cons_append, List.nil_append, Nat.reduceAdd, Nat.reduceEqDiff, reduceCtorEq, Bool.not_true, Bool.not_false, Bool.true_and, Bool.and_true, Bool.false_and, Bool.and_false, Bool.or_true, Bool.true_or, Bool.or_false, Bool.false_or, Bool.false_eq_true, Bool.true_eq_false, Sc.int_i, Sc.bool_b, Sc.list_l, Sc.str_s, Int.reduceEq, Int.reduceLT, Int.reduceLE, Int.reduceNe, decide_true, decide_false, decide_not, eq_self, Classical.not_not, List.getElem?_cons_zero, List.getElem?_cons_succ, beq_self_eq_true, bne_self_eq_false]

namespace pairsSplits
theorem own : ownKnob Try.prog.godebug = none := by kernel_rfl
theorem laidOut : laidOutB Try.prog = true := by kernel_rfl
set_option maxRecDepth 100000 in
theorem lifted (os : Os) (started : os.Started) (H : Type) (enc : TypeId × Value → H) :
    ReturnsInHanded {} Try.checked os 4 .any (Rows.pairsSplitsSpec.pre6 enc Try.prog Try.f4 Rows.pairsSplitsRow.domain false) (Rows.pairsSplitsSpec.post enc Try.prog Try.f4 false true false false) := by
  refine returnsInHanded_of_change (C := Try.checked) own started (by kernel_rfl) Try.func4
    (ChangeSpec.witness6 (enc := enc) (C := Try.checked) false ⟨#[], #[.slice none 0 0], []⟩ 8 (by kernel_rfl) (by kernel_rfl) (by kernel_rfl) (by kernel_rfl)) ?_
  intro W base args ds gs before hval0 hW hcnd _
  have hval : ∀ (j : Nat) t v, Try.f4.params[j]? = some t → args[j]? = some v → Value.okWide Try.prog W .any base t v := hval0
  have hW' := hW
  obtain ⟨p, q, hA0, hV, rfl, hfz, hnd⟩ := hW
  have hA : DataW.TrodAll enc Try.prog W 0 (fun _ => true) true Try.f4.params.toList args.toList ds p := hA0
  rw [Try.params4] at hA hval
  obtain ⟨v0, vs0, d0, ds0, p0, q0, hargs, rfl, rfl, h0, r0⟩ := trodAll_cons hA
  obtain ⟨rfl, rfl, rfl⟩ := trodAll_nil r0
  obtain rfl : args = #[v0] := by cases args; simp_all
  obtain ⟨rfl, rfl⟩ := trodVars_none hV
  have k0 := h0
  have lt0 : ∀ x ∈ p0, x.block < W.heap.size := by obtain ⟨m, hm⟩ := k0; exact DataW.trod_lt m _ _ _ hm
  have ok0 := hval 0 22 v0 rfl rfl
  obtain ⟨ps, i0, _, g0⟩ := open_pairs Try.underlying22 (by kernel_rfl) (by kernel_rfl) ok0 h0
  clear hA0 hval0
  refine (law_call k_simulatorlaw50_PairsSplits (Try.call4 _ _) (vs := [v0]) (args1 g0) (splits_F ps) rfl).mono fun e W' ⟨he, bel⟩ => ?_
  subst he
  exact ⟨_, rfl, _, _, _, [], _, [], hW', trodAll_mk1 (shut_bool Try.underlying4 _), (trodAll_cons_mk (Below.trod laidOut (by kernel_rfl) (of_decide_eq_true (by kernel_rfl)) k0 bel lt0) trodAll_mk0), rfl, bel.frame _, fun h => by cases h⟩
theorem over : Rows.pairsSplitsRow.holds Try.pinned (OpenSpec.ofChange Rows.pairsSplitsSpec) :=
  OpenClaim.holds_of_wide 4 Try.f4 rfl rfl rfl rfl rfl rfl rfl ⟨rfl, rfl, rfl, rfl, rfl⟩ rfl rfl rfl rfl rfl (by kernel_rfl) Try.func4 (by kernel_rfl)
    (of_decide_eq_true (by kernel_rfl)) (by unfold Func.isWrapper; first | (rw [if_pos (by decide +kernel)]; kernel_rfl) | (rw [if_neg (by decide +kernel)]; exact ⟨rfl, rfl⟩))
    (fun os started H enc _ => lifted os started H enc)
theorem proved : Rows.PairsSplitsSaid := over
end pairsSplits

end Go.Proofs.Ytpmmmkdccbdkfaa
