/-
  Chapter 48: what Means, Lag, Size and their references return.
-/
import Derived.Test.YtgekeolponbifaaFlL
import Derived.Test.YtgekeolponbifaaPl
import Derived.Test.YtgekeolponbifaaFrO
import Derived.Test.YtgekeolponbifaaFrCmp
import Derived.Test.YtgekeolponbifaaRfC
namespace Go.Proofs.Ytgekeolponbifaa
set_option linter.unusedSimpArgs false
set_option linter.unusedVariables false

def mnL (xs : List Int) (N : Nat) : List Rat := (List.range (xs.length / N)).map fun j => Rat.divInt (grp xs N j) N
theorem mnL_len (xs : List Int) (N : Nat) : (mnL xs N).length = xs.length / N := by simp [mnL]
def meansL (xs : List Int) (n : Int) : List Sc := if 1000 < xs.length then [.l [], .i 6] else if n < 1 ∨ 100 < n then [.l [], .i 2] else if xs.all (val4 10000) = true then [.l ((mnL xs n.toNat).map fun q => pt (pr q)), .i 0] else [.l [], .i 2]
theorem meansL_long {xs : List Int} {n : Int} (h : 1000 < xs.length) : meansL xs n = [.l [], .i 6] := if_pos h
theorem meansL_out {xs : List Int} {n : Int} (h : ¬ 1000 < xs.length) (h1 : n < 1 ∨ 100 < n) : meansL xs n = [.l [], .i 2] := by unfold meansL; rw [if_neg h, if_pos h1]
theorem meansL_mid {xs : List Int} {n : Int} (h : ¬ 1000 < xs.length) (h1 : ¬ (n < 1 ∨ 100 < n)) : meansL xs n = if xs.all (val4 10000) = true then [.l ((mnL xs n.toNat).map fun q => pt (pr q)), .i 0] else [.l [], .i 2] := by
  unfold meansL; rw [if_neg h, if_neg h1]
theorem pres_inB {xs : List Int} (h : xs.all (val4 10000) = true) (hl : xs.length ≤ 1000) (k : Nat) : -10000000 ≤ pres xs k ∧ pres xs k ≤ 10000000 := by
  obtain ⟨a, b, _, _⟩ := sum_bound (B := 10000) (by omega) (xs.take k) (fun x hx => all_mem h x (List.mem_of_mem_take hx))
  have : (xs.take k).length ≤ 1000 := by rw [List.length_take]; omega
  unfold pres
  omega
theorem pres_step {xs : List Int} (h : xs.all (val4 10000) = true) (k : Nat) : ∀ i : Nat, k + i ≤ xs.length → -(10000 * (i : Int)) ≤ pres xs (k + i) - pres xs k ∧ pres xs (k + i) - pres xs k ≤ 10000 * (i : Int)
  | 0, _ => by simp
  | i + 1, hi => by
    obtain ⟨h1, h2⟩ := pres_step h k i (by omega)
    have hlt : k + i < xs.length := by omega
    have hm := all_mem h xs[k + i] (List.getElem_mem hlt)
    rw [← Nat.add_assoc, pres_succ hlt]
    omega
theorem grp_in {xs : List Int} (h : xs.all (val4 10000) = true) {N j : Nat} (hj : j * N + N ≤ xs.length) : -(10000 * (N : Int)) ≤ grp xs N j ∧ grp xs N j ≤ 10000 * (N : Int) := pres_step h (j * N) N hj
def mout (xs : List Int) (N j : Nat) : List Sc := (List.range j).map fun i => pt (pr (Rat.divInt (grp xs N i) N))
theorem mout_succ (xs : List Int) (N j : Nat) : mout xs N (j + 1) = mout xs N j ++ [pt (pr (Rat.divInt (grp xs N j) N))] := by
  unfold mout; rw [List.range_succ, List.map_append]; rfl
theorem mout_len (xs : List Int) (N j : Nat) : (mout xs N j).length = j := by simp [mout]
theorem mout_all (xs : List Int) (N : Nat) : mout xs N (xs.length / N) = (mnL xs N).map fun q => pt (pr q) := by
  unfold mout mnL; rw [List.map_map]; rfl
theorem mnL_fit {xs : List Int} (h : xs.all (val4 10000) = true) {N : Nat} (h1 : 1 ≤ N) (h2 : N ≤ 100) : ∀ q ∈ mnL xs N, fitQ q = true := by
  intro q hq
  obtain ⟨j, hj, rfl⟩ := List.mem_map.1 hq
  have hj := List.mem_range.1 hj
  have hle : (j + 1) * N ≤ xs.length := (Nat.le_div_iff_mul_le (by omega)).1 hj
  rw [Nat.succ_mul] at hle
  have := grp_in h hle
  exact fit_small (by omega) (by unfold maxN; omega) (by unfold maxD; omega)
theorem fmeans_F (xs : List Int) (n : Int) (hl : xs.length ≤ 8796093022208) : k_batch_Means.F [.l (xs.map .i), .i n] = some (meansL xs n) := by
  simp only [k_batch_Means_F, tk_batch_Means, k_frac_Of_f, List.length_map, Go.Proofs.Ytgekeolponbifaa.T.den, Ex.ev, U1.ev, U2.ev, U3.ev, gam, List.map, List.getD_cons_zero, List.getD_cons_succ, List.length, List.cons_append, List.nil_append, if_true, Sc.int_i, Sc.bool_b, Sc.list_l, Sc.str_s, Nat.reduceEqDiff, if_false, List.getElem?_cons_zero, List.getElem?_cons_succ]
  by_cases h0 : 1000 < xs.length
  · have h0' : (1000 : Int) < xs.length := by omega
    rw [meansL_long h0]; simp only [h0', Int.natCast_nonneg, bne_iff_ne, beq_iff_eq, ne_eq, decide_eq_true_eq, Bool.and_eq_true, Bool.or_eq_true, Bool.not_eq_true', decide_eq_false_iff_not, beq_eq_false_iff_ne, bne_eq_false_iff_eq, not_true_eq_false, not_false_eq_true, if_true, if_false, reduceIte, and_true, true_and, and_false, false_and, or_false, false_or, or_true, true_or, List.getD_cons_zero, List.getD_cons_succ, List.length_cons, List.length_nil, List.cons_append, List.nil_append, Nat.reduceAdd, Nat.reduceEqDiff, reduceCtorEq, Bool.not_true, Bool.not_false, Bool.true_and, Bool.and_true, Bool.false_and, Bool.and_false, Bool.or_true, Bool.true_or, Bool.or_false, Bool.false_or, Bool.false_eq_true, Bool.true_eq_false, Sc.int_i, Sc.bool_b, Sc.list_l, Sc.str_s, Int.reduceEq, Int.reduceLT, Int.reduceLE, Int.reduceNe, decide_true, decide_false, decide_not, eq_self, Classical.not_not, List.getElem?_cons_zero, List.getElem?_cons_succ, beq_self_eq_true, bne_self_eq_false]
  have h0' : ¬ (1000 : Int) < xs.length := by omega
  by_cases h1 : n < 1
  · rw [meansL_out h0 (.inl h1)]; simp only [h0', h1, Int.natCast_nonneg, bne_iff_ne, beq_iff_eq, ne_eq, decide_eq_true_eq, Bool.and_eq_true, Bool.or_eq_true, Bool.not_eq_true', decide_eq_false_iff_not, beq_eq_false_iff_ne, bne_eq_false_iff_eq, not_true_eq_false, not_false_eq_true, if_true, if_false, reduceIte, and_true, true_and, and_false, false_and, or_false, false_or, or_true, true_or, List.getD_cons_zero, List.getD_cons_succ, List.length_cons, List.length_nil, List.cons_append, List.nil_append, Nat.reduceAdd, Nat.reduceEqDiff, reduceCtorEq, Bool.not_true, Bool.not_false, Bool.true_and, Bool.and_true, Bool.false_and, Bool.and_false, Bool.or_true, Bool.true_or, Bool.or_false, Bool.false_or, Bool.false_eq_true, Bool.true_eq_false, Sc.int_i, Sc.bool_b, Sc.list_l, Sc.str_s, Int.reduceEq, Int.reduceLT, Int.reduceLE, Int.reduceNe, decide_true, decide_false, decide_not, eq_self, Classical.not_not, List.getElem?_cons_zero, List.getElem?_cons_succ, beq_self_eq_true, bne_self_eq_false]
  by_cases h2 : 100 < n
  · rw [meansL_out h0 (.inr h2)]; simp only [h0', h1, h2, Int.natCast_nonneg, bne_iff_ne, beq_iff_eq, ne_eq, decide_eq_true_eq, Bool.and_eq_true, Bool.or_eq_true, Bool.not_eq_true', decide_eq_false_iff_not, beq_eq_false_iff_ne, bne_eq_false_iff_eq, not_true_eq_false, not_false_eq_true, if_true, if_false, reduceIte, and_true, true_and, and_false, false_and, or_false, false_or, or_true, true_or, List.getD_cons_zero, List.getD_cons_succ, List.length_cons, List.length_nil, List.cons_append, List.nil_append, Nat.reduceAdd, Nat.reduceEqDiff, reduceCtorEq, Bool.not_true, Bool.not_false, Bool.true_and, Bool.and_true, Bool.false_and, Bool.and_false, Bool.or_true, Bool.true_or, Bool.or_false, Bool.false_or, Bool.false_eq_true, Bool.true_eq_false, Sc.int_i, Sc.bool_b, Sc.list_l, Sc.str_s, Int.reduceEq, Int.reduceLT, Int.reduceLE, Int.reduceNe, decide_true, decide_false, decide_not, eq_self, Classical.not_not, List.getElem?_cons_zero, List.getElem?_cons_succ, beq_self_eq_true, bne_self_eq_false]
  rw [meansL_mid h0 (by omega)]
  simp only [h0', h1, h2, Int.natCast_nonneg, bne_iff_ne, beq_iff_eq, ne_eq, decide_eq_true_eq, Bool.and_eq_true, Bool.or_eq_true, Bool.not_eq_true', decide_eq_false_iff_not, beq_eq_false_iff_ne, bne_eq_false_iff_eq, not_true_eq_false, not_false_eq_true, if_true, if_false, reduceIte, and_true, true_and, and_false, false_and, or_false, false_or, or_true, true_or, List.getD_cons_zero, List.getD_cons_succ, List.length_cons, List.length_nil, List.cons_append, List.nil_append, Nat.reduceAdd, Nat.reduceEqDiff, reduceCtorEq, Bool.not_true, Bool.not_false, Bool.true_and, Bool.and_true, Bool.false_and, Bool.and_false, Bool.or_true, Bool.true_or, Bool.or_false, Bool.false_or, Bool.false_eq_true, Bool.true_eq_false, Sc.int_i, Sc.bool_b, Sc.list_l, Sc.str_s, Int.reduceEq, Int.reduceLT, Int.reduceLE, Int.reduceNe, decide_true, decide_false, decide_not, eq_self, Classical.not_not, List.getElem?_cons_zero, List.getElem?_cons_succ, beq_self_eq_true, bne_self_eq_false]
  obtain ⟨N, rfl⟩ : ∃ N : Nat, n = N := ⟨n.toNat, by omega⟩
  rw [Int.toNat_natCast]
  refine (find_loop xs (val4 10000) (some [.l [], .i 2]) (some [.l ((mnL xs N).map fun q => pt (pr q)), .i 0]) (by omega) ?_ ?_ ?_).trans (by split <;> rfl)
  · intro i rec h hp
    have hi := idx_map Sc.i xs i h
    have hil : (i : Int) < xs.length := by omega
    have hw := succ_w (n := xs.length) h (by omega)
    have hv := val4_true.1 hp
    have c1 : ¬ xs[i] < -10000 := by omega
    have c2 : ¬ 10000 < xs[i] := by omega
    simp only [hi, hil, hw, c1, c2, Int.natCast_nonneg, bne_iff_ne, beq_iff_eq, ne_eq, decide_eq_true_eq, Bool.and_eq_true, Bool.or_eq_true, Bool.not_eq_true', decide_eq_false_iff_not, beq_eq_false_iff_ne, bne_eq_false_iff_eq, not_true_eq_false, not_false_eq_true, if_true, if_false, reduceIte, and_true, true_and, and_false, false_and, or_false, false_or, or_true, true_or, List.getD_cons_zero, List.getD_cons_succ, List.length_cons, List.length_nil, List.cons_append, List.nil_append, Nat.reduceAdd, Nat.reduceEqDiff, reduceCtorEq, Bool.not_true, Bool.not_false, Bool.true_and, Bool.and_true, Bool.false_and, Bool.and_false, Bool.or_true, Bool.true_or, Bool.or_false, Bool.false_or, Bool.false_eq_true, Bool.true_eq_false, Sc.int_i, Sc.bool_b, Sc.list_l, Sc.str_s, Int.reduceEq, Int.reduceLT, Int.reduceLE, Int.reduceNe, decide_true, decide_false, decide_not, eq_self, Classical.not_not, List.getElem?_cons_zero, List.getElem?_cons_succ, beq_self_eq_true, bne_self_eq_false]
  · intro i rec h hp
    have hi := idx_map Sc.i xs i h
    have hil : (i : Int) < xs.length := by omega
    have hv : ¬ (-10000 ≤ xs[i] ∧ xs[i] ≤ 10000) := fun h => by rw [val4_true.2 h] at hp; cases hp
    by_cases c1 : xs[i] < -10000
    · simp only [hi, hil, c1, Int.natCast_nonneg, bne_iff_ne, beq_iff_eq, ne_eq, decide_eq_true_eq, Bool.and_eq_true, Bool.or_eq_true, Bool.not_eq_true', decide_eq_false_iff_not, beq_eq_false_iff_ne, bne_eq_false_iff_eq, not_true_eq_false, not_false_eq_true, if_true, if_false, reduceIte, and_true, true_and, and_false, false_and, or_false, false_or, or_true, true_or, List.getD_cons_zero, List.getD_cons_succ, List.length_cons, List.length_nil, List.cons_append, List.nil_append, Nat.reduceAdd, Nat.reduceEqDiff, reduceCtorEq, Bool.not_true, Bool.not_false, Bool.true_and, Bool.and_true, Bool.false_and, Bool.and_false, Bool.or_true, Bool.true_or, Bool.or_false, Bool.false_or, Bool.false_eq_true, Bool.true_eq_false, Sc.int_i, Sc.bool_b, Sc.list_l, Sc.str_s, Int.reduceEq, Int.reduceLT, Int.reduceLE, Int.reduceNe, decide_true, decide_false, decide_not, eq_self, Classical.not_not, List.getElem?_cons_zero, List.getElem?_cons_succ, beq_self_eq_true, bne_self_eq_false]
    · have c2 : 10000 < xs[i] := by omega
      simp only [hi, hil, c1, c2, Int.natCast_nonneg, bne_iff_ne, beq_iff_eq, ne_eq, decide_eq_true_eq, Bool.and_eq_true, Bool.or_eq_true, Bool.not_eq_true', decide_eq_false_iff_not, beq_eq_false_iff_ne, bne_eq_false_iff_eq, not_true_eq_false, not_false_eq_true, if_true, if_false, reduceIte, and_true, true_and, and_false, false_and, or_false, false_or, or_true, true_or, List.getD_cons_zero, List.getD_cons_succ, List.length_cons, List.length_nil, List.cons_append, List.nil_append, Nat.reduceAdd, Nat.reduceEqDiff, reduceCtorEq, Bool.not_true, Bool.not_false, Bool.true_and, Bool.and_true, Bool.false_and, Bool.and_false, Bool.or_true, Bool.true_or, Bool.or_false, Bool.false_or, Bool.false_eq_true, Bool.true_eq_false, Sc.int_i, Sc.bool_b, Sc.list_l, Sc.str_s, Int.reduceEq, Int.reduceLT, Int.reduceLE, Int.reduceNe, decide_true, decide_false, decide_not, eq_self, Classical.not_not, List.getElem?_cons_zero, List.getElem?_cons_succ, beq_self_eq_true, bne_self_eq_false]
  · intro rec hall
    simp only [Int.lt_irrefl, Int.natCast_nonneg, bne_iff_ne, beq_iff_eq, ne_eq, decide_eq_true_eq, Bool.and_eq_true, Bool.or_eq_true, Bool.not_eq_true', decide_eq_false_iff_not, beq_eq_false_iff_ne, bne_eq_false_iff_eq, not_true_eq_false, not_false_eq_true, if_true, if_false, reduceIte, and_true, true_and, and_false, false_and, or_false, false_or, or_true, true_or, List.getD_cons_zero, List.getD_cons_succ, List.length_cons, List.length_nil, List.cons_append, List.nil_append, Nat.reduceAdd, Nat.reduceEqDiff, reduceCtorEq, Bool.not_true, Bool.not_false, Bool.true_and, Bool.and_true, Bool.false_and, Bool.and_false, Bool.or_true, Bool.true_or, Bool.or_false, Bool.false_or, Bool.false_eq_true, Bool.true_eq_false, Sc.int_i, Sc.bool_b, Sc.list_l, Sc.str_s, Int.reduceEq, Int.reduceLT, Int.reduceLE, Int.reduceNe, decide_true, decide_false, decide_not, eq_self, Classical.not_not, List.getElem?_cons_zero, List.getElem?_cons_succ, beq_self_eq_true, bne_self_eq_false]
    have hN0 : (0 : Int) ≤ N := by omega
    have conv : ([.l [], .i 0, .i (xs.length : Int)] : List Sc) = [.l (mout xs N 0), .i ((0 * N : Nat) : Int), .i ((xs.length - 0 * N : Nat) : Int)] := by simp [mout]
    rw [conv, ← mout_all]
    refine loop_rounds (S := Nat) (fun j => [.l (mout xs N j), .i ((j * N : Nat) : Int), .i ((xs.length - j * N : Nat) : Int)]) (fun _ => some [.l (mout xs N (xs.length / N)), .i 0]) (fun j => j ≤ xs.length / N) (fun j => xs.length / N - j) ?_ 0 (Nat.zero_le _) (Nat.lt_of_le_of_lt (Nat.le_trans (Nat.sub_le _ _) (Nat.div_le_self _ _)) (by omega))
    intro j rec2 hj hrec2
    have hjle : j * N ≤ xs.length := by
      have := Nat.mul_le_mul_right N hj
      have := Nat.div_mul_le_self xs.length N
      omega
    have w7 : IntKind.i64.wrap (((j * N : Nat) : Int) + N) = ((j * N + N : Nat) : Int) := by rw [wrI (by omega) (by omega)]; omega
    by_cases hlt : j + 1 ≤ xs.length / N
    · have hle : (j + 1) * N ≤ xs.length := (Nat.le_div_iff_mul_le (by omega)).1 hlt
      rw [Nat.succ_mul] at hle
      have hr2 := hrec2 (j + 1) hlt (by omega)
      rw [Nat.succ_mul, mout_succ] at hr2
      have gb := grp_in hall (N := N) (j := j) (by omega)
      have of := fOf_F (grp xs N j) N ⟨by omega, by omega⟩ ⟨by omega, by omega⟩
      rw [ofQ_fit (by omega) (by unfold maxN; omega) (by unfold maxD; omega)] at of
      have c1 : (N : Int) ≤ ((xs.length - j * N : Nat) : Int) := by omega
      have w0 : IntKind.i64.wrap ((N : Int) - 0) = N := by rw [wrI (by omega) (by omega)]; omega
      have w1 : IntKind.i64.wrap (((j * N : Nat) : Int) + 0) = ((j * N : Nat) : Int) := by rw [wrI (by omega) (by omega)]; omega
      simp only [c1, w0, w1, hN0, Int.natCast_nonneg, bne_iff_ne, beq_iff_eq, ne_eq, decide_eq_true_eq, Bool.and_eq_true, Bool.or_eq_true, Bool.not_eq_true', decide_eq_false_iff_not, beq_eq_false_iff_ne, bne_eq_false_iff_eq, not_true_eq_false, not_false_eq_true, if_true, if_false, reduceIte, and_true, true_and, and_false, false_and, or_false, false_or, or_true, true_or, List.getD_cons_zero, List.getD_cons_succ, List.length_cons, List.length_nil, List.cons_append, List.nil_append, Nat.reduceAdd, Nat.reduceEqDiff, reduceCtorEq, Bool.not_true, Bool.not_false, Bool.true_and, Bool.and_true, Bool.false_and, Bool.and_false, Bool.or_true, Bool.true_or, Bool.or_false, Bool.false_or, Bool.false_eq_true, Bool.true_eq_false, Sc.int_i, Sc.bool_b, Sc.list_l, Sc.str_s, Int.reduceEq, Int.reduceLT, Int.reduceLE, Int.reduceNe, decide_true, decide_false, decide_not, eq_self, Classical.not_not, List.getElem?_cons_zero, List.getElem?_cons_succ, beq_self_eq_true, bne_self_eq_false]
      have conv2 : ([.i 0, .i 0] : List Sc) = [.i (pres xs (j * N + 0) - pres xs (j * N)), .i ((0 : Nat) : Int)] := by simp
      rw [conv2]
      refine loop_rounds (S := Nat) (fun i => [.i (pres xs (j * N + i) - pres xs (j * N)), .i (i : Int)]) (fun _ => some [.l (mout xs N (xs.length / N)), .i 0]) (fun i => i ≤ N) (fun i => N - i) ?_ 0 (by omega) (by omega)
      intro i rec3 hi3 hrec3
      have b1 := pres_inB hall (by omega) (j * N + i)
      have b2 := pres_inB hall (by omega) (j * N)
      by_cases hin : i < N
      · have hidx : j * N + i < xs.length := by omega
        have hi := idx_map Sc.i xs (j * N + i) hidx
        have hps := pres_succ hidx
        have b3 := pres_inB hall (by omega) (j * N + i + 1)
        rw [hps] at b3
        have w2 : IntKind.i64.wrap (((j * N : Nat) : Int) + i) = ((j * N + i : Nat) : Int) := by rw [wrI (by omega) (by omega)]; omega
        have w3 : IntKind.i64.wrap (pres xs (j * N + i) - pres xs (j * N) + xs[j * N + i]) = pres xs (j * N + i) + xs[j * N + i] - pres xs (j * N) := by rw [wrI (by omega) (by omega)]; omega
        have hr3 := hrec3 (i + 1) (by omega) (by omega)
        rw [← Nat.add_assoc, hps] at hr3
        have hin' : (i : Int) < N := by omega
        have w4 : IntKind.i64.wrap ((i : Int) + 1) = ((i + 1 : Nat) : Int) := by rw [wrI (by omega) (by omega)]; omega
        simp only [hin', w2, hi, w3, w4, hr3, Int.natCast_nonneg, bne_iff_ne, beq_iff_eq, ne_eq, decide_eq_true_eq, Bool.and_eq_true, Bool.or_eq_true, Bool.not_eq_true', decide_eq_false_iff_not, beq_eq_false_iff_ne, bne_eq_false_iff_eq, not_true_eq_false, not_false_eq_true, if_true, if_false, reduceIte, and_true, true_and, and_false, false_and, or_false, false_or, or_true, true_or, List.getD_cons_zero, List.getD_cons_succ, List.length_cons, List.length_nil, List.cons_append, List.nil_append, Nat.reduceAdd, Nat.reduceEqDiff, reduceCtorEq, Bool.not_true, Bool.not_false, Bool.true_and, Bool.and_true, Bool.false_and, Bool.and_false, Bool.or_true, Bool.true_or, Bool.or_false, Bool.false_or, Bool.false_eq_true, Bool.true_eq_false, Sc.int_i, Sc.bool_b, Sc.list_l, Sc.str_s, Int.reduceEq, Int.reduceLT, Int.reduceLE, Int.reduceNe, decide_true, decide_false, decide_not, eq_self, Classical.not_not, List.getElem?_cons_zero, List.getElem?_cons_succ, beq_self_eq_true, bne_self_eq_false]
      · have ei : i = N := by omega
        subst ei
        have hin' : ¬ (i : Int) < i := by omega
        have w6 : IntKind.i64.wrap (((xs.length - j * i : Nat) : Int) - i) = ((xs.length - (j * i + i) : Nat) : Int) := by rw [wrI (by omega) (by omega)]; omega
        unfold grp at of hr2
        generalize Rat.divInt (pres xs (j * i + i) - pres xs (j * i)) i = q at *
        have hsn : ((mout xs i j ++ [Sc.l [.i q.num, .i q.den]]).length : Int) ≤ 8796093022208 := by
          rw [List.length_append, mout_len]; have := Nat.div_le_self xs.length i; simp only [List.length_cons, List.length_nil]; omega
        simp only [pt_pr] at hr2
        simp only [hin', of, hsn, c1, Int.le_refl, w7, w6, hr2, Int.natCast_nonneg, bne_iff_ne, beq_iff_eq, ne_eq, decide_eq_true_eq, Bool.and_eq_true, Bool.or_eq_true, Bool.not_eq_true', decide_eq_false_iff_not, beq_eq_false_iff_ne, bne_eq_false_iff_eq, not_true_eq_false, not_false_eq_true, if_true, if_false, reduceIte, and_true, true_and, and_false, false_and, or_false, false_or, or_true, true_or, List.getD_cons_zero, List.getD_cons_succ, List.length_cons, List.length_nil, List.cons_append, List.nil_append, Nat.reduceAdd, Nat.reduceEqDiff, reduceCtorEq, Bool.not_true, Bool.not_false, Bool.true_and, Bool.and_true, Bool.false_and, Bool.and_false, Bool.or_true, Bool.true_or, Bool.or_false, Bool.false_or, Bool.false_eq_true, Bool.true_eq_false, Sc.int_i, Sc.bool_b, Sc.list_l, Sc.str_s, Int.reduceEq, Int.reduceLT, Int.reduceLE, Int.reduceNe, decide_true, decide_false, decide_not, eq_self, Classical.not_not, List.getElem?_cons_zero, List.getElem?_cons_succ, beq_self_eq_true, bne_self_eq_false]
    · have ej : j = xs.length / N := by omega
      have c1 : ¬ (N : Int) ≤ ((xs.length - j * N : Nat) : Int) := by
        intro h
        refine hlt ((Nat.le_div_iff_mul_le (by omega)).2 ?_)
        rw [Nat.succ_mul]; omega
      rw [← ej]
      simp only [c1, Int.natCast_nonneg, bne_iff_ne, beq_iff_eq, ne_eq, decide_eq_true_eq, Bool.and_eq_true, Bool.or_eq_true, Bool.not_eq_true', decide_eq_false_iff_not, beq_eq_false_iff_ne, bne_eq_false_iff_eq, not_true_eq_false, not_false_eq_true, if_true, if_false, reduceIte, and_true, true_and, and_false, false_and, or_false, false_or, or_true, true_or, List.getD_cons_zero, List.getD_cons_succ, List.length_cons, List.length_nil, List.cons_append, List.nil_append, Nat.reduceAdd, Nat.reduceEqDiff, reduceCtorEq, Bool.not_true, Bool.not_false, Bool.true_and, Bool.and_true, Bool.false_and, Bool.and_false, Bool.or_true, Bool.true_or, Bool.or_false, Bool.false_or, Bool.false_eq_true, Bool.true_eq_false, Sc.int_i, Sc.bool_b, Sc.list_l, Sc.str_s, Int.reduceEq, Int.reduceLT, Int.reduceLE, Int.reduceNe, decide_true, decide_false, decide_not, eq_self, Classical.not_not, List.getElem?_cons_zero, List.getElem?_cons_succ, beq_self_eq_true, bne_self_eq_false]
theorem rmeans_F (xs : List Int) (n : Int) (hl : xs.length ≤ 8796093022208) : k_simulatorref48_Means.F [.l (xs.map .i), .i n] = some (meansL xs n) := by
  simp only [k_simulatorref48_Means_F, tk_simulatorref48_Means, k_simulatorref02_Of_f, List.length_map, Go.Proofs.Ytgekeolponbifaa.T.den, Ex.ev, U1.ev, U2.ev, U3.ev, gam, List.map, List.getD_cons_zero, List.getD_cons_succ, List.length, List.cons_append, List.nil_append, if_true, Sc.int_i, Sc.bool_b, Sc.list_l, Sc.str_s, Nat.reduceEqDiff, if_false, List.getElem?_cons_zero, List.getElem?_cons_succ]
  by_cases h0 : 1000 < xs.length
  · have h0' : (1000 : Int) < xs.length := by omega
    rw [meansL_long h0]; simp only [h0', Int.natCast_nonneg, bne_iff_ne, beq_iff_eq, ne_eq, decide_eq_true_eq, Bool.and_eq_true, Bool.or_eq_true, Bool.not_eq_true', decide_eq_false_iff_not, beq_eq_false_iff_ne, bne_eq_false_iff_eq, not_true_eq_false, not_false_eq_true, if_true, if_false, reduceIte, and_true, true_and, and_false, false_and, or_false, false_or, or_true, true_or, List.getD_cons_zero, List.getD_cons_succ, List.length_cons, List.length_nil, List.cons_append, List.nil_append, Nat.reduceAdd, Nat.reduceEqDiff, reduceCtorEq, Bool.not_true, Bool.not_false, Bool.true_and, Bool.and_true, Bool.false_and, Bool.and_false, Bool.or_true, Bool.true_or, Bool.or_false, Bool.false_or, Bool.false_eq_true, Bool.true_eq_false, Sc.int_i, Sc.bool_b, Sc.list_l, Sc.str_s, Int.reduceEq, Int.reduceLT, Int.reduceLE, Int.reduceNe, decide_true, decide_false, decide_not, eq_self, Classical.not_not, List.getElem?_cons_zero, List.getElem?_cons_succ, beq_self_eq_true, bne_self_eq_false]
  have h0' : ¬ (1000 : Int) < xs.length := by omega
  by_cases h1 : n < 1
  · rw [meansL_out h0 (.inl h1)]; simp only [h0', h1, Int.natCast_nonneg, bne_iff_ne, beq_iff_eq, ne_eq, decide_eq_true_eq, Bool.and_eq_true, Bool.or_eq_true, Bool.not_eq_true', decide_eq_false_iff_not, beq_eq_false_iff_ne, bne_eq_false_iff_eq, not_true_eq_false, not_false_eq_true, if_true, if_false, reduceIte, and_true, true_and, and_false, false_and, or_false, false_or, or_true, true_or, List.getD_cons_zero, List.getD_cons_succ, List.length_cons, List.length_nil, List.cons_append, List.nil_append, Nat.reduceAdd, Nat.reduceEqDiff, reduceCtorEq, Bool.not_true, Bool.not_false, Bool.true_and, Bool.and_true, Bool.false_and, Bool.and_false, Bool.or_true, Bool.true_or, Bool.or_false, Bool.false_or, Bool.false_eq_true, Bool.true_eq_false, Sc.int_i, Sc.bool_b, Sc.list_l, Sc.str_s, Int.reduceEq, Int.reduceLT, Int.reduceLE, Int.reduceNe, decide_true, decide_false, decide_not, eq_self, Classical.not_not, List.getElem?_cons_zero, List.getElem?_cons_succ, beq_self_eq_true, bne_self_eq_false]
  by_cases h2 : 100 < n
  · rw [meansL_out h0 (.inr h2)]; simp only [h0', h1, h2, Int.natCast_nonneg, bne_iff_ne, beq_iff_eq, ne_eq, decide_eq_true_eq, Bool.and_eq_true, Bool.or_eq_true, Bool.not_eq_true', decide_eq_false_iff_not, beq_eq_false_iff_ne, bne_eq_false_iff_eq, not_true_eq_false, not_false_eq_true, if_true, if_false, reduceIte, and_true, true_and, and_false, false_and, or_false, false_or, or_true, true_or, List.getD_cons_zero, List.getD_cons_succ, List.length_cons, List.length_nil, List.cons_append, List.nil_append, Nat.reduceAdd, Nat.reduceEqDiff, reduceCtorEq, Bool.not_true, Bool.not_false, Bool.true_and, Bool.and_true, Bool.false_and, Bool.and_false, Bool.or_true, Bool.true_or, Bool.or_false, Bool.false_or, Bool.false_eq_true, Bool.true_eq_false, Sc.int_i, Sc.bool_b, Sc.list_l, Sc.str_s, Int.reduceEq, Int.reduceLT, Int.reduceLE, Int.reduceNe, decide_true, decide_false, decide_not, eq_self, Classical.not_not, List.getElem?_cons_zero, List.getElem?_cons_succ, beq_self_eq_true, bne_self_eq_false]
  rw [meansL_mid h0 (by omega)]
  simp only [h0', h1, h2, Int.natCast_nonneg, bne_iff_ne, beq_iff_eq, ne_eq, decide_eq_true_eq, Bool.and_eq_true, Bool.or_eq_true, Bool.not_eq_true', decide_eq_false_iff_not, beq_eq_false_iff_ne, bne_eq_false_iff_eq, not_true_eq_false, not_false_eq_true, if_true, if_false, reduceIte, and_true, true_and, and_false, false_and, or_false, false_or, or_true, true_or, List.getD_cons_zero, List.getD_cons_succ, List.length_cons, List.length_nil, List.cons_append, List.nil_append, Nat.reduceAdd, Nat.reduceEqDiff, reduceCtorEq, Bool.not_true, Bool.not_false, Bool.true_and, Bool.and_true, Bool.false_and, Bool.and_false, Bool.or_true, Bool.true_or, Bool.or_false, Bool.false_or, Bool.false_eq_true, Bool.true_eq_false, Sc.int_i, Sc.bool_b, Sc.list_l, Sc.str_s, Int.reduceEq, Int.reduceLT, Int.reduceLE, Int.reduceNe, decide_true, decide_false, decide_not, eq_self, Classical.not_not, List.getElem?_cons_zero, List.getElem?_cons_succ, beq_self_eq_true, bne_self_eq_false]
  obtain ⟨N, rfl⟩ : ∃ N : Nat, n = N := ⟨n.toNat, by omega⟩
  rw [Int.toNat_natCast]
  refine (find_loop xs (val4 10000) (some [.l [], .i 2]) (some [.l ((mnL xs N).map fun q => pt (pr q)), .i 0]) (by omega) ?_ ?_ ?_).trans (by split <;> rfl)
  · intro i rec h hp
    have hi := idx_map Sc.i xs i h
    have hil : (i : Int) < xs.length := by omega
    have hw := succ_w (n := xs.length) h (by omega)
    have hv := val4_true.1 hp
    have c1 : ¬ xs[i] < -10000 := by omega
    have c2 : ¬ 10000 < xs[i] := by omega
    simp only [hi, hil, hw, c1, c2, Int.natCast_nonneg, bne_iff_ne, beq_iff_eq, ne_eq, decide_eq_true_eq, Bool.and_eq_true, Bool.or_eq_true, Bool.not_eq_true', decide_eq_false_iff_not, beq_eq_false_iff_ne, bne_eq_false_iff_eq, not_true_eq_false, not_false_eq_true, if_true, if_false, reduceIte, and_true, true_and, and_false, false_and, or_false, false_or, or_true, true_or, List.getD_cons_zero, List.getD_cons_succ, List.length_cons, List.length_nil, List.cons_append, List.nil_append, Nat.reduceAdd, Nat.reduceEqDiff, reduceCtorEq, Bool.not_true, Bool.not_false, Bool.true_and, Bool.and_true, Bool.false_and, Bool.and_false, Bool.or_true, Bool.true_or, Bool.or_false, Bool.false_or, Bool.false_eq_true, Bool.true_eq_false, Sc.int_i, Sc.bool_b, Sc.list_l, Sc.str_s, Int.reduceEq, Int.reduceLT, Int.reduceLE, Int.reduceNe, decide_true, decide_false, decide_not, eq_self, Classical.not_not, List.getElem?_cons_zero, List.getElem?_cons_succ, beq_self_eq_true, bne_self_eq_false]
  · intro i rec h hp
    have hi := idx_map Sc.i xs i h
    have hil : (i : Int) < xs.length := by omega
    have hv : ¬ (-10000 ≤ xs[i] ∧ xs[i] ≤ 10000) := fun h => by rw [val4_true.2 h] at hp; cases hp
    by_cases c1 : xs[i] < -10000
    · simp only [hi, hil, c1, Int.natCast_nonneg, bne_iff_ne, beq_iff_eq, ne_eq, decide_eq_true_eq, Bool.and_eq_true, Bool.or_eq_true, Bool.not_eq_true', decide_eq_false_iff_not, beq_eq_false_iff_ne, bne_eq_false_iff_eq, not_true_eq_false, not_false_eq_true, if_true, if_false, reduceIte, and_true, true_and, and_false, false_and, or_false, false_or, or_true, true_or, List.getD_cons_zero, List.getD_cons_succ, List.length_cons, List.length_nil, List.cons_append, List.nil_append, Nat.reduceAdd, Nat.reduceEqDiff, reduceCtorEq, Bool.not_true, Bool.not_false, Bool.true_and, Bool.and_true, Bool.false_and, Bool.and_false, Bool.or_true, Bool.true_or, Bool.or_false, Bool.false_or, Bool.false_eq_true, Bool.true_eq_false, Sc.int_i, Sc.bool_b, Sc.list_l, Sc.str_s, Int.reduceEq, Int.reduceLT, Int.reduceLE, Int.reduceNe, decide_true, decide_false, decide_not, eq_self, Classical.not_not, List.getElem?_cons_zero, List.getElem?_cons_succ, beq_self_eq_true, bne_self_eq_false]
    · have c2 : 10000 < xs[i] := by omega
      simp only [hi, hil, c1, c2, Int.natCast_nonneg, bne_iff_ne, beq_iff_eq, ne_eq, decide_eq_true_eq, Bool.and_eq_true, Bool.or_eq_true, Bool.not_eq_true', decide_eq_false_iff_not, beq_eq_false_iff_ne, bne_eq_false_iff_eq, not_true_eq_false, not_false_eq_true, if_true, if_false, reduceIte, and_true, true_and, and_false, false_and, or_false, false_or, or_true, true_or, List.getD_cons_zero, List.getD_cons_succ, List.length_cons, List.length_nil, List.cons_append, List.nil_append, Nat.reduceAdd, Nat.reduceEqDiff, reduceCtorEq, Bool.not_true, Bool.not_false, Bool.true_and, Bool.and_true, Bool.false_and, Bool.and_false, Bool.or_true, Bool.true_or, Bool.or_false, Bool.false_or, Bool.false_eq_true, Bool.true_eq_false, Sc.int_i, Sc.bool_b, Sc.list_l, Sc.str_s, Int.reduceEq, Int.reduceLT, Int.reduceLE, Int.reduceNe, decide_true, decide_false, decide_not, eq_self, Classical.not_not, List.getElem?_cons_zero, List.getElem?_cons_succ, beq_self_eq_true, bne_self_eq_false]
  · intro rec hall
    simp only [Int.lt_irrefl, Int.natCast_nonneg, bne_iff_ne, beq_iff_eq, ne_eq, decide_eq_true_eq, Bool.and_eq_true, Bool.or_eq_true, Bool.not_eq_true', decide_eq_false_iff_not, beq_eq_false_iff_ne, bne_eq_false_iff_eq, not_true_eq_false, not_false_eq_true, if_true, if_false, reduceIte, and_true, true_and, and_false, false_and, or_false, false_or, or_true, true_or, List.getD_cons_zero, List.getD_cons_succ, List.length_cons, List.length_nil, List.cons_append, List.nil_append, Nat.reduceAdd, Nat.reduceEqDiff, reduceCtorEq, Bool.not_true, Bool.not_false, Bool.true_and, Bool.and_true, Bool.false_and, Bool.and_false, Bool.or_true, Bool.true_or, Bool.or_false, Bool.false_or, Bool.false_eq_true, Bool.true_eq_false, Sc.int_i, Sc.bool_b, Sc.list_l, Sc.str_s, Int.reduceEq, Int.reduceLT, Int.reduceLE, Int.reduceNe, decide_true, decide_false, decide_not, eq_self, Classical.not_not, List.getElem?_cons_zero, List.getElem?_cons_succ, beq_self_eq_true, bne_self_eq_false]
    have hN0 : (0 : Int) ≤ N := by omega
    have conv : ([.l [], .i 0] : List Sc) = [.l (mout xs N 0), .i ((0 * N : Nat) : Int)] := by simp [mout]
    rw [conv, ← mout_all]
    refine loop_rounds (S := Nat) (fun j => [.l (mout xs N j), .i ((j * N : Nat) : Int)]) (fun _ => some [.l (mout xs N (xs.length / N)), .i 0]) (fun j => j ≤ xs.length / N) (fun j => xs.length / N - j) ?_ 0 (Nat.zero_le _) (Nat.lt_of_le_of_lt (Nat.le_trans (Nat.sub_le _ _) (Nat.div_le_self _ _)) (by omega))
    intro j rec2 hj hrec2
    have hjle : j * N ≤ xs.length := by
      have := Nat.mul_le_mul_right N hj
      have := Nat.div_mul_le_self xs.length N
      omega
    have w7 : IntKind.i64.wrap (((j * N : Nat) : Int) + N) = ((j * N + N : Nat) : Int) := by rw [wrI (by omega) (by omega)]; omega
    by_cases hlt : j + 1 ≤ xs.length / N
    · have hle : (j + 1) * N ≤ xs.length := (Nat.le_div_iff_mul_le (by omega)).1 hlt
      rw [Nat.succ_mul] at hle
      have hr2 := hrec2 (j + 1) hlt (by omega)
      rw [Nat.succ_mul, mout_succ] at hr2
      have gb := grp_in hall (N := N) (j := j) (by omega)
      have of := rOf_F (grp xs N j) N ⟨by omega, by omega⟩ ⟨by omega, by omega⟩
      rw [ofQ_fit (by omega) (by unfold maxN; omega) (by unfold maxD; omega)] at of
      have c1 : ((j * N + N : Nat) : Int) ≤ (xs.length : Int) := by omega
      simp only [w7, c1, Int.natCast_nonneg, bne_iff_ne, beq_iff_eq, ne_eq, decide_eq_true_eq, Bool.and_eq_true, Bool.or_eq_true, Bool.not_eq_true', decide_eq_false_iff_not, beq_eq_false_iff_ne, bne_eq_false_iff_eq, not_true_eq_false, not_false_eq_true, if_true, if_false, reduceIte, and_true, true_and, and_false, false_and, or_false, false_or, or_true, true_or, List.getD_cons_zero, List.getD_cons_succ, List.length_cons, List.length_nil, List.cons_append, List.nil_append, Nat.reduceAdd, Nat.reduceEqDiff, reduceCtorEq, Bool.not_true, Bool.not_false, Bool.true_and, Bool.and_true, Bool.false_and, Bool.and_false, Bool.or_true, Bool.true_or, Bool.or_false, Bool.false_or, Bool.false_eq_true, Bool.true_eq_false, Sc.int_i, Sc.bool_b, Sc.list_l, Sc.str_s, Int.reduceEq, Int.reduceLT, Int.reduceLE, Int.reduceNe, decide_true, decide_false, decide_not, eq_self, Classical.not_not, List.getElem?_cons_zero, List.getElem?_cons_succ, beq_self_eq_true, bne_self_eq_false]
      have conv2 : ([.i 0, .i ((j * N : Nat) : Int)] : List Sc) = [.i (pres xs (j * N + 0) - pres xs (j * N)), .i ((j * N + 0 : Nat) : Int)] := by simp
      rw [conv2]
      refine loop_rounds (S := Nat) (fun i => [.i (pres xs (j * N + i) - pres xs (j * N)), .i ((j * N + i : Nat) : Int)]) (fun _ => some [.l (mout xs N (xs.length / N)), .i 0]) (fun i => i ≤ N) (fun i => N - i) ?_ 0 (by omega) (by omega)
      intro i rec3 hi3 hrec3
      have b1 := pres_inB hall (by omega) (j * N + i)
      have b2 := pres_inB hall (by omega) (j * N)
      by_cases hin : i < N
      · have hidx : j * N + i < xs.length := by omega
        have hi := idx_map Sc.i xs (j * N + i) hidx
        have hps := pres_succ hidx
        have b3 := pres_inB hall (by omega) (j * N + i + 1)
        rw [hps] at b3
        have w2 : IntKind.i64.wrap (((j * N : Nat) : Int) + i) = ((j * N + i : Nat) : Int) := by rw [wrI (by omega) (by omega)]; omega
        have w3 : IntKind.i64.wrap (pres xs (j * N + i) - pres xs (j * N) + xs[j * N + i]) = pres xs (j * N + i) + xs[j * N + i] - pres xs (j * N) := by rw [wrI (by omega) (by omega)]; omega
        have hr3 := hrec3 (i + 1) (by omega) (by omega)
        rw [← Nat.add_assoc, hps] at hr3
        have hin' : ((j * N + i : Nat) : Int) < ((j * N + N : Nat) : Int) := by omega
        have hidx' : ((j * N + i : Nat) : Int) < (xs.length : Int) := by omega
        have w4 : IntKind.i64.wrap (((j * N + i : Nat) : Int) + 1) = ((j * N + i + 1 : Nat) : Int) := by rw [wrI (by omega) (by omega)]; omega
        simp only [w7, hin', hidx', hi, w3, w4, hr3, Int.natCast_nonneg, bne_iff_ne, beq_iff_eq, ne_eq, decide_eq_true_eq, Bool.and_eq_true, Bool.or_eq_true, Bool.not_eq_true', decide_eq_false_iff_not, beq_eq_false_iff_ne, bne_eq_false_iff_eq, not_true_eq_false, not_false_eq_true, if_true, if_false, reduceIte, and_true, true_and, and_false, false_and, or_false, false_or, or_true, true_or, List.getD_cons_zero, List.getD_cons_succ, List.length_cons, List.length_nil, List.cons_append, List.nil_append, Nat.reduceAdd, Nat.reduceEqDiff, reduceCtorEq, Bool.not_true, Bool.not_false, Bool.true_and, Bool.and_true, Bool.false_and, Bool.and_false, Bool.or_true, Bool.true_or, Bool.or_false, Bool.false_or, Bool.false_eq_true, Bool.true_eq_false, Sc.int_i, Sc.bool_b, Sc.list_l, Sc.str_s, Int.reduceEq, Int.reduceLT, Int.reduceLE, Int.reduceNe, decide_true, decide_false, decide_not, eq_self, Classical.not_not, List.getElem?_cons_zero, List.getElem?_cons_succ, beq_self_eq_true, bne_self_eq_false]
      · have ei : i = N := by omega
        subst ei
        have hin' : ¬ ((j * i + i : Nat) : Int) < ((j * i + i : Nat) : Int) := by omega
        unfold grp at of hr2
        generalize Rat.divInt (pres xs (j * i + i) - pres xs (j * i)) i = q at *
        have hsn : ((mout xs i j ++ [Sc.l [.i q.num, .i q.den]]).length : Int) ≤ 8796093022208 := by
          rw [List.length_append, mout_len]; have := Nat.div_le_self xs.length i; simp only [List.length_cons, List.length_nil]; omega
        simp only [pt_pr] at hr2
        simp only [hin', of, hsn, w7, hr2, Int.natCast_nonneg, bne_iff_ne, beq_iff_eq, ne_eq, decide_eq_true_eq, Bool.and_eq_true, Bool.or_eq_true, Bool.not_eq_true', decide_eq_false_iff_not, beq_eq_false_iff_ne, bne_eq_false_iff_eq, not_true_eq_false, not_false_eq_true, if_true, if_false, reduceIte, and_true, true_and, and_false, false_and, or_false, false_or, or_true, true_or, List.getD_cons_zero, List.getD_cons_succ, List.length_cons, List.length_nil, List.cons_append, List.nil_append, Nat.reduceAdd, Nat.reduceEqDiff, reduceCtorEq, Bool.not_true, Bool.not_false, Bool.true_and, Bool.and_true, Bool.false_and, Bool.and_false, Bool.or_true, Bool.true_or, Bool.or_false, Bool.false_or, Bool.false_eq_true, Bool.true_eq_false, Sc.int_i, Sc.bool_b, Sc.list_l, Sc.str_s, Int.reduceEq, Int.reduceLT, Int.reduceLE, Int.reduceNe, decide_true, decide_false, decide_not, eq_self, Classical.not_not, List.getElem?_cons_zero, List.getElem?_cons_succ, beq_self_eq_true, bne_self_eq_false]
    · have ej : j = xs.length / N := by omega
      have c1 : ¬ ((j * N + N : Nat) : Int) ≤ (xs.length : Int) := by
        intro h
        refine hlt ((Nat.le_div_iff_mul_le (by omega)).2 ?_)
        rw [Nat.succ_mul]; omega
      rw [← ej]
      simp only [w7, c1, Int.natCast_nonneg, bne_iff_ne, beq_iff_eq, ne_eq, decide_eq_true_eq, Bool.and_eq_true, Bool.or_eq_true, Bool.not_eq_true', decide_eq_false_iff_not, beq_eq_false_iff_ne, bne_eq_false_iff_eq, not_true_eq_false, not_false_eq_true, if_true, if_false, reduceIte, and_true, true_and, and_false, false_and, or_false, false_or, or_true, true_or, List.getD_cons_zero, List.getD_cons_succ, List.length_cons, List.length_nil, List.cons_append, List.nil_append, Nat.reduceAdd, Nat.reduceEqDiff, reduceCtorEq, Bool.not_true, Bool.not_false, Bool.true_and, Bool.and_true, Bool.false_and, Bool.and_false, Bool.or_true, Bool.true_or, Bool.or_false, Bool.false_or, Bool.false_eq_true, Bool.true_eq_false, Sc.int_i, Sc.bool_b, Sc.list_l, Sc.str_s, Int.reduceEq, Int.reduceLT, Int.reduceLE, Int.reduceNe, decide_true, decide_false, decide_not, eq_self, Classical.not_not, List.getElem?_cons_zero, List.getElem?_cons_succ, beq_self_eq_true, bne_self_eq_false]
theorem fmean50_O (ps : List (Int × Int)) (hps : ∀ p ∈ ps, FP p) : k_batch_Mean.F [.l (ps.map pt)] = some (enc (mean50O ps)) := by
  simp only [k_batch_Mean_F, tk_batch_Mean, k_batch_mean_f, List.length_map, Go.Proofs.Ytgekeolponbifaa.T.den, Ex.ev, U1.ev, U2.ev, U3.ev, gam, List.map, List.getD_cons_zero, List.getD_cons_succ, List.length, List.cons_append, List.nil_append, if_true, Sc.int_i, Sc.bool_b, Sc.list_l, Sc.str_s, Nat.reduceEqDiff, if_false, List.getElem?_cons_zero, List.getElem?_cons_succ]
  by_cases h : 50 < ps.length
  · have h' : (50 : Int) < ps.length := by omega
    unfold mean50O; rw [if_pos h]; simp only [h', enc_none, Int.natCast_nonneg, bne_iff_ne, beq_iff_eq, ne_eq, decide_eq_true_eq, Bool.and_eq_true, Bool.or_eq_true, Bool.not_eq_true', decide_eq_false_iff_not, beq_eq_false_iff_ne, bne_eq_false_iff_eq, not_true_eq_false, not_false_eq_true, if_true, if_false, reduceIte, and_true, true_and, and_false, false_and, or_false, false_or, or_true, true_or, List.getD_cons_zero, List.getD_cons_succ, List.length_cons, List.length_nil, List.cons_append, List.nil_append, Nat.reduceAdd, Nat.reduceEqDiff, reduceCtorEq, Bool.not_true, Bool.not_false, Bool.true_and, Bool.and_true, Bool.false_and, Bool.and_false, Bool.or_true, Bool.true_or, Bool.or_false, Bool.false_or, Bool.false_eq_true, Bool.true_eq_false, Sc.int_i, Sc.bool_b, Sc.list_l, Sc.str_s, Int.reduceEq, Int.reduceLT, Int.reduceLE, Int.reduceNe, decide_true, decide_false, decide_not, eq_self, Classical.not_not, List.getElem?_cons_zero, List.getElem?_cons_succ, beq_self_eq_true, bne_self_eq_false]
  · have h' : ¬ (50 : Int) < ps.length := by omega
    have m := fmean_O ps hps (by omega)
    unfold mean50O; rw [if_neg h]
    obtain ⟨x, y, z, e⟩ := enc_form (meanO ps)
    rw [e] at m ⊢
    simp only [h', m, Int.natCast_nonneg, bne_iff_ne, beq_iff_eq, ne_eq, decide_eq_true_eq, Bool.and_eq_true, Bool.or_eq_true, Bool.not_eq_true', decide_eq_false_iff_not, beq_eq_false_iff_ne, bne_eq_false_iff_eq, not_true_eq_false, not_false_eq_true, if_true, if_false, reduceIte, and_true, true_and, and_false, false_and, or_false, false_or, or_true, true_or, List.getD_cons_zero, List.getD_cons_succ, List.length_cons, List.length_nil, List.cons_append, List.nil_append, Nat.reduceAdd, Nat.reduceEqDiff, reduceCtorEq, Bool.not_true, Bool.not_false, Bool.true_and, Bool.and_true, Bool.false_and, Bool.and_false, Bool.or_true, Bool.true_or, Bool.or_false, Bool.false_or, Bool.false_eq_true, Bool.true_eq_false, Sc.int_i, Sc.bool_b, Sc.list_l, Sc.str_s, Int.reduceEq, Int.reduceLT, Int.reduceLE, Int.reduceNe, decide_true, decide_false, decide_not, eq_self, Classical.not_not, List.getElem?_cons_zero, List.getElem?_cons_succ, beq_self_eq_true, bne_self_eq_false]
theorem rmean50_O (ps : List (Int × Int)) (hps : ∀ p ∈ ps, FP p) : k_simulatorref48_Mean.F [.l (ps.map pt)] = some (enc (mean50O ps)) := by
  simp only [k_simulatorref48_Mean_F, tk_simulatorref48_Mean, k_simulatorref48_mean_f, List.length_map, Go.Proofs.Ytgekeolponbifaa.T.den, Ex.ev, U1.ev, U2.ev, U3.ev, gam, List.map, List.getD_cons_zero, List.getD_cons_succ, List.length, List.cons_append, List.nil_append, if_true, Sc.int_i, Sc.bool_b, Sc.list_l, Sc.str_s, Nat.reduceEqDiff, if_false, List.getElem?_cons_zero, List.getElem?_cons_succ]
  by_cases h : 50 < ps.length
  · have h' : (50 : Int) < ps.length := by omega
    unfold mean50O; rw [if_pos h]; simp only [h', enc_none, Int.natCast_nonneg, bne_iff_ne, beq_iff_eq, ne_eq, decide_eq_true_eq, Bool.and_eq_true, Bool.or_eq_true, Bool.not_eq_true', decide_eq_false_iff_not, beq_eq_false_iff_ne, bne_eq_false_iff_eq, not_true_eq_false, not_false_eq_true, if_true, if_false, reduceIte, and_true, true_and, and_false, false_and, or_false, false_or, or_true, true_or, List.getD_cons_zero, List.getD_cons_succ, List.length_cons, List.length_nil, List.cons_append, List.nil_append, Nat.reduceAdd, Nat.reduceEqDiff, reduceCtorEq, Bool.not_true, Bool.not_false, Bool.true_and, Bool.and_true, Bool.false_and, Bool.and_false, Bool.or_true, Bool.true_or, Bool.or_false, Bool.false_or, Bool.false_eq_true, Bool.true_eq_false, Sc.int_i, Sc.bool_b, Sc.list_l, Sc.str_s, Int.reduceEq, Int.reduceLT, Int.reduceLE, Int.reduceNe, decide_true, decide_false, decide_not, eq_self, Classical.not_not, List.getElem?_cons_zero, List.getElem?_cons_succ, beq_self_eq_true, bne_self_eq_false]
  · have h' : ¬ (50 : Int) < ps.length := by omega
    have m := rmean_O ps hps (by omega)
    unfold mean50O; rw [if_neg h]
    obtain ⟨x, y, z, e⟩ := enc_form (meanO ps)
    rw [e] at m ⊢
    simp only [h', m, Int.natCast_nonneg, bne_iff_ne, beq_iff_eq, ne_eq, decide_eq_true_eq, Bool.and_eq_true, Bool.or_eq_true, Bool.not_eq_true', decide_eq_false_iff_not, beq_eq_false_iff_ne, bne_eq_false_iff_eq, not_true_eq_false, not_false_eq_true, if_true, if_false, reduceIte, and_true, true_and, and_false, false_and, or_false, false_or, or_true, true_or, List.getD_cons_zero, List.getD_cons_succ, List.length_cons, List.length_nil, List.cons_append, List.nil_append, Nat.reduceAdd, Nat.reduceEqDiff, reduceCtorEq, Bool.not_true, Bool.not_false, Bool.true_and, Bool.and_true, Bool.false_and, Bool.and_false, Bool.or_true, Bool.true_or, Bool.or_false, Bool.false_or, Bool.false_eq_true, Bool.true_eq_false, Sc.int_i, Sc.bool_b, Sc.list_l, Sc.str_s, Int.reduceEq, Int.reduceLT, Int.reduceLE, Int.reduceNe, decide_true, decide_false, decide_not, eq_self, Classical.not_not, List.getElem?_cons_zero, List.getElem?_cons_succ, beq_self_eq_true, bne_self_eq_false]
theorem flag_O (ps : List (Int × Int)) (hps : ∀ p ∈ ps, FP p) : k_batch_Lag.F [.l (ps.map pt)] = some (enc (lagO ps)) := by
  have w : ∀ n : Int, k_batch_whole.F [.i n] = some [.i n, .i 1] := fun n => by
    simp only [k_batch_whole_F, tk_batch_whole, Go.Proofs.Ytgekeolponbifaa.T.den, Ex.ev, U1.ev, U2.ev, U3.ev, gam, List.map, List.getD_cons_zero, List.getD_cons_succ, List.length, List.cons_append, List.nil_append, if_true, Sc.int_i, Sc.bool_b, Sc.list_l, Sc.str_s, Nat.reduceEqDiff, if_false, List.getElem?_cons_zero, List.getElem?_cons_succ]
  simp only [k_batch_Lag_F, tk_batch_Lag, k_batch_deviations_f, k_batch_products_f, k_batch_whole_f, k_frac_Div_f, w, List.length_map, Go.Proofs.Ytgekeolponbifaa.T.den, Ex.ev, U1.ev, U2.ev, U3.ev, gam, List.map, List.getD_cons_zero, List.getD_cons_succ, List.length, List.cons_append, List.nil_append, if_true, Sc.int_i, Sc.bool_b, Sc.list_l, Sc.str_s, Nat.reduceEqDiff, if_false, List.getElem?_cons_zero, List.getElem?_cons_succ]
  by_cases h1 : (ps.length : Int) < 2
  · rw [lagO_out (.inl (by omega))]; simp only [h1, enc_some, enc_none, Int.natCast_nonneg, bne_iff_ne, beq_iff_eq, ne_eq, decide_eq_true_eq, Bool.and_eq_true, Bool.or_eq_true, Bool.not_eq_true', decide_eq_false_iff_not, beq_eq_false_iff_ne, bne_eq_false_iff_eq, not_true_eq_false, not_false_eq_true, if_true, if_false, reduceIte, and_true, true_and, and_false, false_and, or_false, false_or, or_true, true_or, List.getD_cons_zero, List.getD_cons_succ, List.length_cons, List.length_nil, List.cons_append, List.nil_append, Nat.reduceAdd, Nat.reduceEqDiff, reduceCtorEq, Bool.not_true, Bool.not_false, Bool.true_and, Bool.and_true, Bool.false_and, Bool.and_false, Bool.or_true, Bool.true_or, Bool.or_false, Bool.false_or, Bool.false_eq_true, Bool.true_eq_false, Sc.int_i, Sc.bool_b, Sc.list_l, Sc.str_s, Int.reduceEq, Int.reduceLT, Int.reduceLE, Int.reduceNe, decide_true, decide_false, decide_not, eq_self, Classical.not_not, List.getElem?_cons_zero, List.getElem?_cons_succ, beq_self_eq_true, bne_self_eq_false]
  by_cases h2 : (1000 : Int) < ps.length
  · rw [lagO_out (.inr (by omega))]; simp only [h1, h2, enc_some, enc_none, Int.natCast_nonneg, bne_iff_ne, beq_iff_eq, ne_eq, decide_eq_true_eq, Bool.and_eq_true, Bool.or_eq_true, Bool.not_eq_true', decide_eq_false_iff_not, beq_eq_false_iff_ne, bne_eq_false_iff_eq, not_true_eq_false, not_false_eq_true, if_true, if_false, reduceIte, and_true, true_and, and_false, false_and, or_false, false_or, or_true, true_or, List.getD_cons_zero, List.getD_cons_succ, List.length_cons, List.length_nil, List.cons_append, List.nil_append, Nat.reduceAdd, Nat.reduceEqDiff, reduceCtorEq, Bool.not_true, Bool.not_false, Bool.true_and, Bool.and_true, Bool.false_and, Bool.and_false, Bool.or_true, Bool.true_or, Bool.or_false, Bool.false_or, Bool.false_eq_true, Bool.true_eq_false, Sc.int_i, Sc.bool_b, Sc.list_l, Sc.str_s, Int.reduceEq, Int.reduceLT, Int.reduceLE, Int.reduceNe, decide_true, decide_false, decide_not, eq_self, Classical.not_not, List.getElem?_cons_zero, List.getElem?_cons_succ, beq_self_eq_true, bne_self_eq_false]
  rw [lagO_in (by omega), fdev_O ps hps (by omega)]
  cases hd : devO ps with
  | none => simp only [h1, h2, enc_some, enc_none, encL_some, encL_none, Int.natCast_nonneg, bne_iff_ne, beq_iff_eq, ne_eq, decide_eq_true_eq, Bool.and_eq_true, Bool.or_eq_true, Bool.not_eq_true', decide_eq_false_iff_not, beq_eq_false_iff_ne, bne_eq_false_iff_eq, not_true_eq_false, not_false_eq_true, if_true, if_false, reduceIte, and_true, true_and, and_false, false_and, or_false, false_or, or_true, true_or, List.getD_cons_zero, List.getD_cons_succ, List.length_cons, List.length_nil, List.cons_append, List.nil_append, Nat.reduceAdd, Nat.reduceEqDiff, reduceCtorEq, Bool.not_true, Bool.not_false, Bool.true_and, Bool.and_true, Bool.false_and, Bool.and_false, Bool.or_true, Bool.true_or, Bool.or_false, Bool.false_or, Bool.false_eq_true, Bool.true_eq_false, Sc.int_i, Sc.bool_b, Sc.list_l, Sc.str_s, Int.reduceEq, Int.reduceLT, Int.reduceLE, Int.reduceNe, decide_true, decide_false, decide_not, eq_self, Classical.not_not, List.getElem?_cons_zero, List.getElem?_cons_succ, beq_self_eq_true, bne_self_eq_false]
  | some ds =>
    have hdl := devO_len hd
    have hf := devO_fit hd
    have hp := fprod_O ds ds hf hf rfl (by omega)
    have hc := fprod_O (ds.take (ps.length - 1)) (ds.drop 1) (fun q hq => hf q (List.mem_of_mem_take hq)) (fun q hq => hf q (List.mem_of_mem_drop hq)) (by rw [List.length_take, List.length_drop]; omega) (by rw [List.length_take]; omega)
    have w1 : IntKind.i64.wrap ((ps.length : Int) - 1) = ((ps.length - 1 : Nat) : Int) := by rw [wrI (by omega) (by omega)]; omega
    have w2 : IntKind.i64.wrap (((ps.length - 1 : Nat) : Int) - 0) = ((ps.length - 1 : Nat) : Int) := by rw [wrI (by omega) (by omega)]; omega
    have w3 : IntKind.i64.wrap (0 + ((ps.length - 1 : Nat) : Int)) = ((ps.length - 1 : Nat) : Int) := by rw [wrI (by omega) (by omega)]; omega
    have w4 : IntKind.i64.wrap (1 + ((ps.length - 1 : Nat) : Int)) = (ps.length : Int) := by rw [wrI (by omega) (by omega)]; omega
    have le1 : ((ps.length - 1 : Nat) : Int) ≤ ps.length := by omega
    have le2 : (1 : Int) ≤ ps.length := by omega
    have l1 : (((ds.map fun q => pt (pr q)).take (((ps.length - 1 : Nat) : Int)).toNat).drop (0 : Int).toNat) = (ds.take (ps.length - 1)).map fun q => pt (pr q) := by
      rw [Int.toNat_natCast, List.map_take]; rfl
    have l2 : (((ds.map fun q => pt (pr q)).take ((ps.length : Int)).toNat).drop (1 : Int).toNat) = (ds.drop 1).map fun q => pt (pr q) := by
      rw [Int.toNat_natCast, List.map_drop, List.take_of_length_le (by rw [List.length_map]; omega)]; rfl
    simp only [h1, h2, encL_some, List.length_map, hdl, w1, w2, w3, w4, le1, le2, Int.le_refl, l1, l2, Int.natCast_nonneg, bne_iff_ne, beq_iff_eq, ne_eq, decide_eq_true_eq, Bool.and_eq_true, Bool.or_eq_true, Bool.not_eq_true', decide_eq_false_iff_not, beq_eq_false_iff_ne, bne_eq_false_iff_eq, not_true_eq_false, not_false_eq_true, if_true, if_false, reduceIte, and_true, true_and, and_false, false_and, or_false, false_or, or_true, true_or, List.getD_cons_zero, List.getD_cons_succ, List.length_cons, List.length_nil, List.cons_append, List.nil_append, Nat.reduceAdd, Nat.reduceEqDiff, reduceCtorEq, Bool.not_true, Bool.not_false, Bool.true_and, Bool.and_true, Bool.false_and, Bool.and_false, Bool.or_true, Bool.true_or, Bool.or_false, Bool.false_or, Bool.false_eq_true, Bool.true_eq_false, Sc.int_i, Sc.bool_b, Sc.list_l, Sc.str_s, Int.reduceEq, Int.reduceLT, Int.reduceLE, Int.reduceNe, decide_true, decide_false, decide_not, eq_self, Classical.not_not, List.getElem?_cons_zero, List.getElem?_cons_succ, beq_self_eq_true, bne_self_eq_false]
    generalize (ds.take (ps.length - 1)).zip (ds.drop 1) = zs at *
    obtain ⟨x, y, z, ea⟩ := enc_form (prodO zs)
    cases ha : prodO zs with
    | none =>
      rw [ha] at hc
      obtain ⟨x', y', z', eb⟩ := enc_form (prodO (ds.zip ds))
      rw [eb] at hp
      simp only [enc] at hc
      simp only [hc, hp, enc_none, Int.natCast_nonneg, bne_iff_ne, beq_iff_eq, ne_eq, decide_eq_true_eq, Bool.and_eq_true, Bool.or_eq_true, Bool.not_eq_true', decide_eq_false_iff_not, beq_eq_false_iff_ne, bne_eq_false_iff_eq, not_true_eq_false, not_false_eq_true, if_true, if_false, reduceIte, and_true, true_and, and_false, false_and, or_false, false_or, or_true, true_or, List.getD_cons_zero, List.getD_cons_succ, List.length_cons, List.length_nil, List.cons_append, List.nil_append, Nat.reduceAdd, Nat.reduceEqDiff, reduceCtorEq, Bool.not_true, Bool.not_false, Bool.true_and, Bool.and_true, Bool.false_and, Bool.and_false, Bool.or_true, Bool.true_or, Bool.or_false, Bool.false_or, Bool.false_eq_true, Bool.true_eq_false, Sc.int_i, Sc.bool_b, Sc.list_l, Sc.str_s, Int.reduceEq, Int.reduceLT, Int.reduceLE, Int.reduceNe, decide_true, decide_false, decide_not, eq_self, Classical.not_not, List.getElem?_cons_zero, List.getElem?_cons_succ, beq_self_eq_true, bne_self_eq_false]
    | some a =>
      rw [ha] at hc
      simp only [enc] at hc
      cases hs : prodO (ds.zip ds) with
      | none =>
        rw [hs] at hp
        simp only [enc] at hp
        simp only [hc, hp, enc_none, Int.natCast_nonneg, bne_iff_ne, beq_iff_eq, ne_eq, decide_eq_true_eq, Bool.and_eq_true, Bool.or_eq_true, Bool.not_eq_true', decide_eq_false_iff_not, beq_eq_false_iff_ne, bne_eq_false_iff_eq, not_true_eq_false, not_false_eq_true, if_true, if_false, reduceIte, and_true, true_and, and_false, false_and, or_false, false_or, or_true, true_or, List.getD_cons_zero, List.getD_cons_succ, List.length_cons, List.length_nil, List.cons_append, List.nil_append, Nat.reduceAdd, Nat.reduceEqDiff, reduceCtorEq, Bool.not_true, Bool.not_false, Bool.true_and, Bool.and_true, Bool.false_and, Bool.and_false, Bool.or_true, Bool.true_or, Bool.or_false, Bool.false_or, Bool.false_eq_true, Bool.true_eq_false, Sc.int_i, Sc.bool_b, Sc.list_l, Sc.str_s, Int.reduceEq, Int.reduceLT, Int.reduceLE, Int.reduceNe, decide_true, decide_false, decide_not, eq_self, Classical.not_not, List.getElem?_cons_zero, List.getElem?_cons_succ, beq_self_eq_true, bne_self_eq_false]
      | some b =>
        rw [hs] at hp
        simp only [enc] at hp
        have fa := prodO_fit ha
        have fb := prodO_fit hs
        have d := fdiv_O (FP_pr fa) (FP_pr fb)
        rw [valP_pr fa, valP_pr fb] at d
        show _ = some (enc (if b = 0 then some 0 else divO (some a) (some b)))
        by_cases h0 : b = 0
        · have hn : b.num = 0 := by rw [h0]; rfl
          have hdn : (b.den : Int) = 1 := by rw [h0]; rfl
          rw [if_pos h0]
          simp only [hc, hp, hn, hdn, enc_some, Int.natCast_nonneg, bne_iff_ne, beq_iff_eq, ne_eq, decide_eq_true_eq, Bool.and_eq_true, Bool.or_eq_true, Bool.not_eq_true', decide_eq_false_iff_not, beq_eq_false_iff_ne, bne_eq_false_iff_eq, not_true_eq_false, not_false_eq_true, if_true, if_false, reduceIte, and_true, true_and, and_false, false_and, or_false, false_or, or_true, true_or, List.getD_cons_zero, List.getD_cons_succ, List.length_cons, List.length_nil, List.cons_append, List.nil_append, Nat.reduceAdd, Nat.reduceEqDiff, reduceCtorEq, Bool.not_true, Bool.not_false, Bool.true_and, Bool.and_true, Bool.false_and, Bool.and_false, Bool.or_true, Bool.true_or, Bool.or_false, Bool.false_or, Bool.false_eq_true, Bool.true_eq_false, Sc.int_i, Sc.bool_b, Sc.list_l, Sc.str_s, Int.reduceEq, Int.reduceLT, Int.reduceLE, Int.reduceNe, decide_true, decide_false, decide_not, eq_self, Classical.not_not, List.getElem?_cons_zero, List.getElem?_cons_succ, beq_self_eq_true, bne_self_eq_false]
          rfl
        · have hn : ¬ b.num = 0 := fun e => h0 (Rat.num_eq_zero.1 e)
          rw [if_neg h0]
          obtain ⟨x', y', z', e⟩ := enc_form (divO (some a) (some b))
          rw [e] at d ⊢
          simp only [pr] at d
          simp only [hc, hp, hn, d, Int.natCast_nonneg, bne_iff_ne, beq_iff_eq, ne_eq, decide_eq_true_eq, Bool.and_eq_true, Bool.or_eq_true, Bool.not_eq_true', decide_eq_false_iff_not, beq_eq_false_iff_ne, bne_eq_false_iff_eq, not_true_eq_false, not_false_eq_true, if_true, if_false, reduceIte, and_true, true_and, and_false, false_and, or_false, false_or, or_true, true_or, List.getD_cons_zero, List.getD_cons_succ, List.length_cons, List.length_nil, List.cons_append, List.nil_append, Nat.reduceAdd, Nat.reduceEqDiff, reduceCtorEq, Bool.not_true, Bool.not_false, Bool.true_and, Bool.and_true, Bool.false_and, Bool.and_false, Bool.or_true, Bool.true_or, Bool.or_false, Bool.false_or, Bool.false_eq_true, Bool.true_eq_false, Sc.int_i, Sc.bool_b, Sc.list_l, Sc.str_s, Int.reduceEq, Int.reduceLT, Int.reduceLE, Int.reduceNe, decide_true, decide_false, decide_not, eq_self, Classical.not_not, List.getElem?_cons_zero, List.getElem?_cons_succ, beq_self_eq_true, bne_self_eq_false]
theorem rlag_O (ps : List (Int × Int)) (hps : ∀ p ∈ ps, FP p) : k_simulatorref48_Lag.F [.l (ps.map pt)] = some (enc (lagO ps)) := by
  simp only [k_simulatorref48_Lag_F, tk_simulatorref48_Lag, k_simulatorref48_deviations_f, k_simulatorref48_products_f, k_simulatorref02_Div_f, List.length_map, Go.Proofs.Ytgekeolponbifaa.T.den, Ex.ev, U1.ev, U2.ev, U3.ev, gam, List.map, List.getD_cons_zero, List.getD_cons_succ, List.length, List.cons_append, List.nil_append, if_true, Sc.int_i, Sc.bool_b, Sc.list_l, Sc.str_s, Nat.reduceEqDiff, if_false, List.getElem?_cons_zero, List.getElem?_cons_succ]
  by_cases h1 : (ps.length : Int) < 2
  · rw [lagO_out (.inl (by omega))]; simp only [h1, enc_some, enc_none, Int.natCast_nonneg, bne_iff_ne, beq_iff_eq, ne_eq, decide_eq_true_eq, Bool.and_eq_true, Bool.or_eq_true, Bool.not_eq_true', decide_eq_false_iff_not, beq_eq_false_iff_ne, bne_eq_false_iff_eq, not_true_eq_false, not_false_eq_true, if_true, if_false, reduceIte, and_true, true_and, and_false, false_and, or_false, false_or, or_true, true_or, List.getD_cons_zero, List.getD_cons_succ, List.length_cons, List.length_nil, List.cons_append, List.nil_append, Nat.reduceAdd, Nat.reduceEqDiff, reduceCtorEq, Bool.not_true, Bool.not_false, Bool.true_and, Bool.and_true, Bool.false_and, Bool.and_false, Bool.or_true, Bool.true_or, Bool.or_false, Bool.false_or, Bool.false_eq_true, Bool.true_eq_false, Sc.int_i, Sc.bool_b, Sc.list_l, Sc.str_s, Int.reduceEq, Int.reduceLT, Int.reduceLE, Int.reduceNe, decide_true, decide_false, decide_not, eq_self, Classical.not_not, List.getElem?_cons_zero, List.getElem?_cons_succ, beq_self_eq_true, bne_self_eq_false]
  by_cases h2 : (1000 : Int) < ps.length
  · rw [lagO_out (.inr (by omega))]; simp only [h1, h2, enc_some, enc_none, Int.natCast_nonneg, bne_iff_ne, beq_iff_eq, ne_eq, decide_eq_true_eq, Bool.and_eq_true, Bool.or_eq_true, Bool.not_eq_true', decide_eq_false_iff_not, beq_eq_false_iff_ne, bne_eq_false_iff_eq, not_true_eq_false, not_false_eq_true, if_true, if_false, reduceIte, and_true, true_and, and_false, false_and, or_false, false_or, or_true, true_or, List.getD_cons_zero, List.getD_cons_succ, List.length_cons, List.length_nil, List.cons_append, List.nil_append, Nat.reduceAdd, Nat.reduceEqDiff, reduceCtorEq, Bool.not_true, Bool.not_false, Bool.true_and, Bool.and_true, Bool.false_and, Bool.and_false, Bool.or_true, Bool.true_or, Bool.or_false, Bool.false_or, Bool.false_eq_true, Bool.true_eq_false, Sc.int_i, Sc.bool_b, Sc.list_l, Sc.str_s, Int.reduceEq, Int.reduceLT, Int.reduceLE, Int.reduceNe, decide_true, decide_false, decide_not, eq_self, Classical.not_not, List.getElem?_cons_zero, List.getElem?_cons_succ, beq_self_eq_true, bne_self_eq_false]
  rw [lagO_in (by omega), rdev_O ps hps (by omega)]
  cases hd : devO ps with
  | none => simp only [h1, h2, enc_some, enc_none, encL_some, encL_none, Int.natCast_nonneg, bne_iff_ne, beq_iff_eq, ne_eq, decide_eq_true_eq, Bool.and_eq_true, Bool.or_eq_true, Bool.not_eq_true', decide_eq_false_iff_not, beq_eq_false_iff_ne, bne_eq_false_iff_eq, not_true_eq_false, not_false_eq_true, if_true, if_false, reduceIte, and_true, true_and, and_false, false_and, or_false, false_or, or_true, true_or, List.getD_cons_zero, List.getD_cons_succ, List.length_cons, List.length_nil, List.cons_append, List.nil_append, Nat.reduceAdd, Nat.reduceEqDiff, reduceCtorEq, Bool.not_true, Bool.not_false, Bool.true_and, Bool.and_true, Bool.false_and, Bool.and_false, Bool.or_true, Bool.true_or, Bool.or_false, Bool.false_or, Bool.false_eq_true, Bool.true_eq_false, Sc.int_i, Sc.bool_b, Sc.list_l, Sc.str_s, Int.reduceEq, Int.reduceLT, Int.reduceLE, Int.reduceNe, decide_true, decide_false, decide_not, eq_self, Classical.not_not, List.getElem?_cons_zero, List.getElem?_cons_succ, beq_self_eq_true, bne_self_eq_false]
  | some ds =>
    have hdl := devO_len hd
    have hf := devO_fit hd
    have hp := rprod_O ds ds hf hf rfl (by omega)
    have hc := rprod_O (ds.take (ps.length - 1)) (ds.drop 1) (fun q hq => hf q (List.mem_of_mem_take hq)) (fun q hq => hf q (List.mem_of_mem_drop hq)) (by rw [List.length_take, List.length_drop]; omega) (by rw [List.length_take]; omega)
    have w1 : IntKind.i64.wrap ((ps.length : Int) - 1) = ((ps.length - 1 : Nat) : Int) := by rw [wrI (by omega) (by omega)]; omega
    have w2 : IntKind.i64.wrap (((ps.length - 1 : Nat) : Int) - 0) = ((ps.length - 1 : Nat) : Int) := by rw [wrI (by omega) (by omega)]; omega
    have w3 : IntKind.i64.wrap (0 + ((ps.length - 1 : Nat) : Int)) = ((ps.length - 1 : Nat) : Int) := by rw [wrI (by omega) (by omega)]; omega
    have w4 : IntKind.i64.wrap (1 + ((ps.length - 1 : Nat) : Int)) = (ps.length : Int) := by rw [wrI (by omega) (by omega)]; omega
    have le1 : ((ps.length - 1 : Nat) : Int) ≤ ps.length := by omega
    have le2 : (1 : Int) ≤ ps.length := by omega
    have l1 : (((ds.map fun q => pt (pr q)).take (((ps.length - 1 : Nat) : Int)).toNat).drop (0 : Int).toNat) = (ds.take (ps.length - 1)).map fun q => pt (pr q) := by
      rw [Int.toNat_natCast, List.map_take]; rfl
    have l2 : (((ds.map fun q => pt (pr q)).take ((ps.length : Int)).toNat).drop (1 : Int).toNat) = (ds.drop 1).map fun q => pt (pr q) := by
      rw [Int.toNat_natCast, List.map_drop, List.take_of_length_le (by rw [List.length_map]; omega)]; rfl
    simp only [h1, h2, encL_some, List.length_map, hdl, w1, w2, w3, w4, le1, le2, Int.le_refl, l1, l2, Int.natCast_nonneg, bne_iff_ne, beq_iff_eq, ne_eq, decide_eq_true_eq, Bool.and_eq_true, Bool.or_eq_true, Bool.not_eq_true', decide_eq_false_iff_not, beq_eq_false_iff_ne, bne_eq_false_iff_eq, not_true_eq_false, not_false_eq_true, if_true, if_false, reduceIte, and_true, true_and, and_false, false_and, or_false, false_or, or_true, true_or, List.getD_cons_zero, List.getD_cons_succ, List.length_cons, List.length_nil, List.cons_append, List.nil_append, Nat.reduceAdd, Nat.reduceEqDiff, reduceCtorEq, Bool.not_true, Bool.not_false, Bool.true_and, Bool.and_true, Bool.false_and, Bool.and_false, Bool.or_true, Bool.true_or, Bool.or_false, Bool.false_or, Bool.false_eq_true, Bool.true_eq_false, Sc.int_i, Sc.bool_b, Sc.list_l, Sc.str_s, Int.reduceEq, Int.reduceLT, Int.reduceLE, Int.reduceNe, decide_true, decide_false, decide_not, eq_self, Classical.not_not, List.getElem?_cons_zero, List.getElem?_cons_succ, beq_self_eq_true, bne_self_eq_false]
    generalize (ds.take (ps.length - 1)).zip (ds.drop 1) = zs at *
    obtain ⟨x, y, z, ea⟩ := enc_form (prodO zs)
    cases ha : prodO zs with
    | none =>
      rw [ha] at hc
      obtain ⟨x', y', z', eb⟩ := enc_form (prodO (ds.zip ds))
      rw [eb] at hp
      simp only [enc] at hc
      simp only [hc, hp, enc_none, Int.natCast_nonneg, bne_iff_ne, beq_iff_eq, ne_eq, decide_eq_true_eq, Bool.and_eq_true, Bool.or_eq_true, Bool.not_eq_true', decide_eq_false_iff_not, beq_eq_false_iff_ne, bne_eq_false_iff_eq, not_true_eq_false, not_false_eq_true, if_true, if_false, reduceIte, and_true, true_and, and_false, false_and, or_false, false_or, or_true, true_or, List.getD_cons_zero, List.getD_cons_succ, List.length_cons, List.length_nil, List.cons_append, List.nil_append, Nat.reduceAdd, Nat.reduceEqDiff, reduceCtorEq, Bool.not_true, Bool.not_false, Bool.true_and, Bool.and_true, Bool.false_and, Bool.and_false, Bool.or_true, Bool.true_or, Bool.or_false, Bool.false_or, Bool.false_eq_true, Bool.true_eq_false, Sc.int_i, Sc.bool_b, Sc.list_l, Sc.str_s, Int.reduceEq, Int.reduceLT, Int.reduceLE, Int.reduceNe, decide_true, decide_false, decide_not, eq_self, Classical.not_not, List.getElem?_cons_zero, List.getElem?_cons_succ, beq_self_eq_true, bne_self_eq_false]
    | some a =>
      rw [ha] at hc
      simp only [enc] at hc
      cases hs : prodO (ds.zip ds) with
      | none =>
        rw [hs] at hp
        simp only [enc] at hp
        simp only [hc, hp, enc_none, Int.natCast_nonneg, bne_iff_ne, beq_iff_eq, ne_eq, decide_eq_true_eq, Bool.and_eq_true, Bool.or_eq_true, Bool.not_eq_true', decide_eq_false_iff_not, beq_eq_false_iff_ne, bne_eq_false_iff_eq, not_true_eq_false, not_false_eq_true, if_true, if_false, reduceIte, and_true, true_and, and_false, false_and, or_false, false_or, or_true, true_or, List.getD_cons_zero, List.getD_cons_succ, List.length_cons, List.length_nil, List.cons_append, List.nil_append, Nat.reduceAdd, Nat.reduceEqDiff, reduceCtorEq, Bool.not_true, Bool.not_false, Bool.true_and, Bool.and_true, Bool.false_and, Bool.and_false, Bool.or_true, Bool.true_or, Bool.or_false, Bool.false_or, Bool.false_eq_true, Bool.true_eq_false, Sc.int_i, Sc.bool_b, Sc.list_l, Sc.str_s, Int.reduceEq, Int.reduceLT, Int.reduceLE, Int.reduceNe, decide_true, decide_false, decide_not, eq_self, Classical.not_not, List.getElem?_cons_zero, List.getElem?_cons_succ, beq_self_eq_true, bne_self_eq_false]
      | some b =>
        rw [hs] at hp
        simp only [enc] at hp
        have fa := prodO_fit ha
        have fb := prodO_fit hs
        have d := rdiv_O (FP_pr fa) (FP_pr fb)
        rw [valP_pr fa, valP_pr fb] at d
        show _ = some (enc (if b = 0 then some 0 else divO (some a) (some b)))
        by_cases h0 : b = 0
        · have hn : b.num = 0 := by rw [h0]; rfl
          have hdn : (b.den : Int) = 1 := by rw [h0]; rfl
          rw [if_pos h0]
          simp only [hc, hp, hn, hdn, enc_some, Int.natCast_nonneg, bne_iff_ne, beq_iff_eq, ne_eq, decide_eq_true_eq, Bool.and_eq_true, Bool.or_eq_true, Bool.not_eq_true', decide_eq_false_iff_not, beq_eq_false_iff_ne, bne_eq_false_iff_eq, not_true_eq_false, not_false_eq_true, if_true, if_false, reduceIte, and_true, true_and, and_false, false_and, or_false, false_or, or_true, true_or, List.getD_cons_zero, List.getD_cons_succ, List.length_cons, List.length_nil, List.cons_append, List.nil_append, Nat.reduceAdd, Nat.reduceEqDiff, reduceCtorEq, Bool.not_true, Bool.not_false, Bool.true_and, Bool.and_true, Bool.false_and, Bool.and_false, Bool.or_true, Bool.true_or, Bool.or_false, Bool.false_or, Bool.false_eq_true, Bool.true_eq_false, Sc.int_i, Sc.bool_b, Sc.list_l, Sc.str_s, Int.reduceEq, Int.reduceLT, Int.reduceLE, Int.reduceNe, decide_true, decide_false, decide_not, eq_self, Classical.not_not, List.getElem?_cons_zero, List.getElem?_cons_succ, beq_self_eq_true, bne_self_eq_false]
          rfl
        · have hn : ¬ b.num = 0 := fun e => h0 (Rat.num_eq_zero.1 e)
          rw [if_neg h0]
          obtain ⟨x', y', z', e⟩ := enc_form (divO (some a) (some b))
          rw [e] at d ⊢
          simp only [pr] at d
          simp only [hc, hp, hn, d, Int.natCast_nonneg, bne_iff_ne, beq_iff_eq, ne_eq, decide_eq_true_eq, Bool.and_eq_true, Bool.or_eq_true, Bool.not_eq_true', decide_eq_false_iff_not, beq_eq_false_iff_ne, bne_eq_false_iff_eq, not_true_eq_false, not_false_eq_true, if_true, if_false, reduceIte, and_true, true_and, and_false, false_and, or_false, false_or, or_true, true_or, List.getD_cons_zero, List.getD_cons_succ, List.length_cons, List.length_nil, List.cons_append, List.nil_append, Nat.reduceAdd, Nat.reduceEqDiff, reduceCtorEq, Bool.not_true, Bool.not_false, Bool.true_and, Bool.and_true, Bool.false_and, Bool.and_false, Bool.or_true, Bool.true_or, Bool.or_false, Bool.false_or, Bool.false_eq_true, Bool.true_eq_false, Sc.int_i, Sc.bool_b, Sc.list_l, Sc.str_s, Int.reduceEq, Int.reduceLT, Int.reduceLE, Int.reduceNe, decide_true, decide_false, decide_not, eq_self, Classical.not_not, List.getElem?_cons_zero, List.getElem?_cons_succ, beq_self_eq_true, bne_self_eq_false]
end Go.Proofs.Ytgekeolponbifaa
