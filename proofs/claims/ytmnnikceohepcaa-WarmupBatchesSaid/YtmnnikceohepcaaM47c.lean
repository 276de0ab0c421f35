/-
  Chapter 47: what Batched and its reference return.
-/
import Derived.Test.YtmnnikceohepcaaM47b
namespace Go.Proofs.Ytmnnikceohepcaa
set_option linter.unusedSimpArgs false

/-- The sum of the first elements. -/
def pres (xs : List Int) (k : Nat) : Int := sumI (xs.take k)
theorem pres_succ {xs : List Int} {k : Nat} (h : k < xs.length) : pres xs (k + 1) = pres xs k + xs[k] := sumI_take h
theorem pres_zero (xs : List Int) : pres xs 0 = 0 := by simp [pres, sumI]
def grp (xs : List Int) (N j : Nat) : Int := pres xs (j * N + N) - pres xs (j * N)
def grpL (xs : List Int) (N : Nat) : List Int := (List.range (xs.length / N)).map (grp xs N)
theorem grpL_len (xs : List Int) (N : Nat) : (grpL xs N).length = xs.length / N := by simp [grpL]
theorem pres_grp (xs : List Int) (N : Nat) : ∀ k, k ≤ xs.length / N → pres (grpL xs N) k = pres xs (k * N)
  | 0, _ => by rw [pres_zero, Nat.zero_mul, pres_zero]
  | k + 1, h => by
    have hk : k < (grpL xs N).length := by rw [grpL_len]; omega
    rw [pres_succ hk, pres_grp xs N k (by omega)]
    simp only [grpL, List.getElem_map, List.getElem_range]
    unfold grp
    rw [Nat.succ_mul]; omega
theorem grp_grp (xs : List Int) (N M : Nat) (hM : 0 < M) : grpL (grpL xs N) M = grpL xs (N * M) := by
  refine List.ext_getElem (by rw [grpL_len, grpL_len, grpL_len, Nat.div_div_eq_div_mul]) fun j h1 h2 => ?_
  have hj : j < xs.length / N / M := by rw [grpL_len, grpL_len] at h1; exact h1
  have hle : (j + 1) * M ≤ xs.length / N := (Nat.le_div_iff_mul_le hM).1 hj
  rw [Nat.succ_mul] at hle
  conv => lhs; simp only [grpL, List.getElem_map, List.getElem_range]
  conv => rhs; simp only [grpL, List.getElem_map, List.getElem_range]
  have e : ∀ k, k ≤ xs.length / N → pres (List.map (grp xs N) (List.range (xs.length / N))) k = pres xs (k * N) := fun k hk => pres_grp xs N k hk
  unfold grp at e ⊢
  rw [e _ hle, e _ (by omega)]
  have i1 : (j * M + M) * N = j * (N * M) + N * M := by rw [Nat.add_mul, Nat.mul_assoc, Nat.mul_comm M N]
  have i2 : j * M * N = j * (N * M) := by rw [Nat.mul_assoc, Nat.mul_comm M N]
  rw [i1, i2]
def batL (xs : List Int) (n : Int) : List Sc := if n < 1 ∨ 100 < n then [.l [], .i 2] else if xs.all (val4 1000000000000) = true then [.l ((grpL xs n.toNat).map .i), .i 0] else [.l [], .i 2]
theorem batL_out {xs : List Int} {n : Int} (h : n < 1 ∨ 100 < n) : batL xs n = [.l [], .i 2] := if_pos h
theorem batL_mid {xs : List Int} {n : Int} (h : ¬ (n < 1 ∨ 100 < n)) : batL xs n = if xs.all (val4 1000000000000) = true then [.l ((grpL xs n.toNat).map .i), .i 0] else [.l [], .i 2] := if_neg h
theorem pres_in {xs : List Int} (h : xs.all (val4 1000000000000) = true) (hl : xs.length ≤ 1000) (k : Nat) : -1000000000000000 ≤ pres xs k ∧ pres xs k ≤ 1000000000000000 := by
  obtain ⟨a, b, _, _⟩ := sum_bound (B := 1000000000000) (by omega) (xs.take k) (fun x hx => all_mem h x (List.mem_of_mem_take hx))
  have : (xs.take k).length ≤ 1000 := by rw [List.length_take]; omega
  unfold pres
  omega
def gout (xs : List Int) (N j : Nat) : List Sc := (List.range j).map fun i => Sc.i (grp xs N i)
theorem gout_succ (xs : List Int) (N j : Nat) : gout xs N (j + 1) = gout xs N j ++ [.i (grp xs N j)] := by
  unfold gout; rw [List.range_succ, List.map_append]; rfl
theorem gout_len (xs : List Int) (N j : Nat) : (gout xs N j).length = j := by simp [gout]
theorem gout_all (xs : List Int) (N : Nat) : gout xs N (xs.length / N) = (grpL xs N).map .i := by
  unfold gout grpL; rw [List.map_map]; rfl
theorem batched_F (xs : List Int) (n : Int) (hl : xs.length ≤ 1000) : k_warmup_Batched.F [.l (xs.map .i), .i n] = some (batL xs n) := by
  simp only [k_warmup_Batched_F, tk_warmup_Batched, k_warmup_outside_f, List.length_map, Go.Proofs.Ytmnnikceohepcaa.T.den, Ex.ev, U1.ev, U2.ev, U3.ev, gam, List.map, List.getD_cons_zero, List.getD_cons_succ, List.length, List.cons_append, List.nil_append, if_true, Sc.int_i, Sc.bool_b, Sc.list_l, Sc.str_s, Nat.reduceEqDiff, if_false, List.getElem?_cons_zero, List.getElem?_cons_succ]
  by_cases h1 : n < 1
  · rw [batL_out (.inl h1)]; simp only [h1, Int.natCast_nonneg, bne_iff_ne, beq_iff_eq, ne_eq, decide_eq_true_eq, Bool.and_eq_true, Bool.or_eq_true, Bool.not_eq_true', decide_eq_false_iff_not, beq_eq_false_iff_ne, bne_eq_false_iff_eq, not_true_eq_false, not_false_eq_true, if_true, if_false, reduceIte, and_true, true_and, and_false, false_and, or_false, false_or, or_true, true_or, List.getD_cons_zero, List.getD_cons_succ, List.length_cons, List.length_nil, List.cons_append, List.nil_append, Nat.reduceAdd, Nat.reduceEqDiff, reduceCtorEq, Bool.not_true, Bool.not_false, Bool.true_and, Bool.and_true, Bool.false_and, Bool.and_false, Bool.or_true, Bool.true_or, Bool.or_false, Bool.false_or, Bool.false_eq_true, Bool.true_eq_false, Sc.int_i, Sc.bool_b, Sc.list_l, Sc.str_s, Int.reduceEq, Int.reduceLT, Int.reduceLE, Int.reduceNe, decide_true, decide_false, decide_not, eq_self, Classical.not_not, List.getElem?_cons_zero, List.getElem?_cons_succ, beq_self_eq_true, bne_self_eq_false]
  by_cases h2 : 100 < n
  · rw [batL_out (.inr h2)]; simp only [h1, h2, Int.natCast_nonneg, bne_iff_ne, beq_iff_eq, ne_eq, decide_eq_true_eq, Bool.and_eq_true, Bool.or_eq_true, Bool.not_eq_true', decide_eq_false_iff_not, beq_eq_false_iff_ne, bne_eq_false_iff_eq, not_true_eq_false, not_false_eq_true, if_true, if_false, reduceIte, and_true, true_and, and_false, false_and, or_false, false_or, or_true, true_or, List.getD_cons_zero, List.getD_cons_succ, List.length_cons, List.length_nil, List.cons_append, List.nil_append, Nat.reduceAdd, Nat.reduceEqDiff, reduceCtorEq, Bool.not_true, Bool.not_false, Bool.true_and, Bool.and_true, Bool.false_and, Bool.and_false, Bool.or_true, Bool.true_or, Bool.or_false, Bool.false_or, Bool.false_eq_true, Bool.true_eq_false, Sc.int_i, Sc.bool_b, Sc.list_l, Sc.str_s, Int.reduceEq, Int.reduceLT, Int.reduceLE, Int.reduceNe, decide_true, decide_false, decide_not, eq_self, Classical.not_not, List.getElem?_cons_zero, List.getElem?_cons_succ, beq_self_eq_true, bne_self_eq_false]
  rw [batL_mid (by omega)]
  simp only [h1, h2, Int.natCast_nonneg, bne_iff_ne, beq_iff_eq, ne_eq, decide_eq_true_eq, Bool.and_eq_true, Bool.or_eq_true, Bool.not_eq_true', decide_eq_false_iff_not, beq_eq_false_iff_ne, bne_eq_false_iff_eq, not_true_eq_false, not_false_eq_true, if_true, if_false, reduceIte, and_true, true_and, and_false, false_and, or_false, false_or, or_true, true_or, List.getD_cons_zero, List.getD_cons_succ, List.length_cons, List.length_nil, List.cons_append, List.nil_append, Nat.reduceAdd, Nat.reduceEqDiff, reduceCtorEq, Bool.not_true, Bool.not_false, Bool.true_and, Bool.and_true, Bool.false_and, Bool.and_false, Bool.or_true, Bool.true_or, Bool.or_false, Bool.false_or, Bool.false_eq_true, Bool.true_eq_false, Sc.int_i, Sc.bool_b, Sc.list_l, Sc.str_s, Int.reduceEq, Int.reduceLT, Int.reduceLE, Int.reduceNe, decide_true, decide_false, decide_not, eq_self, Classical.not_not, List.getElem?_cons_zero, List.getElem?_cons_succ, beq_self_eq_true, bne_self_eq_false]
  obtain ⟨N, rfl⟩ : ∃ N : Nat, n = N := ⟨n.toNat, by omega⟩
  rw [Int.toNat_natCast]
  refine (find_loop xs (val4 1000000000000) (some [.l [], .i 2]) (some [.l ((grpL xs N).map .i), .i 0]) (by omega) ?_ ?_ ?_).trans ?_
  · intro i rec h hp
    have hi := idx_map Sc.i xs i h
    have hil : (i : Int) < xs.length := by omega
    have hw := succ_w (n := xs.length) h (by omega)
    have o := outside_F xs[i] 1000000000000 (by omega) (by omega)
    rw [hp] at o
    simp only [hi, hil, hw, o, Int.natCast_nonneg, bne_iff_ne, beq_iff_eq, ne_eq, decide_eq_true_eq, Bool.and_eq_true, Bool.or_eq_true, Bool.not_eq_true', decide_eq_false_iff_not, beq_eq_false_iff_ne, bne_eq_false_iff_eq, not_true_eq_false, not_false_eq_true, if_true, if_false, reduceIte, and_true, true_and, and_false, false_and, or_false, false_or, or_true, true_or, List.getD_cons_zero, List.getD_cons_succ, List.length_cons, List.length_nil, List.cons_append, List.nil_append, Nat.reduceAdd, Nat.reduceEqDiff, reduceCtorEq, Bool.not_true, Bool.not_false, Bool.true_and, Bool.and_true, Bool.false_and, Bool.and_false, Bool.or_true, Bool.true_or, Bool.or_false, Bool.false_or, Bool.false_eq_true, Bool.true_eq_false, Sc.int_i, Sc.bool_b, Sc.list_l, Sc.str_s, Int.reduceEq, Int.reduceLT, Int.reduceLE, Int.reduceNe, decide_true, decide_false, decide_not, eq_self, Classical.not_not, List.getElem?_cons_zero, List.getElem?_cons_succ, beq_self_eq_true, bne_self_eq_false]
  · intro i rec h hp
    have hi := idx_map Sc.i xs i h
    have hil : (i : Int) < xs.length := by omega
    have o := outside_F xs[i] 1000000000000 (by omega) (by omega)
    rw [hp] at o
    simp only [hi, hil, o, Int.natCast_nonneg, bne_iff_ne, beq_iff_eq, ne_eq, decide_eq_true_eq, Bool.and_eq_true, Bool.or_eq_true, Bool.not_eq_true', decide_eq_false_iff_not, beq_eq_false_iff_ne, bne_eq_false_iff_eq, not_true_eq_false, not_false_eq_true, if_true, if_false, reduceIte, and_true, true_and, and_false, false_and, or_false, false_or, or_true, true_or, List.getD_cons_zero, List.getD_cons_succ, List.length_cons, List.length_nil, List.cons_append, List.nil_append, Nat.reduceAdd, Nat.reduceEqDiff, reduceCtorEq, Bool.not_true, Bool.not_false, Bool.true_and, Bool.and_true, Bool.false_and, Bool.and_false, Bool.or_true, Bool.true_or, Bool.or_false, Bool.false_or, Bool.false_eq_true, Bool.true_eq_false, Sc.int_i, Sc.bool_b, Sc.list_l, Sc.str_s, Int.reduceEq, Int.reduceLT, Int.reduceLE, Int.reduceNe, decide_true, decide_false, decide_not, eq_self, Classical.not_not, List.getElem?_cons_zero, List.getElem?_cons_succ, beq_self_eq_true, bne_self_eq_false]
  · intro rec hall
    simp only [Int.lt_irrefl, Int.natCast_nonneg, bne_iff_ne, beq_iff_eq, ne_eq, decide_eq_true_eq, Bool.and_eq_true, Bool.or_eq_true, Bool.not_eq_true', decide_eq_false_iff_not, beq_eq_false_iff_ne, bne_eq_false_iff_eq, not_true_eq_false, not_false_eq_true, if_true, if_false, reduceIte, and_true, true_and, and_false, false_and, or_false, false_or, or_true, true_or, List.getD_cons_zero, List.getD_cons_succ, List.length_cons, List.length_nil, List.cons_append, List.nil_append, Nat.reduceAdd, Nat.reduceEqDiff, reduceCtorEq, Bool.not_true, Bool.not_false, Bool.true_and, Bool.and_true, Bool.false_and, Bool.and_false, Bool.or_true, Bool.true_or, Bool.or_false, Bool.false_or, Bool.false_eq_true, Bool.true_eq_false, Sc.int_i, Sc.bool_b, Sc.list_l, Sc.str_s, Int.reduceEq, Int.reduceLT, Int.reduceLE, Int.reduceNe, decide_true, decide_false, decide_not, eq_self, Classical.not_not, List.getElem?_cons_zero, List.getElem?_cons_succ, beq_self_eq_true, bne_self_eq_false]
    have hN0 : (0 : Int) ≤ N := by omega
    have conv : ([.l [], .i 0, .i (xs.length : Int)] : List Sc) = [.l (gout xs N 0), .i ((0 * N : Nat) : Int), .i ((xs.length - 0 * N : Nat) : Int)] := by simp [gout]
    rw [conv, ← gout_all]
    refine loop_rounds (S := Nat) (fun j => [.l (gout xs N j), .i ((j * N : Nat) : Int), .i ((xs.length - j * N : Nat) : Int)]) (fun _ => some [.l (gout xs N (xs.length / N)), .i 0]) (fun j => j ≤ xs.length / N) (fun j => xs.length / N - j) ?_ 0 (Nat.zero_le _) (Nat.lt_of_le_of_lt (Nat.le_trans (Nat.sub_le _ _) (Nat.div_le_self _ _)) (by omega))
    intro j rec2 hj hrec2
    by_cases hlt : j + 1 ≤ xs.length / N
    · have hle : (j + 1) * N ≤ xs.length := (Nat.le_div_iff_mul_le (by omega)).1 hlt
      rw [Nat.succ_mul] at hle
      have c1 : (N : Int) ≤ ((xs.length - j * N : Nat) : Int) := by omega
      have w0 : IntKind.i64.wrap ((N : Int) - 0) = N := by rw [wrI (by omega) (by omega)]; omega
      have w1 : IntKind.i64.wrap (((j * N : Nat) : Int) + 0) = ((j * N : Nat) : Int) := by rw [wrI (by omega) (by omega)]; omega
      have hr2 := hrec2 (j + 1) hlt (by omega)
      rw [Nat.succ_mul, gout_succ] at hr2
      simp only [c1, w0, w1, hN0, Int.natCast_nonneg, bne_iff_ne, beq_iff_eq, ne_eq, decide_eq_true_eq, Bool.and_eq_true, Bool.or_eq_true, Bool.not_eq_true', decide_eq_false_iff_not, beq_eq_false_iff_ne, bne_eq_false_iff_eq, not_true_eq_false, not_false_eq_true, if_true, if_false, reduceIte, and_true, true_and, and_false, false_and, or_false, false_or, or_true, true_or, List.getD_cons_zero, List.getD_cons_succ, List.length_cons, List.length_nil, List.cons_append, List.nil_append, Nat.reduceAdd, Nat.reduceEqDiff, reduceCtorEq, Bool.not_true, Bool.not_false, Bool.true_and, Bool.and_true, Bool.false_and, Bool.and_false, Bool.or_true, Bool.true_or, Bool.or_false, Bool.false_or, Bool.false_eq_true, Bool.true_eq_false, Sc.int_i, Sc.bool_b, Sc.list_l, Sc.str_s, Int.reduceEq, Int.reduceLT, Int.reduceLE, Int.reduceNe, decide_true, decide_false, decide_not, eq_self, Classical.not_not, List.getElem?_cons_zero, List.getElem?_cons_succ, beq_self_eq_true, bne_self_eq_false]
      have conv2 : ([.i 0, .i 0] : List Sc) = [.i (pres xs (j * N + 0) - pres xs (j * N)), .i ((0 : Nat) : Int)] := by simp
      rw [conv2]
      refine loop_rounds (S := Nat) (fun i => [.i (pres xs (j * N + i) - pres xs (j * N)), .i (i : Int)]) (fun _ => some [.l (gout xs N (xs.length / N)), .i 0]) (fun i => i ≤ N) (fun i => N - i) ?_ 0 (by omega) (by omega)
      intro i rec3 hi3 hrec3
      have b1 := pres_in hall hl (j * N + i)
      have b2 := pres_in hall hl (j * N)
      by_cases hin : i < N
      · have hin' : (i : Int) < N := by omega
        have hidx : j * N + i < xs.length := by omega
        have hi := idx_map Sc.i xs (j * N + i) hidx
        have hps := pres_succ hidx
        have b3 := pres_in hall hl (j * N + i + 1)
        rw [hps] at b3
        have w2 : IntKind.i64.wrap (((j * N : Nat) : Int) + i) = ((j * N + i : Nat) : Int) := by rw [wrI (by omega) (by omega)]; omega
        have w3 : IntKind.i64.wrap (pres xs (j * N + i) - pres xs (j * N) + xs[j * N + i]) = pres xs (j * N + i) + xs[j * N + i] - pres xs (j * N) := by rw [wrI (by omega) (by omega)]; omega
        have w4 : IntKind.i64.wrap ((i : Int) + 1) = ((i + 1 : Nat) : Int) := by rw [wrI (by omega) (by omega)]; omega
        have hr3 := hrec3 (i + 1) (by omega) (by omega)
        rw [← Nat.add_assoc, hps] at hr3
        simp only [hin', w2, hi, w3, w4, hr3, Int.natCast_nonneg, bne_iff_ne, beq_iff_eq, ne_eq, decide_eq_true_eq, Bool.and_eq_true, Bool.or_eq_true, Bool.not_eq_true', decide_eq_false_iff_not, beq_eq_false_iff_ne, bne_eq_false_iff_eq, not_true_eq_false, not_false_eq_true, if_true, if_false, reduceIte, and_true, true_and, and_false, false_and, or_false, false_or, or_true, true_or, List.getD_cons_zero, List.getD_cons_succ, List.length_cons, List.length_nil, List.cons_append, List.nil_append, Nat.reduceAdd, Nat.reduceEqDiff, reduceCtorEq, Bool.not_true, Bool.not_false, Bool.true_and, Bool.and_true, Bool.false_and, Bool.and_false, Bool.or_true, Bool.true_or, Bool.or_false, Bool.false_or, Bool.false_eq_true, Bool.true_eq_false, Sc.int_i, Sc.bool_b, Sc.list_l, Sc.str_s, Int.reduceEq, Int.reduceLT, Int.reduceLE, Int.reduceNe, decide_true, decide_false, decide_not, eq_self, Classical.not_not, List.getElem?_cons_zero, List.getElem?_cons_succ, beq_self_eq_true, bne_self_eq_false]
      · have ei : i = N := by omega
        subst ei
        have hin' : ¬ (i : Int) < i := by omega
        have hsn : ((gout xs i j ++ [Sc.i (pres xs (j * i + i) - pres xs (j * i))]).length : Int) ≤ 17592186044416 := by
          rw [List.length_append, gout_len]; have := Nat.div_le_self xs.length i; simp only [List.length_cons, List.length_nil]; omega
        have w5 : IntKind.i64.wrap (((j * i : Nat) : Int) + i) = ((j * i + i : Nat) : Int) := by rw [wrI (by omega) (by omega)]; omega
        have w6 : IntKind.i64.wrap (((xs.length - j * i : Nat) : Int) - i) = ((xs.length - (j * i + i) : Nat) : Int) := by rw [wrI (by omega) (by omega)]; omega
        unfold grp at hr2
        simp only [hin', hsn, c1, Int.le_refl, w5, w6, hr2, Int.natCast_nonneg, bne_iff_ne, beq_iff_eq, ne_eq, decide_eq_true_eq, Bool.and_eq_true, Bool.or_eq_true, Bool.not_eq_true', decide_eq_false_iff_not, beq_eq_false_iff_ne, bne_eq_false_iff_eq, not_true_eq_false, not_false_eq_true, if_true, if_false, reduceIte, and_true, true_and, and_false, false_and, or_false, false_or, or_true, true_or, List.getD_cons_zero, List.getD_cons_succ, List.length_cons, List.length_nil, List.cons_append, List.nil_append, Nat.reduceAdd, Nat.reduceEqDiff, reduceCtorEq, Bool.not_true, Bool.not_false, Bool.true_and, Bool.and_true, Bool.false_and, Bool.and_false, Bool.or_true, Bool.true_or, Bool.or_false, Bool.false_or, Bool.false_eq_true, Bool.true_eq_false, Sc.int_i, Sc.bool_b, Sc.list_l, Sc.str_s, Int.reduceEq, Int.reduceLT, Int.reduceLE, Int.reduceNe, decide_true, decide_false, decide_not, eq_self, Classical.not_not, List.getElem?_cons_zero, List.getElem?_cons_succ, beq_self_eq_true, bne_self_eq_false]
    · have ej : j = xs.length / N := by omega
      have c1 : ¬ (N : Int) ≤ ((xs.length - j * N : Nat) : Int) := by
        intro h
        refine hlt ((Nat.le_div_iff_mul_le (by omega)).2 ?_)
        rw [Nat.succ_mul]; omega
      rw [← ej]
      simp only [c1, Int.natCast_nonneg, bne_iff_ne, beq_iff_eq, ne_eq, decide_eq_true_eq, Bool.and_eq_true, Bool.or_eq_true, Bool.not_eq_true', decide_eq_false_iff_not, beq_eq_false_iff_ne, bne_eq_false_iff_eq, not_true_eq_false, not_false_eq_true, if_true, if_false, reduceIte, and_true, true_and, and_false, false_and, or_false, false_or, or_true, true_or, List.getD_cons_zero, List.getD_cons_succ, List.length_cons, List.length_nil, List.cons_append, List.nil_append, Nat.reduceAdd, Nat.reduceEqDiff, reduceCtorEq, Bool.not_true, Bool.not_false, Bool.true_and, Bool.and_true, Bool.false_and, Bool.and_false, Bool.or_true, Bool.true_or, Bool.or_false, Bool.false_or, Bool.false_eq_true, Bool.true_eq_false, Sc.int_i, Sc.bool_b, Sc.list_l, Sc.str_s, Int.reduceEq, Int.reduceLT, Int.reduceLE, Int.reduceNe, decide_true, decide_false, decide_not, eq_self, Classical.not_not, List.getElem?_cons_zero, List.getElem?_cons_succ, beq_self_eq_true, bne_self_eq_false]
  · split <;> rfl
theorem rbatched_F (xs : List Int) (n : Int) (hl : xs.length ≤ 1000) : k_simulatorref47_Batched.F [.l (xs.map .i), .i n] = some (batL xs n) := by
  simp only [k_simulatorref47_Batched_F, tk_simulatorref47_Batched, List.length_map, Go.Proofs.Ytmnnikceohepcaa.T.den, Ex.ev, U1.ev, U2.ev, U3.ev, gam, List.map, List.getD_cons_zero, List.getD_cons_succ, List.length, List.cons_append, List.nil_append, if_true, Sc.int_i, Sc.bool_b, Sc.list_l, Sc.str_s, Nat.reduceEqDiff, if_false, List.getElem?_cons_zero, List.getElem?_cons_succ]
  by_cases h1 : n < 1
  · rw [batL_out (.inl h1)]; simp only [h1, Int.natCast_nonneg, bne_iff_ne, beq_iff_eq, ne_eq, decide_eq_true_eq, Bool.and_eq_true, Bool.or_eq_true, Bool.not_eq_true', decide_eq_false_iff_not, beq_eq_false_iff_ne, bne_eq_false_iff_eq, not_true_eq_false, not_false_eq_true, if_true, if_false, reduceIte, and_true, true_and, and_false, false_and, or_false, false_or, or_true, true_or, List.getD_cons_zero, List.getD_cons_succ, List.length_cons, List.length_nil, List.cons_append, List.nil_append, Nat.reduceAdd, Nat.reduceEqDiff, reduceCtorEq, Bool.not_true, Bool.not_false, Bool.true_and, Bool.and_true, Bool.false_and, Bool.and_false, Bool.or_true, Bool.true_or, Bool.or_false, Bool.false_or, Bool.false_eq_true, Bool.true_eq_false, Sc.int_i, Sc.bool_b, Sc.list_l, Sc.str_s, Int.reduceEq, Int.reduceLT, Int.reduceLE, Int.reduceNe, decide_true, decide_false, decide_not, eq_self, Classical.not_not, List.getElem?_cons_zero, List.getElem?_cons_succ, beq_self_eq_true, bne_self_eq_false]
  by_cases h2 : 100 < n
  · rw [batL_out (.inr h2)]; simp only [h1, h2, Int.natCast_nonneg, bne_iff_ne, beq_iff_eq, ne_eq, decide_eq_true_eq, Bool.and_eq_true, Bool.or_eq_true, Bool.not_eq_true', decide_eq_false_iff_not, beq_eq_false_iff_ne, bne_eq_false_iff_eq, not_true_eq_false, not_false_eq_true, if_true, if_false, reduceIte, and_true, true_and, and_false, false_and, or_false, false_or, or_true, true_or, List.getD_cons_zero, List.getD_cons_succ, List.length_cons, List.length_nil, List.cons_append, List.nil_append, Nat.reduceAdd, Nat.reduceEqDiff, reduceCtorEq, Bool.not_true, Bool.not_false, Bool.true_and, Bool.and_true, Bool.false_and, Bool.and_false, Bool.or_true, Bool.true_or, Bool.or_false, Bool.false_or, Bool.false_eq_true, Bool.true_eq_false, Sc.int_i, Sc.bool_b, Sc.list_l, Sc.str_s, Int.reduceEq, Int.reduceLT, Int.reduceLE, Int.reduceNe, decide_true, decide_false, decide_not, eq_self, Classical.not_not, List.getElem?_cons_zero, List.getElem?_cons_succ, beq_self_eq_true, bne_self_eq_false]
  rw [batL_mid (by omega)]
  simp only [h1, h2, Int.natCast_nonneg, bne_iff_ne, beq_iff_eq, ne_eq, decide_eq_true_eq, Bool.and_eq_true, Bool.or_eq_true, Bool.not_eq_true', decide_eq_false_iff_not, beq_eq_false_iff_ne, bne_eq_false_iff_eq, not_true_eq_false, not_false_eq_true, if_true, if_false, reduceIte, and_true, true_and, and_false, false_and, or_false, false_or, or_true, true_or, List.getD_cons_zero, List.getD_cons_succ, List.length_cons, List.length_nil, List.cons_append, List.nil_append, Nat.reduceAdd, Nat.reduceEqDiff, reduceCtorEq, Bool.not_true, Bool.not_false, Bool.true_and, Bool.and_true, Bool.false_and, Bool.and_false, Bool.or_true, Bool.true_or, Bool.or_false, Bool.false_or, Bool.false_eq_true, Bool.true_eq_false, Sc.int_i, Sc.bool_b, Sc.list_l, Sc.str_s, Int.reduceEq, Int.reduceLT, Int.reduceLE, Int.reduceNe, decide_true, decide_false, decide_not, eq_self, Classical.not_not, List.getElem?_cons_zero, List.getElem?_cons_succ, beq_self_eq_true, bne_self_eq_false]
  obtain ⟨N, rfl⟩ : ∃ N : Nat, n = N := ⟨n.toNat, by omega⟩
  rw [Int.toNat_natCast]
  refine (find_loop xs (val4 1000000000000) (some [.l [], .i 2]) (some [.l ((grpL xs N).map .i), .i 0]) (by omega) ?_ ?_ ?_).trans ?_
  · intro i rec h hp
    have hi := idx_map Sc.i xs i h
    have hil : (i : Int) < xs.length := by omega
    have hw := succ_w (n := xs.length) h (by omega)
    have hv := val4_true.1 hp
    have c1 : ¬ xs[i] < -1000000000000 := by omega
    have c2 : ¬ 1000000000000 < xs[i] := by omega
    simp only [hi, hil, hw, c1, c2, Int.natCast_nonneg, bne_iff_ne, beq_iff_eq, ne_eq, decide_eq_true_eq, Bool.and_eq_true, Bool.or_eq_true, Bool.not_eq_true', decide_eq_false_iff_not, beq_eq_false_iff_ne, bne_eq_false_iff_eq, not_true_eq_false, not_false_eq_true, if_true, if_false, reduceIte, and_true, true_and, and_false, false_and, or_false, false_or, or_true, true_or, List.getD_cons_zero, List.getD_cons_succ, List.length_cons, List.length_nil, List.cons_append, List.nil_append, Nat.reduceAdd, Nat.reduceEqDiff, reduceCtorEq, Bool.not_true, Bool.not_false, Bool.true_and, Bool.and_true, Bool.false_and, Bool.and_false, Bool.or_true, Bool.true_or, Bool.or_false, Bool.false_or, Bool.false_eq_true, Bool.true_eq_false, Sc.int_i, Sc.bool_b, Sc.list_l, Sc.str_s, Int.reduceEq, Int.reduceLT, Int.reduceLE, Int.reduceNe, decide_true, decide_false, decide_not, eq_self, Classical.not_not, List.getElem?_cons_zero, List.getElem?_cons_succ, beq_self_eq_true, bne_self_eq_false]
  · intro i rec h hp
    have hi := idx_map Sc.i xs i h
    have hil : (i : Int) < xs.length := by omega
    have hv : ¬ (-1000000000000 ≤ xs[i] ∧ xs[i] ≤ 1000000000000) := fun h => by rw [val4_true.2 h] at hp; cases hp
    by_cases c1 : xs[i] < -1000000000000
    · simp only [hi, hil, c1, Int.natCast_nonneg, bne_iff_ne, beq_iff_eq, ne_eq, decide_eq_true_eq, Bool.and_eq_true, Bool.or_eq_true, Bool.not_eq_true', decide_eq_false_iff_not, beq_eq_false_iff_ne, bne_eq_false_iff_eq, not_true_eq_false, not_false_eq_true, if_true, if_false, reduceIte, and_true, true_and, and_false, false_and, or_false, false_or, or_true, true_or, List.getD_cons_zero, List.getD_cons_succ, List.length_cons, List.length_nil, List.cons_append, List.nil_append, Nat.reduceAdd, Nat.reduceEqDiff, reduceCtorEq, Bool.not_true, Bool.not_false, Bool.true_and, Bool.and_true, Bool.false_and, Bool.and_false, Bool.or_true, Bool.true_or, Bool.or_false, Bool.false_or, Bool.false_eq_true, Bool.true_eq_false, Sc.int_i, Sc.bool_b, Sc.list_l, Sc.str_s, Int.reduceEq, Int.reduceLT, Int.reduceLE, Int.reduceNe, decide_true, decide_false, decide_not, eq_self, Classical.not_not, List.getElem?_cons_zero, List.getElem?_cons_succ, beq_self_eq_true, bne_self_eq_false]
    · have c2 : 1000000000000 < xs[i] := by omega
      simp only [hi, hil, c1, c2, Int.natCast_nonneg, bne_iff_ne, beq_iff_eq, ne_eq, decide_eq_true_eq, Bool.and_eq_true, Bool.or_eq_true, Bool.not_eq_true', decide_eq_false_iff_not, beq_eq_false_iff_ne, bne_eq_false_iff_eq, not_true_eq_false, not_false_eq_true, if_true, if_false, reduceIte, and_true, true_and, and_false, false_and, or_false, false_or, or_true, true_or, List.getD_cons_zero, List.getD_cons_succ, List.length_cons, List.length_nil, List.cons_append, List.nil_append, Nat.reduceAdd, Nat.reduceEqDiff, reduceCtorEq, Bool.not_true, Bool.not_false, Bool.true_and, Bool.and_true, Bool.false_and, Bool.and_false, Bool.or_true, Bool.true_or, Bool.or_false, Bool.false_or, Bool.false_eq_true, Bool.true_eq_false, Sc.int_i, Sc.bool_b, Sc.list_l, Sc.str_s, Int.reduceEq, Int.reduceLT, Int.reduceLE, Int.reduceNe, decide_true, decide_false, decide_not, eq_self, Classical.not_not, List.getElem?_cons_zero, List.getElem?_cons_succ, beq_self_eq_true, bne_self_eq_false]
  · intro rec hall
    simp only [Int.lt_irrefl, Int.natCast_nonneg, bne_iff_ne, beq_iff_eq, ne_eq, decide_eq_true_eq, Bool.and_eq_true, Bool.or_eq_true, Bool.not_eq_true', decide_eq_false_iff_not, beq_eq_false_iff_ne, bne_eq_false_iff_eq, not_true_eq_false, not_false_eq_true, if_true, if_false, reduceIte, and_true, true_and, and_false, false_and, or_false, false_or, or_true, true_or, List.getD_cons_zero, List.getD_cons_succ, List.length_cons, List.length_nil, List.cons_append, List.nil_append, Nat.reduceAdd, Nat.reduceEqDiff, reduceCtorEq, Bool.not_true, Bool.not_false, Bool.true_and, Bool.and_true, Bool.false_and, Bool.and_false, Bool.or_true, Bool.true_or, Bool.or_false, Bool.false_or, Bool.false_eq_true, Bool.true_eq_false, Sc.int_i, Sc.bool_b, Sc.list_l, Sc.str_s, Int.reduceEq, Int.reduceLT, Int.reduceLE, Int.reduceNe, decide_true, decide_false, decide_not, eq_self, Classical.not_not, List.getElem?_cons_zero, List.getElem?_cons_succ, beq_self_eq_true, bne_self_eq_false]
    have conv : ([.l [], .i 0] : List Sc) = [.l (gout xs N 0), .i ((0 * N : Nat) : Int)] := by simp [gout]
    rw [conv, ← gout_all]
    refine loop_rounds (S := Nat) (fun j => [.l (gout xs N j), .i ((j * N : Nat) : Int)]) (fun _ => some [.l (gout xs N (xs.length / N)), .i 0]) (fun j => j ≤ xs.length / N) (fun j => xs.length / N - j) ?_ 0 (Nat.zero_le _) (Nat.lt_of_le_of_lt (Nat.le_trans (Nat.sub_le _ _) (Nat.div_le_self _ _)) (by omega))
    intro j rec2 hj hrec2
    have hjle : j * N ≤ xs.length := by
      have := Nat.mul_le_mul_right N hj
      have := Nat.div_mul_le_self xs.length N
      omega
    have w5 : IntKind.i64.wrap (((j * N : Nat) : Int) + N) = ((j * N + N : Nat) : Int) := by rw [wrI (by omega) (by omega)]; omega
    by_cases hlt : j + 1 ≤ xs.length / N
    · have hle : (j + 1) * N ≤ xs.length := (Nat.le_div_iff_mul_le (by omega)).1 hlt
      rw [Nat.succ_mul] at hle
      have c1 : ((j * N + N : Nat) : Int) ≤ (xs.length : Int) := by omega
      have hr2 := hrec2 (j + 1) hlt (by omega)
      rw [Nat.succ_mul, gout_succ] at hr2
      simp only [w5, c1, Int.natCast_nonneg, bne_iff_ne, beq_iff_eq, ne_eq, decide_eq_true_eq, Bool.and_eq_true, Bool.or_eq_true, Bool.not_eq_true', decide_eq_false_iff_not, beq_eq_false_iff_ne, bne_eq_false_iff_eq, not_true_eq_false, not_false_eq_true, if_true, if_false, reduceIte, and_true, true_and, and_false, false_and, or_false, false_or, or_true, true_or, List.getD_cons_zero, List.getD_cons_succ, List.length_cons, List.length_nil, List.cons_append, List.nil_append, Nat.reduceAdd, Nat.reduceEqDiff, reduceCtorEq, Bool.not_true, Bool.not_false, Bool.true_and, Bool.and_true, Bool.false_and, Bool.and_false, Bool.or_true, Bool.true_or, Bool.or_false, Bool.false_or, Bool.false_eq_true, Bool.true_eq_false, Sc.int_i, Sc.bool_b, Sc.list_l, Sc.str_s, Int.reduceEq, Int.reduceLT, Int.reduceLE, Int.reduceNe, decide_true, decide_false, decide_not, eq_self, Classical.not_not, List.getElem?_cons_zero, List.getElem?_cons_succ, beq_self_eq_true, bne_self_eq_false]
      have conv2 : ([.i 0, .i 0] : List Sc) = [.i (pres xs (j * N + 0) - pres xs (j * N)), .i ((0 : Nat) : Int)] := by simp
      rw [conv2]
      refine loop_rounds (S := Nat) (fun i => [.i (pres xs (j * N + i) - pres xs (j * N)), .i (i : Int)]) (fun _ => some [.l (gout xs N (xs.length / N)), .i 0]) (fun i => i ≤ N) (fun i => N - i) ?_ 0 (by omega) (by omega)
      intro i rec3 hi3 hrec3
      have b1 := pres_in hall hl (j * N + i)
      have b2 := pres_in hall hl (j * N)
      by_cases hin : i < N
      · have hin' : (i : Int) < N := by omega
        have hidx : j * N + i < xs.length := by omega
        have hidx' : ((j * N + i : Nat) : Int) < xs.length := by omega
        have hi := idx_map Sc.i xs (j * N + i) hidx
        have hps := pres_succ hidx
        have b3 := pres_in hall hl (j * N + i + 1)
        rw [hps] at b3
        have w2 : IntKind.i64.wrap (((j * N : Nat) : Int) + i) = ((j * N + i : Nat) : Int) := by rw [wrI (by omega) (by omega)]; omega
        have w3 : IntKind.i64.wrap (pres xs (j * N + i) - pres xs (j * N) + xs[j * N + i]) = pres xs (j * N + i) + xs[j * N + i] - pres xs (j * N) := by rw [wrI (by omega) (by omega)]; omega
        have w4 : IntKind.i64.wrap ((i : Int) + 1) = ((i + 1 : Nat) : Int) := by rw [wrI (by omega) (by omega)]; omega
        have hr3 := hrec3 (i + 1) (by omega) (by omega)
        rw [← Nat.add_assoc, hps] at hr3
        simp only [hin', w2, hidx', hi, w3, w4, hr3, Int.natCast_nonneg, bne_iff_ne, beq_iff_eq, ne_eq, decide_eq_true_eq, Bool.and_eq_true, Bool.or_eq_true, Bool.not_eq_true', decide_eq_false_iff_not, beq_eq_false_iff_ne, bne_eq_false_iff_eq, not_true_eq_false, not_false_eq_true, if_true, if_false, reduceIte, and_true, true_and, and_false, false_and, or_false, false_or, or_true, true_or, List.getD_cons_zero, List.getD_cons_succ, List.length_cons, List.length_nil, List.cons_append, List.nil_append, Nat.reduceAdd, Nat.reduceEqDiff, reduceCtorEq, Bool.not_true, Bool.not_false, Bool.true_and, Bool.and_true, Bool.false_and, Bool.and_false, Bool.or_true, Bool.true_or, Bool.or_false, Bool.false_or, Bool.false_eq_true, Bool.true_eq_false, Sc.int_i, Sc.bool_b, Sc.list_l, Sc.str_s, Int.reduceEq, Int.reduceLT, Int.reduceLE, Int.reduceNe, decide_true, decide_false, decide_not, eq_self, Classical.not_not, List.getElem?_cons_zero, List.getElem?_cons_succ, beq_self_eq_true, bne_self_eq_false]
      · have ei : i = N := by omega
        subst ei
        have hin' : ¬ (i : Int) < i := by omega
        have hsn : ((gout xs i j ++ [Sc.i (pres xs (j * i + i) - pres xs (j * i))]).length : Int) ≤ 17592186044416 := by
          rw [List.length_append, gout_len]; have := Nat.div_le_self xs.length i; simp only [List.length_cons, List.length_nil]; omega
        unfold grp at hr2
        simp only [hin', hsn, w5, hr2, Int.natCast_nonneg, bne_iff_ne, beq_iff_eq, ne_eq, decide_eq_true_eq, Bool.and_eq_true, Bool.or_eq_true, Bool.not_eq_true', decide_eq_false_iff_not, beq_eq_false_iff_ne, bne_eq_false_iff_eq, not_true_eq_false, not_false_eq_true, if_true, if_false, reduceIte, and_true, true_and, and_false, false_and, or_false, false_or, or_true, true_or, List.getD_cons_zero, List.getD_cons_succ, List.length_cons, List.length_nil, List.cons_append, List.nil_append, Nat.reduceAdd, Nat.reduceEqDiff, reduceCtorEq, Bool.not_true, Bool.not_false, Bool.true_and, Bool.and_true, Bool.false_and, Bool.and_false, Bool.or_true, Bool.true_or, Bool.or_false, Bool.false_or, Bool.false_eq_true, Bool.true_eq_false, Sc.int_i, Sc.bool_b, Sc.list_l, Sc.str_s, Int.reduceEq, Int.reduceLT, Int.reduceLE, Int.reduceNe, decide_true, decide_false, decide_not, eq_self, Classical.not_not, List.getElem?_cons_zero, List.getElem?_cons_succ, beq_self_eq_true, bne_self_eq_false]
    · have ej : j = xs.length / N := by omega
      have c1 : ¬ ((j * N + N : Nat) : Int) ≤ (xs.length : Int) := by
        intro h
        refine hlt ((Nat.le_div_iff_mul_le (by omega)).2 ?_)
        rw [Nat.succ_mul]; omega
      rw [← ej]
      simp only [w5, c1, Int.natCast_nonneg, bne_iff_ne, beq_iff_eq, ne_eq, decide_eq_true_eq, Bool.and_eq_true, Bool.or_eq_true, Bool.not_eq_true', decide_eq_false_iff_not, beq_eq_false_iff_ne, bne_eq_false_iff_eq, not_true_eq_false, not_false_eq_true, if_true, if_false, reduceIte, and_true, true_and, and_false, false_and, or_false, false_or, or_true, true_or, List.getD_cons_zero, List.getD_cons_succ, List.length_cons, List.length_nil, List.cons_append, List.nil_append, Nat.reduceAdd, Nat.reduceEqDiff, reduceCtorEq, Bool.not_true, Bool.not_false, Bool.true_and, Bool.and_true, Bool.false_and, Bool.and_false, Bool.or_true, Bool.true_or, Bool.or_false, Bool.false_or, Bool.false_eq_true, Bool.true_eq_false, Sc.int_i, Sc.bool_b, Sc.list_l, Sc.str_s, Int.reduceEq, Int.reduceLT, Int.reduceLE, Int.reduceNe, decide_true, decide_false, decide_not, eq_self, Classical.not_not, List.getElem?_cons_zero, List.getElem?_cons_succ, beq_self_eq_true, bne_self_eq_false]
  · split <;> rfl
end Go.Proofs.Ytmnnikceohepcaa
