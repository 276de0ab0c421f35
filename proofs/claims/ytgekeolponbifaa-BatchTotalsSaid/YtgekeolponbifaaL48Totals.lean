/-
  BatchTotals: the mean of each batch times its size is the sum of its values. No condition.
-/
import Derived.Test.YtgekeolponbifaaRows
import Derived.Test.YtgekeolponbifaaOpnR
import Derived.Test.YtgekeolponbifaaA48
import Derived.Test.YtgekeolponbifaaM48b
import Derived.Test.YtgekeolponbifaaSam
namespace Go.Proofs.Ytgekeolponbifaa
open Go.ChangeShapes Go.WideShapes Go.ChangeAt Go.RowKit
set_option linter.unusedSimpArgs false

theorem div_cross (s N : Int) (hN : N ≠ 0) : (Rat.divInt s N).num * N = s * (Rat.divInt s N).den := by
  have h := Rat.num_divInt_den (Rat.divInt s N)
  exact (Rat.divInt_eq_divInt_iff (by have := (Rat.divInt s N).den_pos; omega) hN).1 h
theorem div_small (s : Int) (N : Nat) (hN : 0 < N) : (Rat.divInt s N).num.natAbs ≤ s.natAbs ∧ (Rat.divInt s N).den ≤ N ∧ 1 ≤ (Rat.divInt s N).den := by
  obtain ⟨h1, h2⟩ := div_low s N (by omega)
  have a := Nat.div_le_self s.natAbs (s.natAbs.gcd (N : Int).natAbs)
  have b := Nat.div_le_self (N : Int).natAbs (s.natAbs.gcd (N : Int).natAbs)
  refine ⟨?_, by rw [h2]; omega, (Rat.divInt s N).den_pos⟩
  rw [h1]
  generalize s.natAbs / s.natAbs.gcd (N : Int).natAbs = z at *
  split <;> omega
theorem totals_F (xs : List Int) (n : Int) : k_simulatorlaw48_BatchTotals.F [.l (xs.map .i), .i n] = some [.b true] := by
  simp only [k_simulatorlaw48_BatchTotals_F, tk_simulatorlaw48_BatchTotals, k_batch_Means_f, k_simulatorlaw48_awake_f, awake48, List.length_map, Go.Proofs.Ytgekeolponbifaa.T.den, Ex.ev, U1.ev, U2.ev, U3.ev, gam, List.map, List.getD_cons_zero, List.getD_cons_succ, List.length, List.cons_append, List.nil_append, if_true, Sc.int_i, Sc.bool_b, Sc.list_l, Sc.str_s, Nat.reduceEqDiff, if_false, List.getElem?_cons_zero, List.getElem?_cons_succ]
  by_cases h1 : (1100 : Int) < xs.length
  · simp only [h1, Int.natCast_nonneg, bne_iff_ne, beq_iff_eq, ne_eq, decide_eq_true_eq, Bool.and_eq_true, Bool.or_eq_true, Bool.not_eq_true', decide_eq_false_iff_not, beq_eq_false_iff_ne, bne_eq_false_iff_eq, not_true_eq_false, not_false_eq_true, if_true, if_false, reduceIte, and_true, true_and, and_false, false_and, or_false, false_or, or_true, true_or, List.getD_cons_zero, List.getD_cons_succ, List.length_cons, List.length_nil, List.cons_append, List.nil_append, Nat.reduceAdd, Nat.reduceEqDiff, reduceCtorEq, Bool.not_true, Bool.not_false, Bool.true_and, Bool.and_true, Bool.false_and, Bool.and_false, Bool.or_true, Bool.true_or, Bool.or_false, Bool.false_or, Bool.false_eq_true, Bool.true_eq_false, Sc.int_i, Sc.bool_b, Sc.list_l, Sc.str_s, Int.reduceEq, Int.reduceLT, Int.reduceLE, Int.reduceNe, decide_true, decide_false, decide_not, eq_self, Classical.not_not, List.getElem?_cons_zero, List.getElem?_cons_succ, beq_self_eq_true, bne_self_eq_false]
  have a := fmeans_F xs n (by omega)
  have z0 : ((0 : Nat) : Int) = 0 := rfl
  by_cases h2 : 1000 < xs.length
  · rw [meansL_long h2] at a
    simp only [h1, a, z0, Int.natCast_nonneg, bne_iff_ne, beq_iff_eq, ne_eq, decide_eq_true_eq, Bool.and_eq_true, Bool.or_eq_true, Bool.not_eq_true', decide_eq_false_iff_not, beq_eq_false_iff_ne, bne_eq_false_iff_eq, not_true_eq_false, not_false_eq_true, if_true, if_false, reduceIte, and_true, true_and, and_false, false_and, or_false, false_or, or_true, true_or, List.getD_cons_zero, List.getD_cons_succ, List.length_cons, List.length_nil, List.cons_append, List.nil_append, Nat.reduceAdd, Nat.reduceEqDiff, reduceCtorEq, Bool.not_true, Bool.not_false, Bool.true_and, Bool.and_true, Bool.false_and, Bool.and_false, Bool.or_true, Bool.true_or, Bool.or_false, Bool.false_or, Bool.false_eq_true, Bool.true_eq_false, Sc.int_i, Sc.bool_b, Sc.list_l, Sc.str_s, Int.reduceEq, Int.reduceLT, Int.reduceLE, Int.reduceNe, decide_true, decide_false, decide_not, eq_self, Classical.not_not, List.getElem?_cons_zero, List.getElem?_cons_succ, beq_self_eq_true, bne_self_eq_false]
  by_cases h3 : n < 1 ∨ 100 < n
  · rw [meansL_out h2 h3] at a
    simp only [h1, a, z0, Int.natCast_nonneg, bne_iff_ne, beq_iff_eq, ne_eq, decide_eq_true_eq, Bool.and_eq_true, Bool.or_eq_true, Bool.not_eq_true', decide_eq_false_iff_not, beq_eq_false_iff_ne, bne_eq_false_iff_eq, not_true_eq_false, not_false_eq_true, if_true, if_false, reduceIte, and_true, true_and, and_false, false_and, or_false, false_or, or_true, true_or, List.getD_cons_zero, List.getD_cons_succ, List.length_cons, List.length_nil, List.cons_append, List.nil_append, Nat.reduceAdd, Nat.reduceEqDiff, reduceCtorEq, Bool.not_true, Bool.not_false, Bool.true_and, Bool.and_true, Bool.false_and, Bool.and_false, Bool.or_true, Bool.true_or, Bool.or_false, Bool.false_or, Bool.false_eq_true, Bool.true_eq_false, Sc.int_i, Sc.bool_b, Sc.list_l, Sc.str_s, Int.reduceEq, Int.reduceLT, Int.reduceLE, Int.reduceNe, decide_true, decide_false, decide_not, eq_self, Classical.not_not, List.getElem?_cons_zero, List.getElem?_cons_succ, beq_self_eq_true, bne_self_eq_false]
  rw [meansL_mid h2 h3] at a
  by_cases hall : xs.all (val4 10000) = true
  · rw [if_pos hall] at a
    obtain ⟨N, rfl⟩ : ∃ N : Nat, n = N := ⟨n.toNat, by omega⟩
    rw [Int.toNat_natCast] at a
    have c1 : ¬ (N : Int) < 1 := by omega
    have c2 : ¬ (100 : Int) < N := by omega
    have c3 : ¬ (1000 : Int) < xs.length := by omega
    have c4 : ¬ (N : Int) = 0 := by omega
    have hdl := Nat.div_le_self xs.length N
    have wq : IntKind.i64.wrap (Int.tdiv (xs.length : Int) N) = ((xs.length / N : Nat) : Int) := by
      have e : Int.tdiv (xs.length : Int) N = ((xs.length / N : Nat) : Int) := rfl
      rw [e]
      generalize xs.length / N = D at hdl ⊢
      exact wrI (by omega) (by omega)
    simp only [h1, a, c1, c2, c3, c4, List.length_map, mnL_len, wq, Int.natCast_nonneg, bne_iff_ne, beq_iff_eq, ne_eq, decide_eq_true_eq, Bool.and_eq_true, Bool.or_eq_true, Bool.not_eq_true', decide_eq_false_iff_not, beq_eq_false_iff_ne, bne_eq_false_iff_eq, not_true_eq_false, not_false_eq_true, if_true, if_false, reduceIte, and_true, true_and, and_false, false_and, or_false, false_or, or_true, true_or, List.getD_cons_zero, List.getD_cons_succ, List.length_cons, List.length_nil, List.cons_append, List.nil_append, Nat.reduceAdd, Nat.reduceEqDiff, reduceCtorEq, Bool.not_true, Bool.not_false, Bool.true_and, Bool.and_true, Bool.false_and, Bool.and_false, Bool.or_true, Bool.true_or, Bool.or_false, Bool.false_or, Bool.false_eq_true, Bool.true_eq_false, Sc.int_i, Sc.bool_b, Sc.list_l, Sc.str_s, Int.reduceEq, Int.reduceLT, Int.reduceLE, Int.reduceNe, decide_true, decide_false, decide_not, eq_self, Classical.not_not, List.getElem?_cons_zero, List.getElem?_cons_succ, beq_self_eq_true, bne_self_eq_false]
    refine loop_rounds (S := Nat) (fun j => [.i (j : Int)]) (fun _ => some [.b true]) (fun j => j ≤ xs.length / N) (fun j => xs.length / N - j) ?_ 0 (Nat.zero_le _) (by omega)
    intro j rec2 hj hrec2
    by_cases hlt : j < xs.length / N
    · have k1 : (j : Int) < ((xs.length / N : Nat) : Int) := by omega
      have hle : (j + 1) * N ≤ xs.length := (Nat.le_div_iff_mul_le (by omega)).1 hlt
      rw [Nat.succ_mul] at hle
      have hr2 := hrec2 (j + 1) hlt (by omega)
      simp only [k1, Int.natCast_nonneg, bne_iff_ne, beq_iff_eq, ne_eq, decide_eq_true_eq, Bool.and_eq_true, Bool.or_eq_true, Bool.not_eq_true', decide_eq_false_iff_not, beq_eq_false_iff_ne, bne_eq_false_iff_eq, not_true_eq_false, not_false_eq_true, if_true, if_false, reduceIte, and_true, true_and, and_false, false_and, or_false, false_or, or_true, true_or, List.getD_cons_zero, List.getD_cons_succ, List.length_cons, List.length_nil, List.cons_append, List.nil_append, Nat.reduceAdd, Nat.reduceEqDiff, reduceCtorEq, Bool.not_true, Bool.not_false, Bool.true_and, Bool.and_true, Bool.false_and, Bool.and_false, Bool.or_true, Bool.true_or, Bool.or_false, Bool.false_or, Bool.false_eq_true, Bool.true_eq_false, Sc.int_i, Sc.bool_b, Sc.list_l, Sc.str_s, Int.reduceEq, Int.reduceLT, Int.reduceLE, Int.reduceNe, decide_true, decide_false, decide_not, eq_self, Classical.not_not, List.getElem?_cons_zero, List.getElem?_cons_succ, beq_self_eq_true, bne_self_eq_false]
      have conv2 : ([.i 0, .i 0] : List Sc) = [.i (pres xs (j * N + 0) - pres xs (j * N)), .i ((0 : Nat) : Int)] := by simp
      rw [conv2]
      refine loop_rounds (S := Nat) (fun i => [.i (pres xs (j * N + i) - pres xs (j * N)), .i (i : Int)]) (fun _ => some [.b true]) (fun i => i ≤ N) (fun i => N - i) ?_ 0 (by omega) (by omega)
      intro i rec3 hi3 hrec3
      have b1 := pres_inB hall (by omega) (j * N + i)
      have b2 := pres_inB hall (by omega) (j * N)
      have w7 : IntKind.i64.wrap ((N : Int) * j) = ((j * N : Nat) : Int) := by
        have e : (N : Int) * j = ((j * N : Nat) : Int) := by rw [Nat.mul_comm]; rfl
        rw [e, wrI (by omega) (by omega)]
      by_cases hin : i < N
      · have hin' : (i : Int) < N := by omega
        have hidx : j * N + i < xs.length := by omega
        have hidx' : ((j * N + i : Nat) : Int) < xs.length := by omega
        have hi := idx_map Sc.i xs (j * N + i) hidx
        have hps := pres_succ hidx
        have b3 := pres_inB hall (by omega) (j * N + i + 1)
        rw [hps] at b3
        have w2 : IntKind.i64.wrap (((j * N : Nat) : Int) + i) = ((j * N + i : Nat) : Int) := by rw [wrI (by omega) (by omega)]; omega
        have w3 : IntKind.i64.wrap (pres xs (j * N + i) - pres xs (j * N) + xs[j * N + i]) = pres xs (j * N + i) + xs[j * N + i] - pres xs (j * N) := by rw [wrI (by omega) (by omega)]; omega
        have w4 : IntKind.i64.wrap ((i : Int) + 1) = ((i + 1 : Nat) : Int) := by rw [wrI (by omega) (by omega)]; omega
        have hr3 := hrec3 (i + 1) (by omega) (by omega)
        rw [← Nat.add_assoc, hps] at hr3
        simp only [hin', w7, w2, hidx', hi, w3, w4, hr3, Int.natCast_nonneg, bne_iff_ne, beq_iff_eq, ne_eq, decide_eq_true_eq, Bool.and_eq_true, Bool.or_eq_true, Bool.not_eq_true', decide_eq_false_iff_not, beq_eq_false_iff_ne, bne_eq_false_iff_eq, not_true_eq_false, not_false_eq_true, if_true, if_false, reduceIte, and_true, true_and, and_false, false_and, or_false, false_or, or_true, true_or, List.getD_cons_zero, List.getD_cons_succ, List.length_cons, List.length_nil, List.cons_append, List.nil_append, Nat.reduceAdd, Nat.reduceEqDiff, reduceCtorEq, Bool.not_true, Bool.not_false, Bool.true_and, Bool.and_true, Bool.false_and, Bool.and_false, Bool.or_true, Bool.true_or, Bool.or_false, Bool.false_or, Bool.false_eq_true, Bool.true_eq_false, Sc.int_i, Sc.bool_b, Sc.list_l, Sc.str_s, Int.reduceEq, Int.reduceLT, Int.reduceLE, Int.reduceNe, decide_true, decide_false, decide_not, eq_self, Classical.not_not, List.getElem?_cons_zero, List.getElem?_cons_succ, beq_self_eq_true, bne_self_eq_false]
      · have ei : i = N := by omega
        subst ei
        have hin' : ¬ (i : Int) < i := by omega
        have hq : ((mnL xs i).map fun q => pt (pr q)).getD ((j : Int)).toNat (.i 0) = .l [.i (Rat.divInt (grp xs i j) i).num, .i (Rat.divInt (grp xs i j) i).den] := by
          have := idx_map (fun q => pt (pr q)) (mnL xs i) j (by rw [mnL_len]; exact hlt)
          rw [this]
          simp only [mnL, List.getElem_map, List.getElem_range]
          rfl
        have gb := grp_in hall (N := i) (j := j) hle
        have dc := div_cross (grp xs i j) i (by omega)
        obtain ⟨d1, d2, d3⟩ := div_small (grp xs i j) i (by omega)
        unfold grp at hq gb dc d1 d2 d3
        generalize Rat.divInt (pres xs (j * i + i) - pres xs (j * i)) i = q at *
        generalize pres xs (j * i + i) - pres xs (j * i) = s at *
        have e1 : ¬ (q.den : Int) < 1 := by omega
        have e2 : ¬ (100 : Int) < q.den := by omega
        have e3 : ¬ (1000000 : Int) < q.num := by omega
        have e4 : ¬ q.num < -1000000 := by omega
        have bb : (q.num * i).natAbs ≤ 1000000 * 100 := by rw [Int.natAbs_mul]; exact Nat.mul_le_mul (by omega) (by omega)
        have w8 : IntKind.i64.wrap (q.num * i) = q.num * i := wrI (by omega) (by omega)
        have w9 : IntKind.i64.wrap (s * q.den) = q.num * i := by rw [← dc, w8]
        have w4 : IntKind.i64.wrap ((j : Int) + 1) = ((j + 1 : Nat) : Int) := by rw [wrI (by omega) (by omega)]; omega
        simp only [hin', hq, k1, e1, e2, e3, e4, w8, w9, w4, hr2, Int.natCast_nonneg, bne_iff_ne, beq_iff_eq, ne_eq, decide_eq_true_eq, Bool.and_eq_true, Bool.or_eq_true, Bool.not_eq_true', decide_eq_false_iff_not, beq_eq_false_iff_ne, bne_eq_false_iff_eq, not_true_eq_false, not_false_eq_true, if_true, if_false, reduceIte, and_true, true_and, and_false, false_and, or_false, false_or, or_true, true_or, List.getD_cons_zero, List.getD_cons_succ, List.length_cons, List.length_nil, List.cons_append, List.nil_append, Nat.reduceAdd, Nat.reduceEqDiff, reduceCtorEq, Bool.not_true, Bool.not_false, Bool.true_and, Bool.and_true, Bool.false_and, Bool.and_false, Bool.or_true, Bool.true_or, Bool.or_false, Bool.false_or, Bool.false_eq_true, Bool.true_eq_false, Sc.int_i, Sc.bool_b, Sc.list_l, Sc.str_s, Int.reduceEq, Int.reduceLT, Int.reduceLE, Int.reduceNe, decide_true, decide_false, decide_not, eq_self, Classical.not_not, List.getElem?_cons_zero, List.getElem?_cons_succ, beq_self_eq_true, bne_self_eq_false]
    · have k1 : ¬ (j : Int) < ((xs.length / N : Nat) : Int) := by omega
      simp only [k1, Int.natCast_nonneg, bne_iff_ne, beq_iff_eq, ne_eq, decide_eq_true_eq, Bool.and_eq_true, Bool.or_eq_true, Bool.not_eq_true', decide_eq_false_iff_not, beq_eq_false_iff_ne, bne_eq_false_iff_eq, not_true_eq_false, not_false_eq_true, if_true, if_false, reduceIte, and_true, true_and, and_false, false_and, or_false, false_or, or_true, true_or, List.getD_cons_zero, List.getD_cons_succ, List.length_cons, List.length_nil, List.cons_append, List.nil_append, Nat.reduceAdd, Nat.reduceEqDiff, reduceCtorEq, Bool.not_true, Bool.not_false, Bool.true_and, Bool.and_true, Bool.false_and, Bool.and_false, Bool.or_true, Bool.true_or, Bool.or_false, Bool.false_or, Bool.false_eq_true, Bool.true_eq_false, Sc.int_i, Sc.bool_b, Sc.list_l, Sc.str_s, Int.reduceEq, Int.reduceLT, Int.reduceLE, Int.reduceNe, decide_true, decide_false, decide_not, eq_self, Classical.not_not, List.getElem?_cons_zero, List.getElem?_cons_succ, beq_self_eq_true, bne_self_eq_false]
  · rw [if_neg hall] at a
    simp only [h1, a, z0, Int.natCast_nonneg, bne_iff_ne, beq_iff_eq, ne_eq, decide_eq_true_eq, Bool.and_eq_true, Bool.or_eq_true, Bool.not_eq_true', decide_eq_false_iff_not, beq_eq_false_iff_ne, bne_eq_false_iff_eq, not_true_eq_false, not_false_eq_true, if_true, if_false, reduceIte, and_true, true_and, and_false, false_and, or_false, false_or, or_true, true_or, List.getD_cons_zero, List.getD_cons_succ, List.length_cons, List.length_nil, List.cons_append, List.nil_append, Nat.reduceAdd, Nat.reduceEqDiff, reduceCtorEq, Bool.not_true, Bool.not_false, Bool.true_and, Bool.and_true, Bool.false_and, Bool.and_false, Bool.or_true, Bool.true_or, Bool.or_false, Bool.false_or, Bool.false_eq_true, Bool.true_eq_false, Sc.int_i, Sc.bool_b, Sc.list_l, Sc.str_s, Int.reduceEq, Int.reduceLT, Int.reduceLE, Int.reduceNe, decide_true, decide_false, decide_not, eq_self, Classical.not_not, List.getElem?_cons_zero, List.getElem?_cons_succ, beq_self_eq_true, bne_self_eq_false]

namespace batchTotals
theorem own : ownKnob Try.prog.godebug = none := by kernel_rfl
theorem laidOut : laidOutB Try.prog = true := by kernel_rfl
set_option maxRecDepth 100000 in
theorem lifted (os : Os) (started : os.Started) (H : Type) (enc : TypeId × Value → H) :
    ReturnsInHanded {} Try.checked os 6 .any (Rows.batchTotalsSpec.pre6 enc Try.prog Try.f6 Rows.batchTotalsRow.domain false) (Rows.batchTotalsSpec.post enc Try.prog Try.f6 false true false false) := by
  refine returnsInHanded_of_change (C := Try.checked) own started (by kernel_rfl) Try.func6
    (ChangeSpec.witness6 (enc := enc) (C := Try.checked) false ⟨#[], #[.slice none 0 0, .int .i64 0], []⟩ 8 (by kernel_rfl) (by kernel_rfl) (by kernel_rfl) (by kernel_rfl)) ?_
  intro W base args ds gs before hval0 hW hcnd _
  have hval : ∀ (j : Nat) t v, Try.f6.params[j]? = some t → args[j]? = some v → Value.okWide Try.prog W .any base t v := hval0
  have hW' := hW
  obtain ⟨p, q, hA0, hV, rfl, hfz, hnd⟩ := hW
  have hA : DataW.TrodAll enc Try.prog W 0 (fun _ => true) true Try.f6.params.toList args.toList ds p := hA0
  rw [Try.params6] at hA hval
  obtain ⟨v0, vs0, d0, ds0, p0, q0, hargs, rfl, rfl, h0, r0⟩ := trodAll_cons hA
  obtain ⟨v1, vs1, d1, ds1, p1, q1, rfl, rfl, rfl, h1, r1⟩ := trodAll_cons r0
  obtain ⟨rfl, rfl, rfl⟩ := trodAll_nil r1
  obtain rfl : args = #[v0, v1] := by cases args; simp_all
  obtain ⟨rfl, rfl⟩ := trodVars_none hV
  have k0 := h0
  have lt0 : ∀ x ∈ p0, x.block < W.heap.size := by obtain ⟨m, hm⟩ := k0; exact DataW.trod_lt m _ _ _ hm
  have ok0 := hval 0 22 v0 rfl rfl
  have k1 := h1
  have lt1 : ∀ x ∈ p1, x.block < W.heap.size := by obtain ⟨m, hm⟩ := k1; exact DataW.trod_lt m _ _ _ hm
  have ok1 := hval 1 3 v1 rfl rfl
  obtain ⟨xs, _, _, g0⟩ := open_ints (k := .i64) Try.underlying22 (by kernel_rfl) (by kernel_rfl) ok0 h0
  obtain ⟨y1, ⟨n, rfl, _⟩, g1⟩ := open_a (k := .int .i64) (by kernel_rfl) ok1 h1
  clear hA0 hval0
  refine (law_call k_simulatorlaw48_BatchTotals (Try.call6 _ _) (vs := [v0, v1]) (args2 g0 g1) (totals_F xs n) rfl).mono fun e W' ⟨he, bel⟩ => ?_
  subst he
  exact ⟨_, rfl, _, _, _, [], _, [], hW', trodAll_mk1 (shut_bool Try.underlying4 _), (trodAll_cons_mk (Below.trod laidOut (by kernel_rfl) (of_decide_eq_true (by kernel_rfl)) k0 bel lt0) (trodAll_cons_mk (Below.trod laidOut (by kernel_rfl) (of_decide_eq_true (by kernel_rfl)) k1 bel lt1) trodAll_mk0)), rfl, bel.frame _, fun h => by cases h⟩
theorem over : Rows.batchTotalsRow.holds Try.pinned (OpenSpec.ofChange Rows.batchTotalsSpec) :=
  OpenClaim.holds_of_wide 6 Try.f6 rfl rfl rfl rfl rfl rfl rfl ⟨rfl, rfl, rfl, rfl, rfl⟩ rfl rfl rfl rfl rfl (by kernel_rfl) Try.func6 (by kernel_rfl)
    (of_decide_eq_true (by kernel_rfl)) (by unfold Func.isWrapper; first | (rw [if_pos (by decide +kernel)]; kernel_rfl) | (rw [if_neg (by decide +kernel)]; exact ⟨rfl, rfl⟩))
    (fun os started H enc _ => lifted os started H enc)
theorem proved : Rows.BatchTotalsSaid := over
end batchTotals

end Go.Proofs.Ytgekeolponbifaa
