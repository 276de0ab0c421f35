/-
  SeriesSteps: neighboring means differ by the n-th part of the difference of the value that comes and the one that goes. No condition.
-/
import Derived.Test.YtfaghnapfkpdhaaRows
import Derived.Test.YtfaghnapfkpdhaaOpnR
import Derived.Test.YtfaghnapfkpdhaaA46
import Derived.Test.YtfaghnapfkpdhaaM46b
import Derived.Test.YtfaghnapfkpdhaaFrS
import Derived.Test.YtfaghnapfkpdhaaFq
namespace Go.Proofs.Ytfaghnapfkpdhaa
open Go.ChangeShapes Go.WideShapes Go.ChangeAt Go.RowKit
set_option linter.unusedSimpArgs false

theorem mvL_idx {xs : List Int} {N m k : Nat} (h : k < m) : (mvL xs N m).getD ((k : Int)).toNat (.i 0) = mvF xs N k := by
  have hi := idx_map (mvF xs N) (List.range m) k (by simpa using h)
  rw [List.getElem_range] at hi
  exact hi
theorem steps_F (xs : List Int) (n : Int) : k_simulatorlaw46_SeriesSteps.F [.l (xs.map .i), .i n] = some [.b true] := by
  have m1 := moving_F xs n
  simp only [k_simulatorlaw46_SeriesSteps_F, tk_simulatorlaw46_SeriesSteps, k_series_Moving_f, k_frac_Sub_f, k_simulatorref02_Of_f, k_simulatorlaw46_awake_f, awake46, List.length_map, Go.Proofs.Ytfaghnapfkpdhaa.T.den, Ex.ev, U1.ev, U2.ev, U3.ev, gam, List.map, List.getD_cons_zero, List.getD_cons_succ, List.length, List.cons_append, List.nil_append, if_true, Sc.int_i, Sc.bool_b, Sc.list_l, Sc.str_s, Nat.reduceEqDiff, if_false, List.getElem?_cons_zero, List.getElem?_cons_succ]
  unfold mvR at m1
  have l0 : ((0 : Nat) : Int) = 0 := rfl
  by_cases h1 : (200 : Int) < xs.length
  · simp only [h1, Int.natCast_nonneg, bne_iff_ne, beq_iff_eq, ne_eq, decide_eq_true_eq, Bool.and_eq_true, Bool.or_eq_true, Bool.not_eq_true', decide_eq_false_iff_not, beq_eq_false_iff_ne, bne_eq_false_iff_eq, not_true_eq_false, not_false_eq_true, if_true, if_false, reduceIte, and_true, true_and, and_false, false_and, or_false, false_or, or_true, true_or, List.getD_cons_zero, List.getD_cons_succ, List.length_cons, List.length_nil, List.cons_append, List.nil_append, Nat.reduceAdd, Nat.reduceEqDiff, reduceCtorEq, Bool.not_true, Bool.not_false, Bool.true_and, Bool.and_true, Bool.false_and, Bool.and_false, Bool.or_true, Bool.true_or, Bool.or_false, Bool.false_or, Bool.false_eq_true, Bool.true_eq_false, Sc.int_i, Sc.bool_b, Sc.list_l, Sc.str_s, Int.reduceEq, Int.reduceLT, Int.reduceLE, Int.reduceNe, decide_true, decide_false, decide_not, eq_self, Classical.not_not, List.getElem?_cons_zero, List.getElem?_cons_succ, beq_self_eq_true, bne_self_eq_false]
  have h2000 : ¬ 2000 < xs.length := by omega
  by_cases hn : n < 1 ∨ 100 < n
  · rw [if_pos hn] at m1
    simp only [h1, m1, l0, Int.natCast_nonneg, bne_iff_ne, beq_iff_eq, ne_eq, decide_eq_true_eq, Bool.and_eq_true, Bool.or_eq_true, Bool.not_eq_true', decide_eq_false_iff_not, beq_eq_false_iff_ne, bne_eq_false_iff_eq, not_true_eq_false, not_false_eq_true, if_true, if_false, reduceIte, and_true, true_and, and_false, false_and, or_false, false_or, or_true, true_or, List.getD_cons_zero, List.getD_cons_succ, List.length_cons, List.length_nil, List.cons_append, List.nil_append, Nat.reduceAdd, Nat.reduceEqDiff, reduceCtorEq, Bool.not_true, Bool.not_false, Bool.true_and, Bool.and_true, Bool.false_and, Bool.and_false, Bool.or_true, Bool.true_or, Bool.or_false, Bool.false_or, Bool.false_eq_true, Bool.true_eq_false, Sc.int_i, Sc.bool_b, Sc.list_l, Sc.str_s, Int.reduceEq, Int.reduceLT, Int.reduceLE, Int.reduceNe, decide_true, decide_false, decide_not, eq_self, Classical.not_not, List.getElem?_cons_zero, List.getElem?_cons_succ, beq_self_eq_true, bne_self_eq_false]
  by_cases hall : xs.all valB = true
  · rw [if_neg hn, if_neg h2000, if_pos hall] at m1
    obtain ⟨N, rfl⟩ : ∃ N : Nat, n = N := ⟨n.toNat, by omega⟩
    rw [Int.toNat_natCast] at m1
    have hN1 : ¬ (N : Int) < 1 := by omega
    obtain ⟨m, hm⟩ : ∃ m, xs.length + 1 - N = m := ⟨_, rfl⟩
    rw [hm] at m1
    have key : ∀ g, (∀ k rec, k + 1 < m → rec [.i ((k + 2 : Nat) : Int)] = some [.b true] → g rec [.i ((k + 1 : Nat) : Int)] = some [.b true]) → (∀ k rec, ¬ k + 1 < m → g rec [.i ((k + 1 : Nat) : Int)] = some [.b true]) → loopN g rounds [.i 1] = some [.b true] := by
      intro g h1 h2
      refine loop_rounds (S := Nat) (fun k => [.i ((k + 1 : Nat) : Int)]) (fun _ => some [.b true]) (fun _ => True) (fun k => m - k) ?_ 0 trivial (by omega)
      intro k rec _ hrec
      by_cases h : k + 1 < m
      · exact h1 k rec h (hrec (k + 1) trivial (by omega))
      · exact h2 k rec h
    have hlen := mvL_len xs N m
    have fin : ∀ k : Nat, ¬ k + 1 < m → ¬ ((k + 1 : Nat) : Int) < (m : Int) := fun k h => by omega
    have step : ∀ k : Nat, k + 1 < m → ∃ (q r : Rat), fitQ q = true ∧ fitQ r = true ∧ (mvL xs N m).getD (((k + 1 : Nat) : Int)).toNat (.i 0) = .l [.i q.num, .i q.den] ∧ (mvL xs N m).getD ((k : Int)).toNat (.i 0) = .l [.i r.num, .i r.den] ∧
        ∃ (h : k < xs.length) (h' : k + N < xs.length), subQ q.num q.den r.num r.den = ofQ (xs[k + N] - xs[k]) N ∧ fitQ (Rat.divInt (xs[k + N] - xs[k]) N) = true ∧ I64 (xs[k + N] - xs[k]) := by
      intro k h
      have hN0 : (N : Int) ≠ 0 := by omega
      have all2 : (xs.take xs.length).all valB = true := by rw [List.take_length]; exact hall
      have hk : k < xs.length := by omega
      have hkN : k + N < xs.length := by omega
      have b1 := pre_bound all2 (by omega) (show k + 1 + N ≤ xs.length by omega)
      have b2 := pre_bound all2 (by omega) (show k + 1 ≤ xs.length by omega)
      have b3 := pre_bound all2 (by omega) (show k + N ≤ xs.length by omega)
      have b4 := pre_bound all2 (by omega) (show k ≤ xs.length by omega)
      have p1 := pre_succ hk
      have p2 := pre_succ hkN
      rw [show k + N + 1 = k + 1 + N by omega] at p2
      have f1 : fitQ (Rat.divInt (pre xs (k + 1 + N) - pre xs (k + 1)) N) = true := fit_small hN0 (by unfold maxN; omega) (by unfold maxD; omega)
      have f2 : fitQ (Rat.divInt (pre xs (k + N) - pre xs k) N) = true := fit_small hN0 (by unfold maxN; omega) (by unfold maxD; omega)
      have ed : pre xs (k + 1 + N) - pre xs (k + 1) - (pre xs (k + N) - pre xs k) = xs[k + N] - xs[k] := by omega
      refine ⟨_, _, f1, f2, mvL_idx h, mvL_idx (by omega), hk, hkN, ?_, fit_small hN0 (by unfold maxN; omega) (by unfold maxD; omega), ⟨by omega, by omega⟩⟩
      rw [subQ_fit f1 f2, divInt_sub_same, ed, ofQ, if_neg hN0]
    by_cases hm0 : 0 < m
    · have hmi : (0 : Int) < m := by omega
      have hw : IntKind.i64.wrap (IntKind.i64.wrap ((xs.length : Int) - N) + 1) = (m : Int) := by rw [wrI (z := (xs.length : Int) - N) (by omega) (by omega), wrI (by omega) (by omega)]; omega
      simp only [h1, m1, hlen, hN1, hmi, hw, Int.natCast_nonneg, bne_iff_ne, beq_iff_eq, ne_eq, decide_eq_true_eq, Bool.and_eq_true, Bool.or_eq_true, Bool.not_eq_true', decide_eq_false_iff_not, beq_eq_false_iff_ne, bne_eq_false_iff_eq, not_true_eq_false, not_false_eq_true, if_true, if_false, reduceIte, and_true, true_and, and_false, false_and, or_false, false_or, or_true, true_or, List.getD_cons_zero, List.getD_cons_succ, List.length_cons, List.length_nil, List.cons_append, List.nil_append, Nat.reduceAdd, Nat.reduceEqDiff, reduceCtorEq, Bool.not_true, Bool.not_false, Bool.true_and, Bool.and_true, Bool.false_and, Bool.and_false, Bool.or_true, Bool.true_or, Bool.or_false, Bool.false_or, Bool.false_eq_true, Bool.true_eq_false, Sc.int_i, Sc.bool_b, Sc.list_l, Sc.str_s, Int.reduceEq, Int.reduceLT, Int.reduceLE, Int.reduceNe, decide_true, decide_false, decide_not, eq_self, Classical.not_not, List.getElem?_cons_zero, List.getElem?_cons_succ, beq_self_eq_true, bne_self_eq_false]
      refine key _ (fun k rec hk hr => ?_) (fun k rec hk => ?_)
      · obtain ⟨q, r, fq, fr, e1, e2, i1, i2, e3, e4, e5⟩ := step k hk
        obtain ⟨a1, a2, a3, a4⟩ := fit_bounds fq
        obtain ⟨c1, c2, c3, c4⟩ := fit_bounds fr
        have s := sub_F q.num q.den r.num r.den ⟨by omega, by omega⟩ ⟨by omega, by omega⟩ ⟨by omega, by omega⟩ ⟨by omega, by omega⟩
        have o := rOf_F (xs[k + N] - xs[k]) N e5 ⟨by omega, by omega⟩
        rw [e3] at s
        rw [ofQ, if_neg (by omega), outQ_yes e4] at s o
        have hkm : ((k + 1 : Nat) : Int) < (m : Int) := by omega
        have hkm2 : (k : Int) < (m : Int) := by omega
        have w1 : IntKind.i64.wrap (((k + 1 : Nat) : Int) - 1) = k := by rw [wrI (by omega) (by omega)]; omega
        have w2 : IntKind.i64.wrap (IntKind.i64.wrap (((k + 1 : Nat) : Int) + N) - 1) = ((k + N : Nat) : Int) := by rw [wrI (z := ((k + 1 : Nat) : Int) + N) (by omega) (by omega), wrI (by omega) (by omega)]; omega
        have w3 : IntKind.i64.wrap (((k + 1 : Nat) : Int) + 1) = ((k + 2 : Nat) : Int) := by rw [wrI (by omega) (by omega)]; omega
        have hl1 : (k : Int) < xs.length := by omega
        have hl2 : ((k + N : Nat) : Int) < xs.length := by omega
        have j1 := idx_map Sc.i xs k i1
        have j2 := idx_map Sc.i xs (k + N) i2
        have w4 : IntKind.i64.wrap (xs[k + N] - xs[k]) = xs[k + N] - xs[k] := wrI e5.1 e5.2
        simp only [hkm, hkm2, w1, w2, w3, e1, e2, s, hl1, hl2, j1, j2, w4, o, hr, hlen, Bool.and_self, Int.natCast_nonneg, bne_iff_ne, beq_iff_eq, ne_eq, decide_eq_true_eq, Bool.and_eq_true, Bool.or_eq_true, Bool.not_eq_true', decide_eq_false_iff_not, beq_eq_false_iff_ne, bne_eq_false_iff_eq, not_true_eq_false, not_false_eq_true, if_true, if_false, reduceIte, and_true, true_and, and_false, false_and, or_false, false_or, or_true, true_or, List.getD_cons_zero, List.getD_cons_succ, List.length_cons, List.length_nil, List.cons_append, List.nil_append, Nat.reduceAdd, Nat.reduceEqDiff, reduceCtorEq, Bool.not_true, Bool.not_false, Bool.true_and, Bool.and_true, Bool.false_and, Bool.and_false, Bool.or_true, Bool.true_or, Bool.or_false, Bool.false_or, Bool.false_eq_true, Bool.true_eq_false, Sc.int_i, Sc.bool_b, Sc.list_l, Sc.str_s, Int.reduceEq, Int.reduceLT, Int.reduceLE, Int.reduceNe, decide_true, decide_false, decide_not, eq_self, Classical.not_not, List.getElem?_cons_zero, List.getElem?_cons_succ, beq_self_eq_true, bne_self_eq_false]
      · simp only [fin k hk, hlen, Int.natCast_nonneg, bne_iff_ne, beq_iff_eq, ne_eq, decide_eq_true_eq, Bool.and_eq_true, Bool.or_eq_true, Bool.not_eq_true', decide_eq_false_iff_not, beq_eq_false_iff_ne, bne_eq_false_iff_eq, not_true_eq_false, not_false_eq_true, if_true, if_false, reduceIte, and_true, true_and, and_false, false_and, or_false, false_or, or_true, true_or, List.getD_cons_zero, List.getD_cons_succ, List.length_cons, List.length_nil, List.cons_append, List.nil_append, Nat.reduceAdd, Nat.reduceEqDiff, reduceCtorEq, Bool.not_true, Bool.not_false, Bool.true_and, Bool.and_true, Bool.false_and, Bool.and_false, Bool.or_true, Bool.true_or, Bool.or_false, Bool.false_or, Bool.false_eq_true, Bool.true_eq_false, Sc.int_i, Sc.bool_b, Sc.list_l, Sc.str_s, Int.reduceEq, Int.reduceLT, Int.reduceLE, Int.reduceNe, decide_true, decide_false, decide_not, eq_self, Classical.not_not, List.getElem?_cons_zero, List.getElem?_cons_succ, beq_self_eq_true, bne_self_eq_false]
    · have hm1 : m = 0 := by omega
      subst hm1
      have hz : ¬ (1 : Int) < 0 := by omega
      have e : mvL xs N 0 = [] := rfl
      rw [e] at m1
      simp only [h1, m1, hN1, l0, Int.lt_irrefl, Int.natCast_nonneg, bne_iff_ne, beq_iff_eq, ne_eq, decide_eq_true_eq, Bool.and_eq_true, Bool.or_eq_true, Bool.not_eq_true', decide_eq_false_iff_not, beq_eq_false_iff_ne, bne_eq_false_iff_eq, not_true_eq_false, not_false_eq_true, if_true, if_false, reduceIte, and_true, true_and, and_false, false_and, or_false, false_or, or_true, true_or, List.getD_cons_zero, List.getD_cons_succ, List.length_cons, List.length_nil, List.cons_append, List.nil_append, Nat.reduceAdd, Nat.reduceEqDiff, reduceCtorEq, Bool.not_true, Bool.not_false, Bool.true_and, Bool.and_true, Bool.false_and, Bool.and_false, Bool.or_true, Bool.true_or, Bool.or_false, Bool.false_or, Bool.false_eq_true, Bool.true_eq_false, Sc.int_i, Sc.bool_b, Sc.list_l, Sc.str_s, Int.reduceEq, Int.reduceLT, Int.reduceLE, Int.reduceNe, decide_true, decide_false, decide_not, eq_self, Classical.not_not, List.getElem?_cons_zero, List.getElem?_cons_succ, beq_self_eq_true, bne_self_eq_false]
      refine key _ (fun k rec hk hr => by omega) (fun k rec hk => ?_)
      have hk2 : ¬ ((k + 1 : Nat) : Int) < 0 := by omega
      simp only [hk2, l0, Int.natCast_nonneg, bne_iff_ne, beq_iff_eq, ne_eq, decide_eq_true_eq, Bool.and_eq_true, Bool.or_eq_true, Bool.not_eq_true', decide_eq_false_iff_not, beq_eq_false_iff_ne, bne_eq_false_iff_eq, not_true_eq_false, not_false_eq_true, if_true, if_false, reduceIte, and_true, true_and, and_false, false_and, or_false, false_or, or_true, true_or, List.getD_cons_zero, List.getD_cons_succ, List.length_cons, List.length_nil, List.cons_append, List.nil_append, Nat.reduceAdd, Nat.reduceEqDiff, reduceCtorEq, Bool.not_true, Bool.not_false, Bool.true_and, Bool.and_true, Bool.false_and, Bool.and_false, Bool.or_true, Bool.true_or, Bool.or_false, Bool.false_or, Bool.false_eq_true, Bool.true_eq_false, Sc.int_i, Sc.bool_b, Sc.list_l, Sc.str_s, Int.reduceEq, Int.reduceLT, Int.reduceLE, Int.reduceNe, decide_true, decide_false, decide_not, eq_self, Classical.not_not, List.getElem?_cons_zero, List.getElem?_cons_succ, beq_self_eq_true, bne_self_eq_false]
  · rw [if_neg hn, if_neg h2000, if_neg hall] at m1
    simp only [h1, m1, l0, Int.natCast_nonneg, bne_iff_ne, beq_iff_eq, ne_eq, decide_eq_true_eq, Bool.and_eq_true, Bool.or_eq_true, Bool.not_eq_true', decide_eq_false_iff_not, beq_eq_false_iff_ne, bne_eq_false_iff_eq, not_true_eq_false, not_false_eq_true, if_true, if_false, reduceIte, and_true, true_and, and_false, false_and, or_false, false_or, or_true, true_or, List.getD_cons_zero, List.getD_cons_succ, List.length_cons, List.length_nil, List.cons_append, List.nil_append, Nat.reduceAdd, Nat.reduceEqDiff, reduceCtorEq, Bool.not_true, Bool.not_false, Bool.true_and, Bool.and_true, Bool.false_and, Bool.and_false, Bool.or_true, Bool.true_or, Bool.or_false, Bool.false_or, Bool.false_eq_true, Bool.true_eq_false, Sc.int_i, Sc.bool_b, Sc.list_l, Sc.str_s, Int.reduceEq, Int.reduceLT, Int.reduceLE, Int.reduceNe, decide_true, decide_false, decide_not, eq_self, Classical.not_not, List.getElem?_cons_zero, List.getElem?_cons_succ, beq_self_eq_true, bne_self_eq_false]

namespace seriesSteps
theorem own : ownKnob Try.prog.godebug = none := by kernel_rfl
theorem laidOut : laidOutB Try.prog = true := by kernel_rfl
set_option maxRecDepth 100000 in
theorem lifted (os : Os) (started : os.Started) (H : Type) (enc : TypeId × Value → H) :
    ReturnsInHanded {} Try.checked os 7 .any (Rows.seriesStepsSpec.pre6 enc Try.prog Try.f7 Rows.seriesStepsRow.domain false) (Rows.seriesStepsSpec.post enc Try.prog Try.f7 false true false false) := by
  refine returnsInHanded_of_change (C := Try.checked) own started (by kernel_rfl) Try.func7
    (ChangeSpec.witness6 (enc := enc) (C := Try.checked) false ⟨#[], #[.slice none 0 0, .int .i64 0], []⟩ 8 (by kernel_rfl) (by kernel_rfl) (by kernel_rfl) (by kernel_rfl)) ?_
  intro W base args ds gs before hval0 hW hcnd _
  have hval : ∀ (j : Nat) t v, Try.f7.params[j]? = some t → args[j]? = some v → Value.okWide Try.prog W .any base t v := hval0
  have hW' := hW
  obtain ⟨p, q, hA0, hV, rfl, hfz, hnd⟩ := hW
  have hA : DataW.TrodAll enc Try.prog W 0 (fun _ => true) true Try.f7.params.toList args.toList ds p := hA0
  rw [Try.params7] at hA hval
  obtain ⟨v0, vs0, d0, ds0, p0, q0, hargs, rfl, rfl, h0, r0⟩ := trodAll_cons hA
  obtain ⟨v1, vs1, d1, ds1, p1, q1, rfl, rfl, rfl, h1, r1⟩ := trodAll_cons r0
  obtain ⟨rfl, rfl, rfl⟩ := trodAll_nil r1
  obtain rfl : args = #[v0, v1] := by cases args; simp_all
  obtain ⟨rfl, rfl⟩ := trodVars_none hV
  have k0 := h0
  have lt0 : ∀ x ∈ p0, x.block < W.heap.size := by obtain ⟨m, hm⟩ := k0; exact DataW.trod_lt m _ _ _ hm
  have ok0 := hval 0 34 v0 rfl rfl
  have k1 := h1
  have lt1 : ∀ x ∈ p1, x.block < W.heap.size := by obtain ⟨m, hm⟩ := k1; exact DataW.trod_lt m _ _ _ hm
  have ok1 := hval 1 3 v1 rfl rfl
  obtain ⟨xs, _, _, g0⟩ := open_ints (k := .i64) Try.underlying34 (by kernel_rfl) (by kernel_rfl) ok0 h0
  obtain ⟨y1, ⟨n, rfl, _⟩, g1⟩ := open_a (k := .int .i64) (by kernel_rfl) ok1 h1
  clear hA0 hval0
  refine (law_call k_simulatorlaw46_SeriesSteps (Try.call7 _ _) (vs := [v0, v1]) (args2 g0 g1) (steps_F xs n) rfl).mono fun e W' ⟨he, bel⟩ => ?_
  subst he
  exact ⟨_, rfl, _, _, _, [], _, [], hW', trodAll_mk1 (shut_bool Try.underlying4 _), (trodAll_cons_mk (Below.trod laidOut (by kernel_rfl) (of_decide_eq_true (by kernel_rfl)) k0 bel lt0) (trodAll_cons_mk (Below.trod laidOut (by kernel_rfl) (of_decide_eq_true (by kernel_rfl)) k1 bel lt1) trodAll_mk0)), rfl, bel.frame _, fun h => by cases h⟩
theorem over : Rows.seriesStepsRow.holds Try.pinned (OpenSpec.ofChange Rows.seriesStepsSpec) :=
  OpenClaim.holds_of_wide 7 Try.f7 rfl rfl rfl rfl rfl rfl rfl ⟨rfl, rfl, rfl, rfl, rfl⟩ rfl rfl rfl rfl rfl (by kernel_rfl) Try.func7 (by kernel_rfl)
    (of_decide_eq_true (by kernel_rfl)) (by unfold Func.isWrapper; first | (rw [if_pos (by decide +kernel)]; kernel_rfl) | (rw [if_neg (by decide +kernel)]; exact ⟨rfl, rfl⟩))
    (fun os started H enc _ => lifted os started H enc)
theorem proved : Rows.SeriesStepsSaid := over
end seriesSteps

end Go.Proofs.Ytfaghnapfkpdhaa
