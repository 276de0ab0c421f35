/-
  TallyMeans: the mean lies between the least and the greatest observation, and the variance is not negative, and 0 exactly if all are equal. No condition.
-/
import Derived.Test.YtahchcpimanjfaaRows
import Derived.Test.YtahchcpimanjfaaOpnR
import Derived.Test.YtahchcpimanjfaaA27
import Derived.Test.YtahchcpimanjfaaM27g
namespace Go.Proofs.Ytahchcpimanjfaa
open Go.ChangeShapes Go.WideShapes Go.ChangeAt Go.RowKit
set_option linter.unusedSimpArgs false

theorem means_F (xs : List Int) : k_simulatorlaw27_TallyMeans.F [.l (xs.map Sc.i)] = some [.b true] := by
  simp only [k_simulatorlaw27_TallyMeans_F, tk_simulatorlaw27_TallyMeans, k_tally_Of_f, k_tally_Mean_f, k_tally_Variance_f, k_frac_Cmp_f, k_simulatorlaw27_awake_f, awake27, Go.Proofs.Ytahchcpimanjfaa.T.den, Ex.ev, U1.ev, U2.ev, U3.ev, gam, List.map, List.getD_cons_zero, List.getD_cons_succ, List.length, List.cons_append, List.nil_append, if_true, Sc.int_i, Sc.bool_b, Sc.list_l, Sc.str_s, Nat.reduceEqDiff, if_false, List.getElem?_cons_zero, List.getElem?_cons_succ]
  by_cases l1 : (200 : Int) < xs.length
  · simp only [l1, List.length_map, bne_iff_ne, beq_iff_eq, ne_eq, decide_eq_true_eq, Bool.and_eq_true, Bool.or_eq_true, Bool.not_eq_true', decide_eq_false_iff_not, beq_eq_false_iff_ne, bne_eq_false_iff_eq, not_true_eq_false, not_false_eq_true, if_true, if_false, reduceIte, and_true, true_and, and_false, false_and, or_false, false_or, or_true, true_or, List.getD_cons_zero, List.getD_cons_succ, List.length_cons, List.length_nil, List.cons_append, List.nil_append, Nat.reduceAdd, Nat.reduceEqDiff, reduceCtorEq, Bool.not_true, Bool.not_false, Bool.true_and, Bool.and_true, Bool.false_and, Bool.and_false, Bool.or_true, Bool.true_or, Bool.or_false, Bool.false_or, Bool.false_eq_true, Bool.true_eq_false, Sc.int_i, Sc.bool_b, Sc.list_l, Sc.str_s, Int.reduceEq, Int.reduceLT, Int.reduceLE, Int.reduceNe, decide_true, decide_false, decide_not, eq_self, Classical.not_not, List.getElem?_cons_zero, List.getElem?_cons_succ, beq_self_eq_true, bne_self_eq_false]
  have o1 := of_F xs (by omega)
  have zm : k_tally_Mean.F [.i 0, .i 0, .i 0, .i 0, .i 0] = some noQ := by
    rw [mean_F]; unfold meanL; rw [if_neg (fun h => h.2 rfl)]
  have zv : k_tally_Variance.F [.i 0, .i 0, .i 0, .i 0, .i 0] = some noQ := by
    rw [variance_F]; unfold varL; rw [if_neg (fun h => by have := h.2; omega)]
  unfold noQ at zm zv
  by_cases hall : xs.all valB = true
  · obtain ⟨g1, g2, g3⟩ := ofR_good xs Tl.zero rfl hall (by simp [Tl.zero]; omega)
    cases xs with
    | nil =>
      simp only [ofR, Tl.l, Tl.zero, List.cons_append, List.nil_append] at o1
      rw [List.map_nil] at o1
      simp only [o1, zm, zv, List.map, Int.natCast_zero, Int.lt_irrefl, bne_iff_ne, beq_iff_eq, ne_eq, decide_eq_true_eq, Bool.and_eq_true, Bool.or_eq_true, Bool.not_eq_true', decide_eq_false_iff_not, beq_eq_false_iff_ne, bne_eq_false_iff_eq, not_true_eq_false, not_false_eq_true, if_true, if_false, reduceIte, and_true, true_and, and_false, false_and, or_false, false_or, or_true, true_or, List.getD_cons_zero, List.getD_cons_succ, List.length_cons, List.length_nil, List.cons_append, List.nil_append, Nat.reduceAdd, Nat.reduceEqDiff, reduceCtorEq, Bool.not_true, Bool.not_false, Bool.true_and, Bool.and_true, Bool.false_and, Bool.and_false, Bool.or_true, Bool.true_or, Bool.or_false, Bool.false_or, Bool.false_eq_true, Bool.true_eq_false, Sc.int_i, Sc.bool_b, Sc.list_l, Sc.str_s, Int.reduceEq, Int.reduceLT, Int.reduceLE, Int.reduceNe, decide_true, decide_false, decide_not, eq_self, Classical.not_not, List.getElem?_cons_zero, List.getElem?_cons_succ, beq_self_eq_true, bne_self_eq_false]
    | cons x ys =>
      obtain ⟨z1, z2, z3, _, z5⟩ := puts_spec (x :: ys) Tl.zero (by simp [Tl.zero]) (fun _ => ⟨rfl, rfl⟩)
      rw [g1] at o1
      generalize puts Tl.zero (x :: ys) = t at *
      obtain ⟨N, S, Q, lo, hi⟩ := t
      simp only [Tl.zero, Int.zero_add] at z1 z2 z3
      have hN : 1 ≤ N := by rw [z1]; simp; omega
      have hc : chk N S Q lo hi = 0 := g2
      have ok := chk_okay hc (by omega)
      have hv := ok.sl
      have hw := ok.sh
      have hl0 := ok.l0
      have hh1 := ok.h1
      have hlh := ok.lh
      obtain ⟨n0, n1, s0, s1, q0, q1, nq, nq0, ss, ss0, nn, nn0⟩ := okay_bnd ok
      have hmean := mean_F N S Q lo hi
      rw [meanL, if_pos ⟨hc, by omega⟩, ofQ_fit (by omega) (by unfold maxN; omega) (by unfold maxD; omega)] at hmean
      have hvar := variance_F N S Q lo hi
      have fm : fitQ (Rat.divInt S N) = true := fit_small (by omega) (by unfold maxN; omega) (by unfold maxD; omega)
      obtain ⟨f1, f2, f3, f4⟩ := fit_bounds fm
      have c1 := cmp_F lo 1 (Rat.divInt S N).num (Rat.divInt S N).den ⟨by omega, by omega⟩ ⟨by omega, by omega⟩ ⟨by omega, by omega⟩ ⟨by omega, by omega⟩
      have c2 := cmp_F (Rat.divInt S N).num (Rat.divInt S N).den hi 1 ⟨by omega, by omega⟩ ⟨by omega, by omega⟩ ⟨by omega, by omega⟩ ⟨by omega, by omega⟩
      rw [usual_ok fm, usual_int (by unfold maxN; omega)] at c1 c2
      have d1 : cmpQ (lo : Rat) (Rat.divInt S N) ≤ 0 := by
        rw [cmpQ_le, le_divInt (by omega), Int.mul_comm]; exact hv
      have d2 : cmpQ (Rat.divInt S N) (hi : Rat) ≤ 0 := by
        rw [cmpQ_le, divInt_le (by omega), Int.mul_comm]; exact hw
      have d1 : ¬ 0 < cmpQ (lo : Rat) (Rat.divInt S N) := by omega
      have d2 : ¬ 0 < cmpQ (Rat.divInt S N) (hi : Rat) := by omega
      have vn : N * Q - S * S = varN (x :: ys) := by unfold varN; rw [z1, z2, z3]
      have v0 := varN_nonneg (x :: ys)
      have hlen : ((List.map Sc.i (x :: ys)).length : Int) = N := by rw [List.length_map, z1]
      have hl2 : ¬ N = 0 := by omega
      have l1' : ¬ 200 < N := by omega
      obtain ⟨a, b, c, hform⟩ := varL_form N S Q lo hi
      have hfin : c = decide (1 < N) ∧ (c = true → 0 ≤ a ∧ ((a = 0) ↔ (x :: ys).all (fun y => y == x) = true)) := by
        unfold varL at hform
        by_cases h2 : 2 ≤ N
        · have d0 : 0 < N * (N - 1) := Int.mul_pos (by omega) (by omega)
          rw [if_pos ⟨hc, h2⟩, ofQ_fit (by omega) (by unfold maxN; omega) (by unfold maxD; omega), vn] at hform
          simp only [List.cons.injEq, Sc.i.injEq, Sc.b.injEq, and_true] at hform
          obtain ⟨e1, e2, e3⟩ := hform
          refine ⟨by rw [← e3]; simp; omega, fun _ => ?_⟩
          rw [← e1]
          refine ⟨divInt_num_nonneg d0 v0, ?_⟩
          rw [divInt_num_zero (by omega), varN_zero]
          simp
        · rw [if_neg (fun h => h2 h.2)] at hform
          simp only [noQ, List.cons.injEq, Sc.i.injEq, Sc.b.injEq, and_true] at hform
          obtain ⟨e1, e2, e3⟩ := hform
          refine ⟨by rw [← e3]; simp; omega, fun h => ?_⟩
          rw [← e3] at h; cases h
      rw [hform] at hvar
      obtain ⟨h5, h6⟩ := hfin
      have hbe : (!(c == decide (1 < N))) = false := by rw [h5]; simp
      simp only [Tl.l, List.cons_append, List.nil_append] at o1
      have hix : ∀ (k : Nat) (h : k < (x :: ys).length), (List.map Sc.i (x :: ys)).getD (k : Int).toNat (.i 0) = .i ((x :: ys)[k]) := fun k h => by
        rw [Int.toNat_natCast, List.getD_eq_getElem?_getD, List.getElem?_map, List.getElem?_eq_getElem h]; rfl
      have hidx0 : (List.map Sc.i (x :: ys)).getD (0 : Int).toNat (.i 0) = .i x := rfl
      clear g1 z5
      generalize List.map Sc.i (x :: ys) = L at *
      simp only [hlen, o1, l1', hmean, hvar, hl2, c1, c2, d1, d2, hbe, bne_iff_ne, beq_iff_eq, ne_eq, decide_eq_true_eq, Bool.and_eq_true, Bool.or_eq_true, Bool.not_eq_true', decide_eq_false_iff_not, beq_eq_false_iff_ne, bne_eq_false_iff_eq, not_true_eq_false, not_false_eq_true, if_true, if_false, reduceIte, and_true, true_and, and_false, false_and, or_false, false_or, or_true, true_or, List.getD_cons_zero, List.getD_cons_succ, List.length_cons, List.length_nil, List.cons_append, List.nil_append, Nat.reduceAdd, Nat.reduceEqDiff, reduceCtorEq, Bool.not_true, Bool.not_false, Bool.true_and, Bool.and_true, Bool.false_and, Bool.and_false, Bool.or_true, Bool.true_or, Bool.or_false, Bool.false_or, Bool.false_eq_true, Bool.true_eq_false, Sc.int_i, Sc.bool_b, Sc.list_l, Sc.str_s, Int.reduceEq, Int.reduceLT, Int.reduceLE, Int.reduceNe, decide_true, decide_false, decide_not, eq_self, Classical.not_not, List.getElem?_cons_zero, List.getElem?_cons_succ, beq_self_eq_true, bne_self_eq_false]
      refine loop_rounds (S := Nat) (fun k => [.b (((x :: ys).take k).all (fun y => y == x)), .i k]) (fun _ => some [.b true]) (fun k => k ≤ (x :: ys).length) (fun k => (x :: ys).length - k) ?_ 0 (by omega) (by omega)
      intro k rec hk hrec
      have hNl : N = ((x :: ys).length : Nat) := z1
      by_cases hkn : (k : Int) < N
      · have hr := hrec (k + 1) (by omega) (by omega)
        have hw : IntKind.i64.wrap ((k : Int) + 1) = ((k + 1 : Nat) : Int) := by rw [wr64 (by omega) (by omega)]; omega
        have hk2 : k < (x :: ys).length := by omega
        have hidx := hix k hk2
        have htk : ((x :: ys).take (k + 1)).all (fun y => y == x) = (((x :: ys).take k).all (fun y => y == x) && ((x :: ys)[k] == x)) := all_take_succ _ _ k hk2
        rw [htk] at hr
        have k0 : (0 : Int) ≤ k := by omega
        have n0' : (0 : Int) < N := by omega
        generalize ((x :: ys)[k]) = y at *
        cases hb : ((x :: ys).take k).all (fun y => y == x)
        · rw [hb] at hr
          simp only [Bool.false_and] at hr
          simp only [hkn, k0, hlen, hw, hr, bne_iff_ne, beq_iff_eq, ne_eq, decide_eq_true_eq, Bool.and_eq_true, Bool.or_eq_true, Bool.not_eq_true', decide_eq_false_iff_not, beq_eq_false_iff_ne, bne_eq_false_iff_eq, not_true_eq_false, not_false_eq_true, if_true, if_false, reduceIte, and_true, true_and, and_false, false_and, or_false, false_or, or_true, true_or, List.getD_cons_zero, List.getD_cons_succ, List.length_cons, List.length_nil, List.cons_append, List.nil_append, Nat.reduceAdd, Nat.reduceEqDiff, reduceCtorEq, Bool.not_true, Bool.not_false, Bool.true_and, Bool.and_true, Bool.false_and, Bool.and_false, Bool.or_true, Bool.true_or, Bool.or_false, Bool.false_or, Bool.false_eq_true, Bool.true_eq_false, Sc.int_i, Sc.bool_b, Sc.list_l, Sc.str_s, Int.reduceEq, Int.reduceLT, Int.reduceLE, Int.reduceNe, decide_true, decide_false, decide_not, eq_self, Classical.not_not, List.getElem?_cons_zero, List.getElem?_cons_succ, beq_self_eq_true, bne_self_eq_false]
        · rw [hb] at hr
          simp only [Bool.true_and] at hr
          simp only [hkn, k0, hlen, n0', hidx, hidx0, hw, hr, bne_iff_ne, beq_iff_eq, ne_eq, decide_eq_true_eq, Bool.and_eq_true, Bool.or_eq_true, Bool.not_eq_true', decide_eq_false_iff_not, beq_eq_false_iff_ne, bne_eq_false_iff_eq, not_true_eq_false, not_false_eq_true, if_true, if_false, reduceIte, and_true, true_and, and_false, false_and, or_false, false_or, or_true, true_or, List.getD_cons_zero, List.getD_cons_succ, List.length_cons, List.length_nil, List.cons_append, List.nil_append, Nat.reduceAdd, Nat.reduceEqDiff, reduceCtorEq, Bool.not_true, Bool.not_false, Bool.true_and, Bool.and_true, Bool.false_and, Bool.and_false, Bool.or_true, Bool.true_or, Bool.or_false, Bool.false_or, Bool.false_eq_true, Bool.true_eq_false, Sc.int_i, Sc.bool_b, Sc.list_l, Sc.str_s, Int.reduceEq, Int.reduceLT, Int.reduceLE, Int.reduceNe, decide_true, decide_false, decide_not, eq_self, Classical.not_not, List.getElem?_cons_zero, List.getElem?_cons_succ, beq_self_eq_true, bne_self_eq_false]
      · have hke : k = (x :: ys).length := by omega
        have htl : (x :: ys).take k = x :: ys := by rw [hke, List.take_length]
        rw [htl]
        cases hcc : c
        · simp only [hkn, hlen, bne_iff_ne, beq_iff_eq, ne_eq, decide_eq_true_eq, Bool.and_eq_true, Bool.or_eq_true, Bool.not_eq_true', decide_eq_false_iff_not, beq_eq_false_iff_ne, bne_eq_false_iff_eq, not_true_eq_false, not_false_eq_true, if_true, if_false, reduceIte, and_true, true_and, and_false, false_and, or_false, false_or, or_true, true_or, List.getD_cons_zero, List.getD_cons_succ, List.length_cons, List.length_nil, List.cons_append, List.nil_append, Nat.reduceAdd, Nat.reduceEqDiff, reduceCtorEq, Bool.not_true, Bool.not_false, Bool.true_and, Bool.and_true, Bool.false_and, Bool.and_false, Bool.or_true, Bool.true_or, Bool.or_false, Bool.false_or, Bool.false_eq_true, Bool.true_eq_false, Sc.int_i, Sc.bool_b, Sc.list_l, Sc.str_s, Int.reduceEq, Int.reduceLT, Int.reduceLE, Int.reduceNe, decide_true, decide_false, decide_not, eq_self, Classical.not_not, List.getElem?_cons_zero, List.getElem?_cons_succ, beq_self_eq_true, bne_self_eq_false]
        · obtain ⟨a0, a1⟩ := h6 hcc
          have a2 : ((a == 0) == (x :: ys).all (fun y => y == x)) = true := by
            cases hb : (x :: ys).all (fun y => y == x)
            · rw [hb] at a1; simp at a1; simp [a1]
            · rw [hb] at a1; simp at a1; simp [a1]
          simp only [hkn, hlen, a0, eq_of_beq a2, bne_iff_ne, beq_iff_eq, ne_eq, decide_eq_true_eq, Bool.and_eq_true, Bool.or_eq_true, Bool.not_eq_true', decide_eq_false_iff_not, beq_eq_false_iff_ne, bne_eq_false_iff_eq, not_true_eq_false, not_false_eq_true, if_true, if_false, reduceIte, and_true, true_and, and_false, false_and, or_false, false_or, or_true, true_or, List.getD_cons_zero, List.getD_cons_succ, List.length_cons, List.length_nil, List.cons_append, List.nil_append, Nat.reduceAdd, Nat.reduceEqDiff, reduceCtorEq, Bool.not_true, Bool.not_false, Bool.true_and, Bool.and_true, Bool.false_and, Bool.and_false, Bool.or_true, Bool.true_or, Bool.or_false, Bool.false_or, Bool.false_eq_true, Bool.true_eq_false, Sc.int_i, Sc.bool_b, Sc.list_l, Sc.str_s, Int.reduceEq, Int.reduceLT, Int.reduceLE, Int.reduceNe, decide_true, decide_false, decide_not, eq_self, Classical.not_not, List.getElem?_cons_zero, List.getElem?_cons_succ, beq_self_eq_true, bne_self_eq_false]
  · obtain ⟨e, e1, e2, _⟩ := ofR_bad xs Tl.zero rfl (fun h => hall h.1)
    rw [e2] at o1
    unfold errL at o1
    have l2 : ¬ (200 : Int) < (List.map Sc.i xs).length := by rw [List.length_map]; exact l1
    simp only [l2, o1, e1, zm, zv, bne_iff_ne, beq_iff_eq, ne_eq, decide_eq_true_eq, Bool.and_eq_true, Bool.or_eq_true, Bool.not_eq_true', decide_eq_false_iff_not, beq_eq_false_iff_ne, bne_eq_false_iff_eq, not_true_eq_false, not_false_eq_true, if_true, if_false, reduceIte, and_true, true_and, and_false, false_and, or_false, false_or, or_true, true_or, List.getD_cons_zero, List.getD_cons_succ, List.length_cons, List.length_nil, List.cons_append, List.nil_append, Nat.reduceAdd, Nat.reduceEqDiff, reduceCtorEq, Bool.not_true, Bool.not_false, Bool.true_and, Bool.and_true, Bool.false_and, Bool.and_false, Bool.or_true, Bool.true_or, Bool.or_false, Bool.false_or, Bool.false_eq_true, Bool.true_eq_false, Sc.int_i, Sc.bool_b, Sc.list_l, Sc.str_s, Int.reduceEq, Int.reduceLT, Int.reduceLE, Int.reduceNe, decide_true, decide_false, decide_not, eq_self, Classical.not_not, List.getElem?_cons_zero, List.getElem?_cons_succ, beq_self_eq_true, bne_self_eq_false]

namespace tallyMeans
theorem own : ownKnob Try.prog.godebug = none := by kernel_rfl
theorem laidOut : laidOutB Try.prog = true := by kernel_rfl
set_option maxRecDepth 100000 in
theorem lifted (os : Os) (started : os.Started) (H : Type) (enc : TypeId × Value → H) :
    ReturnsInHanded {} Try.checked os 8 .any (Rows.tallyMeansSpec.pre6 enc Try.prog Try.f8 Rows.tallyMeansRow.domain false) (Rows.tallyMeansSpec.post enc Try.prog Try.f8 false true false false) := by
  refine returnsInHanded_of_change (C := Try.checked) own started (by kernel_rfl) Try.func8
    (ChangeSpec.witness6 (enc := enc) (C := Try.checked) false ⟨#[], #[.slice none 0 0], []⟩ 8 (by kernel_rfl) (by kernel_rfl) (by kernel_rfl) (by kernel_rfl)) ?_
  intro W base args ds gs before hval0 hW hcnd _
  have hval : ∀ (j : Nat) t v, Try.f8.params[j]? = some t → args[j]? = some v → Value.okWide Try.prog W .any base t v := hval0
  have hW' := hW
  obtain ⟨p, q, hA0, hV, rfl, hfz, hnd⟩ := hW
  have hA : DataW.TrodAll enc Try.prog W 0 (fun _ => true) true Try.f8.params.toList args.toList ds p := hA0
  rw [Try.params8] at hA hval
  obtain ⟨v0, vs0, d0, ds0, p0, q0, hargs, rfl, rfl, h0, r0⟩ := trodAll_cons hA
  obtain ⟨rfl, rfl, rfl⟩ := trodAll_nil r0
  obtain rfl : args = #[v0] := by cases args; simp_all
  obtain ⟨rfl, rfl⟩ := trodVars_none hV
  have k0 := h0
  have lt0 : ∀ x ∈ p0, x.block < W.heap.size := by obtain ⟨m, hm⟩ := k0; exact DataW.trod_lt m _ _ _ hm
  have ok0 := hval 0 36 v0 rfl rfl
  obtain ⟨xs, _, _, g0⟩ := open_ints (k := .i64) Try.underlying36 (by kernel_rfl) (by kernel_rfl) ok0 h0
  clear hA0 hval0
  refine (law_call k_simulatorlaw27_TallyMeans (Try.call8 _ _) (vs := [v0]) (args1 g0) (means_F xs) rfl).mono fun e W' ⟨he, bel⟩ => ?_
  subst he
  exact ⟨_, rfl, _, _, _, [], _, [], hW', trodAll_mk1 (shut_bool Try.underlying4 _), (trodAll_cons_mk (Below.trod laidOut (by kernel_rfl) (of_decide_eq_true (by kernel_rfl)) k0 bel lt0) trodAll_mk0), rfl, bel.frame _, fun h => by cases h⟩
theorem over : Rows.tallyMeansRow.holds Try.pinned (OpenSpec.ofChange Rows.tallyMeansSpec) :=
  OpenClaim.holds_of_wide 8 Try.f8 rfl rfl rfl rfl rfl rfl rfl ⟨rfl, rfl, rfl, rfl, rfl⟩ rfl rfl rfl rfl rfl (by kernel_rfl) Try.func8 (by kernel_rfl)
    (of_decide_eq_true (by kernel_rfl)) (by unfold Func.isWrapper; first | (rw [if_pos (by decide +kernel)]; kernel_rfl) | (rw [if_neg (by decide +kernel)]; exact ⟨rfl, rfl⟩))
    (fun os started H enc _ => lifted os started H enc)
theorem proved : Rows.TallyMeansSaid := over
end tallyMeans

end Go.Proofs.Ytahchcpimanjfaa
