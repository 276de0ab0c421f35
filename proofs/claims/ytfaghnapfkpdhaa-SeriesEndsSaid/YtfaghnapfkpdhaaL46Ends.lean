/-
  SeriesEnds: with n = 1 the means are the values; if n is the number of values there is one, which is the mean of the tally. No condition.
-/
import Derived.Test.YtfaghnapfkpdhaaRows
import Derived.Test.YtfaghnapfkpdhaaOpnR
import Derived.Test.YtfaghnapfkpdhaaA46
import Derived.Test.YtfaghnapfkpdhaaM46b
import Derived.Test.YtfaghnapfkpdhaaM27g
namespace Go.Proofs.Ytfaghnapfkpdhaa
open Go.ChangeShapes Go.WideShapes Go.ChangeAt Go.RowKit
set_option linter.unusedSimpArgs false

theorem divInt_one (n : Int) : (Rat.divInt n 1).num = n ∧ (Rat.divInt n 1).den = 1 := by
  have e : Rat.divInt n 1 = (n : Rat) := Rat.num_divInt_den (n : Rat)
  rw [e]; exact ⟨rfl, rfl⟩
theorem ends_F (xs : List Int) (hxs : xs.length ≤ 9223372036854775807) : k_simulatorlaw46_SeriesEnds.F [.l (xs.map .i)] = some [.b true] := by
  have o1 := of_F xs hxs
  have m1 := moving_F xs 1
  have m2 := moving_F xs xs.length
  simp only [k_simulatorlaw46_SeriesEnds_F, tk_simulatorlaw46_SeriesEnds, k_tally_Of_f, k_series_Moving_f, k_tally_Mean_f, k_simulatorlaw46_awake_f, awake46, List.length_map, Go.Proofs.Ytfaghnapfkpdhaa.T.den, Ex.ev, U1.ev, U2.ev, U3.ev, gam, List.map, List.getD_cons_zero, List.getD_cons_succ, List.length, List.cons_append, List.nil_append, if_true, Sc.int_i, Sc.bool_b, Sc.list_l, Sc.str_s, Nat.reduceEqDiff, if_false, List.getElem?_cons_zero, List.getElem?_cons_succ]
  by_cases hgood : xs.all valB = true ∧ Tl.zero.n + xs.length ≤ 2000
  · obtain ⟨hall, hn⟩ := hgood
    obtain ⟨g1, g2, g3⟩ := ofR_good xs Tl.zero rfl hall hn
    obtain ⟨z1, z2, z3, _, z5⟩ := puts_spec xs Tl.zero (by simp [Tl.zero]) (fun _ => ⟨rfl, rfl⟩)
    rw [g1] at o1
    generalize puts Tl.zero xs = t at *
    obtain ⟨N, S, Q, lo, hi⟩ := t
    simp only [Tl.zero, Int.zero_add] at z1 z2 z3
    simp only [Tl.l, List.cons_append, List.nil_append] at o1
    subst z1
    by_cases h1 : (xs.length : Int) < 1
    · simp only [o1, h1, Int.natCast_nonneg, bne_iff_ne, beq_iff_eq, ne_eq, decide_eq_true_eq, Bool.and_eq_true, Bool.or_eq_true, Bool.not_eq_true', decide_eq_false_iff_not, beq_eq_false_iff_ne, bne_eq_false_iff_eq, not_true_eq_false, not_false_eq_true, if_true, if_false, reduceIte, and_true, true_and, and_false, false_and, or_false, false_or, or_true, true_or, List.getD_cons_zero, List.getD_cons_succ, List.length_cons, List.length_nil, List.cons_append, List.nil_append, Nat.reduceAdd, Nat.reduceEqDiff, reduceCtorEq, Bool.not_true, Bool.not_false, Bool.true_and, Bool.and_true, Bool.false_and, Bool.and_false, Bool.or_true, Bool.true_or, Bool.or_false, Bool.false_or, Bool.false_eq_true, Bool.true_eq_false, Sc.int_i, Sc.bool_b, Sc.list_l, Sc.str_s, Int.reduceEq, Int.reduceLT, Int.reduceLE, Int.reduceNe, decide_true, decide_false, decide_not, eq_self, Classical.not_not, List.getElem?_cons_zero, List.getElem?_cons_succ, beq_self_eq_true, bne_self_eq_false]
    by_cases h2 : (100 : Int) < xs.length
    · simp only [o1, h1, h2, Int.natCast_nonneg, bne_iff_ne, beq_iff_eq, ne_eq, decide_eq_true_eq, Bool.and_eq_true, Bool.or_eq_true, Bool.not_eq_true', decide_eq_false_iff_not, beq_eq_false_iff_ne, bne_eq_false_iff_eq, not_true_eq_false, not_false_eq_true, if_true, if_false, reduceIte, and_true, true_and, and_false, false_and, or_false, false_or, or_true, true_or, List.getD_cons_zero, List.getD_cons_succ, List.length_cons, List.length_nil, List.cons_append, List.nil_append, Nat.reduceAdd, Nat.reduceEqDiff, reduceCtorEq, Bool.not_true, Bool.not_false, Bool.true_and, Bool.and_true, Bool.false_and, Bool.and_false, Bool.or_true, Bool.true_or, Bool.or_false, Bool.false_or, Bool.false_eq_true, Bool.true_eq_false, Sc.int_i, Sc.bool_b, Sc.list_l, Sc.str_s, Int.reduceEq, Int.reduceLT, Int.reduceLE, Int.reduceNe, decide_true, decide_false, decide_not, eq_self, Classical.not_not, List.getElem?_cons_zero, List.getElem?_cons_succ, beq_self_eq_true, bne_self_eq_false]
    have hc : chk xs.length S Q lo hi = 0 := g2
    have hmean := mean_F xs.length S Q lo hi
    have hb := pre_bound (k := xs.length) (take_all hall _) (by omega) (Nat.le_refl _)
    have hpre : pre xs xs.length = S := by unfold pre; rw [List.take_length, z2]
    have hpre0 : pre xs 0 = 0 := by simp [pre, sumI]
    rw [hpre] at hb
    rw [meanL, if_pos ⟨hc, by omega⟩, ofQ_fit (by omega) (by unfold maxN; omega) (by unfold maxD; omega)] at hmean
    rw [mvR, if_neg (by omega), if_neg (by omega), if_pos hall] at m1 m2
    have e1 : xs.length + 1 - (1 : Int).toNat = xs.length := by simp
    have e2 : xs.length + 1 - ((xs.length : Int)).toNat = 1 := by rw [Int.toNat_natCast]; omega
    rw [e1] at m1
    rw [e2, mvL_succ, show mvL xs ((xs.length : Int)).toNat 0 = [] from rfl, List.nil_append] at m2
    unfold mvF at m2
    rw [Int.toNat_natCast, Nat.zero_add, hpre, hpre0, Int.sub_zero] at m2
    have ll := mvL_len xs (1 : Int).toNat xs.length
    have c1 : ((1 : Nat) : Int) = 1 := rfl
    have hp0 : (0 : Int) < 1 := by omega
    simp only [o1, h1, h2, m1, m2, hmean, ll, c1, hp0, Int.toNat_zero, Bool.and_self, Int.natCast_nonneg, bne_iff_ne, beq_iff_eq, ne_eq, decide_eq_true_eq, Bool.and_eq_true, Bool.or_eq_true, Bool.not_eq_true', decide_eq_false_iff_not, beq_eq_false_iff_ne, bne_eq_false_iff_eq, not_true_eq_false, not_false_eq_true, if_true, if_false, reduceIte, and_true, true_and, and_false, false_and, or_false, false_or, or_true, true_or, List.getD_cons_zero, List.getD_cons_succ, List.length_cons, List.length_nil, List.cons_append, List.nil_append, Nat.reduceAdd, Nat.reduceEqDiff, reduceCtorEq, Bool.not_true, Bool.not_false, Bool.true_and, Bool.and_true, Bool.false_and, Bool.and_false, Bool.or_true, Bool.true_or, Bool.or_false, Bool.false_or, Bool.false_eq_true, Bool.true_eq_false, Sc.int_i, Sc.bool_b, Sc.list_l, Sc.str_s, Int.reduceEq, Int.reduceLT, Int.reduceLE, Int.reduceNe, decide_true, decide_false, decide_not, eq_self, Classical.not_not, List.getElem?_cons_zero, List.getElem?_cons_succ, beq_self_eq_true, bne_self_eq_false]
    refine loop_rounds (S := Nat) (fun k => [.i k]) (fun _ => some [.b true]) (fun k => k ≤ xs.length) (fun k => xs.length - k) ?_ 0 (by omega) (by omega)
    intro k rec hk hrec
    by_cases h : k < xs.length
    · have hr := hrec (k + 1) (by omega) (by omega)
      have hkl : (k : Int) < xs.length := by omega
      have hw := succ_w (n := xs.length) h (by omega)
      have hi := idx_map Sc.i xs k h
      have hi2 := idx_map (mvF xs (1 : Int).toNat) (List.range xs.length) k (by simpa using h)
      rw [List.getElem_range] at hi2
      have e3 : (1 : Int).toNat = 1 := rfl
      unfold mvL at ⊢
      unfold mvF at hi2 ⊢
      obtain ⟨d1, d2⟩ := divInt_one xs[k]
      have e4 : pre xs (k + 1) - pre xs k = xs[k] := by rw [pre_succ h]; omega
      rw [e3, e4, c1, d1, d2] at hi2
      simp only [e3, hkl, hi, hi2, hw, hr, c1, Int.natCast_nonneg, bne_iff_ne, beq_iff_eq, ne_eq, decide_eq_true_eq, Bool.and_eq_true, Bool.or_eq_true, Bool.not_eq_true', decide_eq_false_iff_not, beq_eq_false_iff_ne, bne_eq_false_iff_eq, not_true_eq_false, not_false_eq_true, if_true, if_false, reduceIte, and_true, true_and, and_false, false_and, or_false, false_or, or_true, true_or, List.getD_cons_zero, List.getD_cons_succ, List.length_cons, List.length_nil, List.cons_append, List.nil_append, Nat.reduceAdd, Nat.reduceEqDiff, reduceCtorEq, Bool.not_true, Bool.not_false, Bool.true_and, Bool.and_true, Bool.false_and, Bool.and_false, Bool.or_true, Bool.true_or, Bool.or_false, Bool.false_or, Bool.false_eq_true, Bool.true_eq_false, Sc.int_i, Sc.bool_b, Sc.list_l, Sc.str_s, Int.reduceEq, Int.reduceLT, Int.reduceLE, Int.reduceNe, decide_true, decide_false, decide_not, eq_self, Classical.not_not, List.getElem?_cons_zero, List.getElem?_cons_succ, beq_self_eq_true, bne_self_eq_false]
    · have hkl : ¬ (k : Int) < xs.length := by omega
      simp only [hkl, Int.natCast_nonneg, bne_iff_ne, beq_iff_eq, ne_eq, decide_eq_true_eq, Bool.and_eq_true, Bool.or_eq_true, Bool.not_eq_true', decide_eq_false_iff_not, beq_eq_false_iff_ne, bne_eq_false_iff_eq, not_true_eq_false, not_false_eq_true, if_true, if_false, reduceIte, and_true, true_and, and_false, false_and, or_false, false_or, or_true, true_or, List.getD_cons_zero, List.getD_cons_succ, List.length_cons, List.length_nil, List.cons_append, List.nil_append, Nat.reduceAdd, Nat.reduceEqDiff, reduceCtorEq, Bool.not_true, Bool.not_false, Bool.true_and, Bool.and_true, Bool.false_and, Bool.and_false, Bool.or_true, Bool.true_or, Bool.or_false, Bool.false_or, Bool.false_eq_true, Bool.true_eq_false, Sc.int_i, Sc.bool_b, Sc.list_l, Sc.str_s, Int.reduceEq, Int.reduceLT, Int.reduceLE, Int.reduceNe, decide_true, decide_false, decide_not, eq_self, Classical.not_not, List.getElem?_cons_zero, List.getElem?_cons_succ, beq_self_eq_true, bne_self_eq_false]
  · obtain ⟨e, e1, e2, _⟩ := ofR_bad xs Tl.zero rfl hgood
    rw [e2] at o1
    unfold errL at o1
    by_cases h1 : (xs.length : Int) < 1
    · simp only [o1, h1, Int.natCast_nonneg, bne_iff_ne, beq_iff_eq, ne_eq, decide_eq_true_eq, Bool.and_eq_true, Bool.or_eq_true, Bool.not_eq_true', decide_eq_false_iff_not, beq_eq_false_iff_ne, bne_eq_false_iff_eq, not_true_eq_false, not_false_eq_true, if_true, if_false, reduceIte, and_true, true_and, and_false, false_and, or_false, false_or, or_true, true_or, List.getD_cons_zero, List.getD_cons_succ, List.length_cons, List.length_nil, List.cons_append, List.nil_append, Nat.reduceAdd, Nat.reduceEqDiff, reduceCtorEq, Bool.not_true, Bool.not_false, Bool.true_and, Bool.and_true, Bool.false_and, Bool.and_false, Bool.or_true, Bool.true_or, Bool.or_false, Bool.false_or, Bool.false_eq_true, Bool.true_eq_false, Sc.int_i, Sc.bool_b, Sc.list_l, Sc.str_s, Int.reduceEq, Int.reduceLT, Int.reduceLE, Int.reduceNe, decide_true, decide_false, decide_not, eq_self, Classical.not_not, List.getElem?_cons_zero, List.getElem?_cons_succ, beq_self_eq_true, bne_self_eq_false]
    by_cases h2 : (100 : Int) < xs.length
    · simp only [o1, h1, h2, Int.natCast_nonneg, bne_iff_ne, beq_iff_eq, ne_eq, decide_eq_true_eq, Bool.and_eq_true, Bool.or_eq_true, Bool.not_eq_true', decide_eq_false_iff_not, beq_eq_false_iff_ne, bne_eq_false_iff_eq, not_true_eq_false, not_false_eq_true, if_true, if_false, reduceIte, and_true, true_and, and_false, false_and, or_false, false_or, or_true, true_or, List.getD_cons_zero, List.getD_cons_succ, List.length_cons, List.length_nil, List.cons_append, List.nil_append, Nat.reduceAdd, Nat.reduceEqDiff, reduceCtorEq, Bool.not_true, Bool.not_false, Bool.true_and, Bool.and_true, Bool.false_and, Bool.and_false, Bool.or_true, Bool.true_or, Bool.or_false, Bool.false_or, Bool.false_eq_true, Bool.true_eq_false, Sc.int_i, Sc.bool_b, Sc.list_l, Sc.str_s, Int.reduceEq, Int.reduceLT, Int.reduceLE, Int.reduceNe, decide_true, decide_false, decide_not, eq_self, Classical.not_not, List.getElem?_cons_zero, List.getElem?_cons_succ, beq_self_eq_true, bne_self_eq_false]
    simp only [o1, h1, h2, e1, Int.natCast_nonneg, bne_iff_ne, beq_iff_eq, ne_eq, decide_eq_true_eq, Bool.and_eq_true, Bool.or_eq_true, Bool.not_eq_true', decide_eq_false_iff_not, beq_eq_false_iff_ne, bne_eq_false_iff_eq, not_true_eq_false, not_false_eq_true, if_true, if_false, reduceIte, and_true, true_and, and_false, false_and, or_false, false_or, or_true, true_or, List.getD_cons_zero, List.getD_cons_succ, List.length_cons, List.length_nil, List.cons_append, List.nil_append, Nat.reduceAdd, Nat.reduceEqDiff, reduceCtorEq, Bool.not_true, Bool.not_false, Bool.true_and, Bool.and_true, Bool.false_and, Bool.and_false, Bool.or_true, Bool.true_or, Bool.or_false, Bool.false_or, Bool.false_eq_true, Bool.true_eq_false, Sc.int_i, Sc.bool_b, Sc.list_l, Sc.str_s, Int.reduceEq, Int.reduceLT, Int.reduceLE, Int.reduceNe, decide_true, decide_false, decide_not, eq_self, Classical.not_not, List.getElem?_cons_zero, List.getElem?_cons_succ, beq_self_eq_true, bne_self_eq_false]

namespace seriesEnds
theorem own : ownKnob Try.prog.godebug = none := by kernel_rfl
theorem laidOut : laidOutB Try.prog = true := by kernel_rfl
set_option maxRecDepth 100000 in
theorem lifted (os : Os) (started : os.Started) (H : Type) (enc : TypeId × Value → H) :
    ReturnsInHanded {} Try.checked os 6 .any (Rows.seriesEndsSpec.pre6 enc Try.prog Try.f6 Rows.seriesEndsRow.domain false) (Rows.seriesEndsSpec.post enc Try.prog Try.f6 false true false false) := by
  refine returnsInHanded_of_change (C := Try.checked) own started (by kernel_rfl) Try.func6
    (ChangeSpec.witness6 (enc := enc) (C := Try.checked) false ⟨#[], #[.slice none 0 0], []⟩ 8 (by kernel_rfl) (by kernel_rfl) (by kernel_rfl) (by kernel_rfl)) ?_
  intro W base args ds gs before hval0 hW hcnd _
  have hval : ∀ (j : Nat) t v, Try.f6.params[j]? = some t → args[j]? = some v → Value.okWide Try.prog W .any base t v := hval0
  have hW' := hW
  obtain ⟨p, q, hA0, hV, rfl, hfz, hnd⟩ := hW
  have hA : DataW.TrodAll enc Try.prog W 0 (fun _ => true) true Try.f6.params.toList args.toList ds p := hA0
  rw [Try.params6] at hA hval
  obtain ⟨v0, vs0, d0, ds0, p0, q0, hargs, rfl, rfl, h0, r0⟩ := trodAll_cons hA
  obtain ⟨rfl, rfl, rfl⟩ := trodAll_nil r0
  obtain rfl : args = #[v0] := by cases args; simp_all
  obtain ⟨rfl, rfl⟩ := trodVars_none hV
  have k0 := h0
  have lt0 : ∀ x ∈ p0, x.block < W.heap.size := by obtain ⟨m, hm⟩ := k0; exact DataW.trod_lt m _ _ _ hm
  have ok0 := hval 0 34 v0 rfl rfl
  obtain ⟨xs, _, hl, g0⟩ := open_ints (k := .i64) Try.underlying34 (by kernel_rfl) (by kernel_rfl) ok0 h0
  clear hA0 hval0
  refine (law_call k_simulatorlaw46_SeriesEnds (Try.call6 _ _) (vs := [v0]) (args1 g0) (ends_F xs hl) rfl).mono fun e W' ⟨he, bel⟩ => ?_
  subst he
  exact ⟨_, rfl, _, _, _, [], _, [], hW', trodAll_mk1 (shut_bool Try.underlying4 _), (trodAll_cons_mk (Below.trod laidOut (by kernel_rfl) (of_decide_eq_true (by kernel_rfl)) k0 bel lt0) trodAll_mk0), rfl, bel.frame _, fun h => by cases h⟩
theorem over : Rows.seriesEndsRow.holds Try.pinned (OpenSpec.ofChange Rows.seriesEndsSpec) :=
  OpenClaim.holds_of_wide 6 Try.f6 rfl rfl rfl rfl rfl rfl rfl ⟨rfl, rfl, rfl, rfl, rfl⟩ rfl rfl rfl rfl rfl (by kernel_rfl) Try.func6 (by kernel_rfl)
    (of_decide_eq_true (by kernel_rfl)) (by unfold Func.isWrapper; first | (rw [if_pos (by decide +kernel)]; kernel_rfl) | (rw [if_neg (by decide +kernel)]; exact ⟨rfl, rfl⟩))
    (fun os started H enc _ => lifted os started H enc)
theorem proved : Rows.SeriesEndsSaid := over
end seriesEnds

end Go.Proofs.Ytfaghnapfkpdhaa
