/-
  TallyChecks: Check, Add, Mean and Variance return what their references return. No condition.
-/
import Derived.Test.YtahchcpimanjfaaRows
import Derived.Test.YtahchcpimanjfaaOpn
import Derived.Test.YtahchcpimanjfaaA27
import Derived.Test.YtahchcpimanjfaaM27g
namespace Go.Proofs.Ytahchcpimanjfaa
open Go.ChangeShapes Go.WideShapes Go.ChangeAt Go.RowKit
set_option linter.unusedSimpArgs false

theorem addR_form (t : Tl) (v : Int) : ∃ a b c d e f, addR t v = [.i a, .i b, .i c, .i d, .i e, .i f] := by
  unfold addR Tl.l; split
  · exact ⟨_, _, _, _, _, _, rfl⟩
  · exact ⟨_, _, _, _, _, _, rfl⟩
theorem checks_F (N S Q lo hi x : Int) : k_simulatorlaw27_TallyChecks.F [.i N, .i S, .i Q, .i lo, .i hi, .i x] = some [.b true] := by
  have a1 := add_F ⟨N, S, Q, lo, hi⟩ x
  have a2 := refAdd_F ⟨N, S, Q, lo, hi⟩ x
  simp only [Tl.l, List.cons_append, List.nil_append] at a1 a2
  obtain ⟨a, b, c, d, e, f, h1⟩ := addR_form ⟨N, S, Q, lo, hi⟩ x
  obtain ⟨p, q, r, h2⟩ := meanL_form N S Q lo hi
  obtain ⟨u, v, w, h3⟩ := varL_form N S Q lo hi
  rw [h1] at a1 a2
  have m1 := mean_F N S Q lo hi
  have m2 := refMean_F N S Q lo hi
  have v1 := variance_F N S Q lo hi
  have v2 := refVariance_F N S Q lo hi
  rw [h2] at m1 m2
  rw [h3] at v1 v2
  simp only [k_simulatorlaw27_TallyChecks_F, tk_simulatorlaw27_TallyChecks, k_tally_Add_f, k_simulatorref27_Add_f, k_tally_Mean_f, k_simulatorref27_Mean_f, k_tally_Variance_f, k_simulatorref27_Variance_f, k_tally_Check_f, k_simulatorref27_Check_f, k_simulatorlaw27_awake_f, check_F, refCheck_F, awake27, a1, a2, m1, m2, v1, v2, Go.Proofs.Ytahchcpimanjfaa.T.den, Ex.ev, U1.ev, U2.ev, U3.ev, gam, List.map, List.getD_cons_zero, List.getD_cons_succ, List.length, List.cons_append, List.nil_append, if_true, Sc.int_i, Sc.bool_b, Sc.list_l, Sc.str_s, Nat.reduceEqDiff, if_false, List.getElem?_cons_zero, List.getElem?_cons_succ]
  simp only [bne_iff_ne, beq_iff_eq, ne_eq, decide_eq_true_eq, Bool.and_eq_true, Bool.or_eq_true, Bool.not_eq_true', decide_eq_false_iff_not, beq_eq_false_iff_ne, bne_eq_false_iff_eq, not_true_eq_false, not_false_eq_true, if_true, if_false, reduceIte, and_true, true_and, and_false, false_and, or_false, false_or, or_true, true_or, List.getD_cons_zero, List.getD_cons_succ, List.length_cons, List.length_nil, List.cons_append, List.nil_append, Nat.reduceAdd, Nat.reduceEqDiff, reduceCtorEq, Bool.not_true, Bool.not_false, Bool.true_and, Bool.and_true, Bool.false_and, Bool.and_false, Bool.or_true, Bool.true_or, Bool.or_false, Bool.false_or, Bool.false_eq_true, Bool.true_eq_false, Sc.int_i, Sc.bool_b, Sc.list_l, Sc.str_s, Int.reduceEq, Int.reduceLT, Int.reduceLE, Int.reduceNe, decide_true, decide_false, decide_not, Classical.not_not, List.getElem?_cons_zero, List.getElem?_cons_succ, beq_self_eq_true, bne_self_eq_false]
theorem open_tally' {ys : List Sc} (hy : fitsL [.int .i64, .int .i64, .int .i64, .int .i64, .int .i64] ys) : ∃ N S Q lo hi, ys = [.i N, .i S, .i Q, .i lo, .i hi] := by
  obtain ⟨n1, r1, rfl, _, h1⟩ := fitsL_int hy
  obtain ⟨n2, r2, rfl, _, h2⟩ := fitsL_int h1
  obtain ⟨n3, r3, rfl, _, h3⟩ := fitsL_int h2
  obtain ⟨n4, r4, rfl, _, h4⟩ := fitsL_int h3
  obtain ⟨n5, r5, rfl, _, h5⟩ := fitsL_int h4
  rw [fitsL_nil h5]
  exact ⟨n1, n2, n3, n4, n5, rfl⟩

namespace tallyChecks
theorem own : ownKnob Try.prog.godebug = none := by kernel_rfl
theorem laidOut : laidOutB Try.prog = true := by kernel_rfl
set_option maxRecDepth 100000 in
theorem lifted (os : Os) (started : os.Started) (H : Type) (enc : TypeId × Value → H) :
    ReturnsInHanded {} Try.checked os 3 .any (Rows.tallyChecksSpec.pre6 enc Try.prog Try.f3 Rows.tallyChecksRow.domain false) (Rows.tallyChecksSpec.post enc Try.prog Try.f3 false true false false) := by
  refine returnsInHanded_of_change (C := Try.checked) own started (by kernel_rfl) Try.func3
    (ChangeSpec.witness6 (enc := enc) (C := Try.checked) false ⟨#[], #[.agg #[.int .i64 0, .int .i64 0, .int .i64 0, .int .i64 0, .int .i64 0], .int .i64 0], []⟩ 8 (by kernel_rfl) (by kernel_rfl) (by kernel_rfl) (by kernel_rfl)) ?_
  intro W base args ds gs before hval0 hW hcnd _
  have hval : ∀ (j : Nat) t v, Try.f3.params[j]? = some t → args[j]? = some v → Value.okWide Try.prog W .any base t v := hval0
  have hW' := hW
  obtain ⟨p, q, hA0, hV, rfl, hfz, hnd⟩ := hW
  have hA : DataW.TrodAll enc Try.prog W 0 (fun _ => true) true Try.f3.params.toList args.toList ds p := hA0
  rw [Try.params3] at hA hval
  obtain ⟨v0, vs0, d0, ds0, p0, q0, hargs, rfl, rfl, h0, r0⟩ := trodAll_cons hA
  obtain ⟨v1, vs1, d1, ds1, p1, q1, rfl, rfl, rfl, h1, r1⟩ := trodAll_cons r0
  obtain ⟨rfl, rfl, rfl⟩ := trodAll_nil r1
  obtain rfl : args = #[v0, v1] := by cases args; simp_all
  obtain ⟨rfl, rfl⟩ := trodVars_none hV
  have k0 := h0
  have lt0 : ∀ x ∈ p0, x.block < W.heap.size := by obtain ⟨m, hm⟩ := k0; exact DataW.trod_lt m _ _ _ hm
  have ok0 := hval 0 23 v0 rfl rfl
  have k1 := h1
  have lt1 : ∀ x ∈ p1, x.block < W.heap.size := by obtain ⟨m, hm⟩ := k1; exact DataW.trod_lt m _ _ _ hm
  have ok1 := hval 1 3 v1 rfl rfl
  obtain ⟨y0, f0, g0⟩ := open_g Try.underlying23 (ks := [.int .i64, .int .i64, .int .i64, .int .i64, .int .i64]) (by kernel_rfl) ok0 h0
  obtain ⟨y1, ⟨x, rfl, _⟩, g1⟩ := open_a (k := .int .i64) (by kernel_rfl) ok1 h1
  obtain ⟨N, S, Q, lo, hi, rfl⟩ := open_tally' f0
  clear hA0 hval0
  refine (law_call k_simulatorlaw27_TallyChecks (Try.call3 _ _) (vs := [v0, v1]) (args2 g0 g1) (checks_F N S Q lo hi x) rfl).mono fun e W' ⟨he, bel⟩ => ?_
  subst he
  exact ⟨_, rfl, _, _, _, [], _, [], hW', trodAll_mk1 (shut_bool Try.underlying4 _), (trodAll_cons_mk (Below.trod laidOut (by kernel_rfl) (of_decide_eq_true (by kernel_rfl)) k0 bel lt0) (trodAll_cons_mk (Below.trod laidOut (by kernel_rfl) (of_decide_eq_true (by kernel_rfl)) k1 bel lt1) trodAll_mk0)), rfl, bel.frame _, fun h => by cases h⟩
theorem over : Rows.tallyChecksRow.holds Try.pinned (OpenSpec.ofChange Rows.tallyChecksSpec) :=
  OpenClaim.holds_of_wide 3 Try.f3 rfl rfl rfl rfl rfl rfl rfl ⟨rfl, rfl, rfl, rfl, rfl⟩ rfl rfl rfl rfl rfl (by kernel_rfl) Try.func3 (by kernel_rfl)
    (of_decide_eq_true (by kernel_rfl)) (by unfold Func.isWrapper; first | (rw [if_pos (by decide +kernel)]; kernel_rfl) | (rw [if_neg (by decide +kernel)]; exact ⟨rfl, rfl⟩))
    (fun os started H enc _ => lifted os started H enc)
theorem proved : Rows.TallyChecksSaid := over
end tallyChecks

end Go.Proofs.Ytahchcpimanjfaa
