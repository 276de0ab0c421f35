/-
  TallyMerges: Merge returns what the reference returns, in either order of its arguments, and what it returns passes Check. No condition.
-/
import Derived.Test.YtahchcpimanjfaaRows
import Derived.Test.YtahchcpimanjfaaOpn
import Derived.Test.YtahchcpimanjfaaA27
import Derived.Test.YtahchcpimanjfaaM27c
namespace Go.Proofs.Ytahchcpimanjfaa
open Go.ChangeShapes Go.WideShapes Go.ChangeAt Go.RowKit
set_option linter.unusedSimpArgs false

theorem merges_F (N S Q lo hi M T R l h : Int) : k_simulatorlaw27_TallyMerges.F [.i N, .i S, .i Q, .i lo, .i hi, .i M, .i T, .i R, .i l, .i h] = some [.b true] := by
  obtain ⟨n, s, q, a, b, e, f, e1, e2, hef, hchk⟩ := mrg_spec N S Q lo hi M T R l h
  simp only [k_simulatorlaw27_TallyMerges_F, tk_simulatorlaw27_TallyMerges, k_tally_Merge_f, k_simulatorref27_Merge_f, k_tally_Check_f, k_simulatorlaw27_awake_f, merge_F, refMerge_F, e1, e2, check_F, awake27, Go.Proofs.Ytahchcpimanjfaa.T.den, Ex.ev, U1.ev, U2.ev, U3.ev, gam, List.map, List.getD_cons_zero, List.getD_cons_succ, List.length, List.cons_append, List.nil_append, if_true, Sc.int_i, Sc.bool_b, Sc.list_l, Sc.str_s]
  by_cases h0 : e = 0
  · have h1 := hef.1 h0
    simp [h0, h1, hchk h0]
  · have h1 : f ≠ 0 := fun h => h0 (hef.2 h)
    have b1 : (e == 0) = false := by simp [h0]
    have b2 : (f == 0) = false := by simp [h1]
    simp [h0, b1, b2]
theorem open_tally {ys : List Sc} (hy : fitsL [.int .i64, .int .i64, .int .i64, .int .i64, .int .i64] ys) : ∃ N S Q lo hi, ys = [.i N, .i S, .i Q, .i lo, .i hi] := by
  obtain ⟨n1, r1, rfl, _, h1⟩ := fitsL_int hy
  obtain ⟨n2, r2, rfl, _, h2⟩ := fitsL_int h1
  obtain ⟨n3, r3, rfl, _, h3⟩ := fitsL_int h2
  obtain ⟨n4, r4, rfl, _, h4⟩ := fitsL_int h3
  obtain ⟨n5, r5, rfl, _, h5⟩ := fitsL_int h4
  rw [fitsL_nil h5]
  exact ⟨n1, n2, n3, n4, n5, rfl⟩

namespace tallyMerges
theorem own : ownKnob Try.prog.godebug = none := by kernel_rfl
theorem laidOut : laidOutB Try.prog = true := by kernel_rfl
set_option maxRecDepth 100000 in
theorem lifted (os : Os) (started : os.Started) (H : Type) (enc : TypeId × Value → H) :
    ReturnsInHanded {} Try.checked os 5 .any (Rows.tallyMergesSpec.pre6 enc Try.prog Try.f5 Rows.tallyMergesRow.domain false) (Rows.tallyMergesSpec.post enc Try.prog Try.f5 false true false false) := by
  refine returnsInHanded_of_change (C := Try.checked) own started (by kernel_rfl) Try.func5
    (ChangeSpec.witness6 (enc := enc) (C := Try.checked) false ⟨#[], #[.agg #[.int .i64 0, .int .i64 0, .int .i64 0, .int .i64 0, .int .i64 0], .agg #[.int .i64 0, .int .i64 0, .int .i64 0, .int .i64 0, .int .i64 0]], []⟩ 8 (by kernel_rfl) (by kernel_rfl) (by kernel_rfl) (by kernel_rfl)) ?_
  intro W base args ds gs before hval0 hW hcnd _
  have hval : ∀ (j : Nat) t v, Try.f5.params[j]? = some t → args[j]? = some v → Value.okWide Try.prog W .any base t v := hval0
  have hW' := hW
  obtain ⟨p, q, hA0, hV, rfl, hfz, hnd⟩ := hW
  have hA : DataW.TrodAll enc Try.prog W 0 (fun _ => true) true Try.f5.params.toList args.toList ds p := hA0
  rw [Try.params5] at hA hval
  obtain ⟨v0, vs0, d0, ds0, p0, q0, hargs, rfl, rfl, h0, r0⟩ := trodAll_cons hA
  obtain ⟨v1, vs1, d1, ds1, p1, q1, rfl, rfl, rfl, h1, r1⟩ := trodAll_cons r0
  obtain ⟨rfl, rfl, rfl⟩ := trodAll_nil r1
  obtain rfl : args = #[v0, v1] := by cases args; simp_all
  obtain ⟨rfl, rfl⟩ := trodVars_none hV
  have k0 := h0
  have lt0 : ∀ x ∈ p0, x.block < W.heap.size := by obtain ⟨m, hm⟩ := k0; exact DataW.trod_lt m _ _ _ hm
  have ok0 := hval 0 23 v0 rfl rfl
  have k1 := h1
  have lt1 : ∀ x ∈ p1, x.block < W.heap.size := by obtain ⟨m, hm⟩ := k1; exact DataW.trod_lt m _ _ _ hm
  have ok1 := hval 1 23 v1 rfl rfl
  obtain ⟨y0, f0, g0⟩ := open_g Try.underlying23 (ks := [.int .i64, .int .i64, .int .i64, .int .i64, .int .i64]) (by kernel_rfl) ok0 h0
  obtain ⟨y1, f1, g1⟩ := open_g Try.underlying23 (ks := [.int .i64, .int .i64, .int .i64, .int .i64, .int .i64]) (by kernel_rfl) ok1 h1
  obtain ⟨N, S, Q, lo, hi, rfl⟩ := open_tally f0
  obtain ⟨M, T, R, l, h, rfl⟩ := open_tally f1
  clear hA0 hval0
  refine (law_call k_simulatorlaw27_TallyMerges (vs := [v0, v1]) (args2 g0 g1) (merges_F N S Q lo hi M T R l h) rfl).mono fun e W' ⟨he, bel⟩ => ?_
  subst he
  exact ⟨_, rfl, _, _, _, [], _, [], hW', trodAll_mk1 (shut_bool Try.underlying4 _), (trodAll_cons_mk (Below.trod laidOut (by kernel_rfl) (of_decide_eq_true (by kernel_rfl)) k0 bel lt0) (trodAll_cons_mk (Below.trod laidOut (by kernel_rfl) (of_decide_eq_true (by kernel_rfl)) k1 bel lt1) trodAll_mk0)), rfl, bel.frame _, fun h => by cases h⟩
theorem over : Rows.tallyMergesRow.holds Try.pinned (OpenSpec.ofChange Rows.tallyMergesSpec) :=
  OpenClaim.holds_of_wide 5 Try.f5 rfl rfl rfl rfl rfl rfl rfl ⟨rfl, rfl, rfl, rfl, rfl⟩ rfl rfl rfl rfl rfl (by kernel_rfl) Try.func5 (by kernel_rfl)
    (of_decide_eq_true (by kernel_rfl)) (by unfold Func.isWrapper; first | (rw [if_pos (by decide +kernel)]; kernel_rfl) | (rw [if_neg (by decide +kernel)]; exact ⟨rfl, rfl⟩))
    (fun os started H enc _ => lifted os started H enc)
theorem proved : Rows.TallyMergesSaid := over
end tallyMerges

end Go.Proofs.Ytahchcpimanjfaa
