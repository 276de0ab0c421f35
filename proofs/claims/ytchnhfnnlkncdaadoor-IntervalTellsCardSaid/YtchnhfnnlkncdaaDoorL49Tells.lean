/-
  IntervalTells: Contains, Above and Enough return what the chapter says for any fractions. No condition.
-/
import Derived.Test.YtchnhfnnlkncdaaDoorRows
import Derived.Test.YtchnhfnnlkncdaaDoorCards
import Derived.Test.YtchnhfnnlkncdaaDoorTie
import Derived.SevenTiedAt
import Derived.LaidMore
import Derived.OpenShut
import Derived.Stop.Joined
import Derived.Test.YtchnhfnnlkncdaaDoorOpnR
import Derived.Test.YtchnhfnnlkncdaaDoorA49
import Derived.Test.YtchnhfnnlkncdaaDoorM49c
namespace Go.Proofs.YtchnhfnnlkncdaaDoor
open Go.ChangeShapes Go.WideShapes Go.ChangeAt Go.RowKit
set_option linter.unusedSimpArgs false

theorem tells_F (m h n k x y : Int × Int) (hm : FP m) (hh : FP h) (hn : FP n) (hk : FP k) (hx : FP x) (hy : FP y) : k_simulatorlaw49_IntervalTells.F [.i m.1, .i m.2, .i h.1, .i h.2, .i n.1, .i n.2, .i k.1, .i k.2, .i x.1, .i x.2, .i y.1, .i y.2] = some [.b true] := by
  have a := fcontains_F m h x hm hh hx
  have b := rcontains_F m h x hm hh hx
  have c := fabove_F m h n k hm hh hn hk
  have d := rabove_F m h n k hm hh hn hk
  have e := fenough_F m h y.1 hm hh hy.1
  have f := renough_F m h y.1 hm hh hy.1
  simp only [k_simulatorlaw49_IntervalTells_F, tk_simulatorlaw49_IntervalTells, k_interval_Contains_f, k_simulatorref49_Contains_f, k_interval_Above_f, k_simulatorref49_Above_f, k_interval_Enough_f, k_simulatorref49_Enough_f, k_simulatorlaw49_awake_f, awake49, a, b, c, d, e, f, Go.Proofs.YtchnhfnnlkncdaaDoor.T.den, Ex.ev, U1.ev, U2.ev, U3.ev, gam, List.map, List.getD_cons_zero, List.getD_cons_succ, List.length, List.cons_append, List.nil_append, if_true, Sc.int_i, Sc.bool_b, Sc.list_l, Sc.str_s, Nat.reduceEqDiff, if_false, List.getElem?_cons_zero, List.getElem?_cons_succ]
  simp only [Bool.and_self, Int.natCast_nonneg, bne_iff_ne, beq_iff_eq, ne_eq, decide_eq_true_eq, Bool.and_eq_true, Bool.or_eq_true, Bool.not_eq_true', decide_eq_false_iff_not, beq_eq_false_iff_ne, bne_eq_false_iff_eq, not_true_eq_false, not_false_eq_true, if_true, if_false, reduceIte, and_true, true_and, and_false, false_and, or_false, false_or, or_true, true_or, List.getD_cons_zero, List.getD_cons_succ, List.length_cons, List.length_nil, List.cons_append, List.nil_append, Nat.reduceAdd, Nat.reduceEqDiff, reduceCtorEq, Bool.not_true, Bool.not_false, Bool.true_and, Bool.and_true, Bool.false_and, Bool.and_false, Bool.or_true, Bool.true_or, Bool.or_false, Bool.false_or, Bool.false_eq_true, Bool.true_eq_false, Sc.int_i, Sc.bool_b, Sc.list_l, Sc.str_s, Int.reduceEq, Int.reduceLT, Int.reduceLE, Int.reduceNe, decide_true, decide_false, decide_not, eq_self, Classical.not_not, List.getElem?_cons_zero, List.getElem?_cons_succ, beq_self_eq_true, bne_self_eq_false]

namespace intervalTells
theorem own : ownKnob Tryd.prog.godebug = none := by kernel_rfl
theorem laidOut : laidOutB Tryd.prog = true := by kernel_rfl
theorem door_met (os : Os) (args : Array Value) : laidMetH Tryd.prog Rows.intervalTellsRow.laid ((World.doorLaid Tryd.prog 14 os).forCall (fun _ _ => 0) ⟨#[], args, []⟩).memory :=
  laidMetH_of_parts3 (fuel := 8) (laidMet_of_run' 8 (by kernel_rfl) (by kernel_rfl)) (by kernel_rfl) (by kernel_rfl)
set_option maxRecDepth 100000 in
theorem lifted (os : Os) (started : os.Started) (H : Type) (enc : TypeId × Value → H) :
    ReturnsInHanded {} Tryd.checked os 4 .any (fun w args => (Rows.intervalTellsSpec.pre enc Tryd.prog Tryd.f4 [] false w args ∧ laidMetH Tryd.prog Rows.intervalTellsRow.laid w) ∧ sizedMet enc Tryd.prog Tryd.f4 (OpenSpec.ofChange Rows.intervalTellsSpec) false w args) (Rows.intervalTellsSpec.post enc Tryd.prog Tryd.f4 false true false false) := by
  refine returnsInHanded_of_change_and (C := Tryd.checked) (X := fun w _ => laidMetH Tryd.prog Rows.intervalTellsRow.laid w) (fun _ _ _ hh h => h.of_heap hh) own started (by kernel_rfl) Tryd.func4
    (ChangeSpec.witness_shaped (enc := enc) (C := Tryd.checked) (os := os) (X := fun w _ => laidMetH Tryd.prog Rows.intervalTellsRow.laid w) false (World.doorLaid Tryd.prog 14 os) #[.agg #[.int .i64 0, .int .i64 0, .int .i64 0, .int .i64 0], .agg #[.int .i64 0, .int .i64 0, .int .i64 0, .int .i64 0], .agg #[.int .i64 0, .int .i64 0, .int .i64 0, .int .i64 0]] 8 rfl (World.shaped_of_RefB (by kernel_rfl) (by kernel_rfl)) (by kernel_rfl) (by kernel_rfl) (by kernel_rfl) (door_met os _)) ?_
  intro W base args ds gs before hval0 hW _ _ hL _
  have hval : ∀ (j : Nat) t v, Tryd.f4.params[j]? = some t → args[j]? = some v → Value.okWide Tryd.prog W .any base t v := hval0
  have hW' := hW
  obtain ⟨p, q, hA0, hV, rfl, hfz, hnd⟩ := hW
  have hA : DataW.TrodAll enc Tryd.prog W 0 (fun _ => true) true Tryd.f4.params.toList args.toList ds p := hA0
  rw [Tryd.params4] at hA hval
  obtain ⟨v0, vs0, d0, ds0, p0, q0, hargs, rfl, rfl, h0, r0⟩ := trodAll_cons hA
  obtain ⟨v1, vs1, d1, ds1, p1, q1, rfl, rfl, rfl, h1, r1⟩ := trodAll_cons r0
  obtain ⟨v2, vs2, d2, ds2, p2, q2, rfl, rfl, rfl, h2, r2⟩ := trodAll_cons r1
  obtain ⟨rfl, rfl, rfl⟩ := trodAll_nil r2
  obtain rfl : args = #[v0, v1, v2] := by cases args; simp_all
  obtain ⟨rfl, rfl⟩ := trodVars_none hV
  have k0 := h0
  have lt0 : ∀ x ∈ p0, x.block < W.heap.size := by obtain ⟨m, hm⟩ := k0; exact DataW.trod_lt m _ _ _ hm
  have ok0 := hval 0 27 v0 rfl rfl
  have k1 := h1
  have lt1 : ∀ x ∈ p1, x.block < W.heap.size := by obtain ⟨m, hm⟩ := k1; exact DataW.trod_lt m _ _ _ hm
  have ok1 := hval 1 27 v1 rfl rfl
  have k2 := h2
  have lt2 : ∀ x ∈ p2, x.block < W.heap.size := by obtain ⟨m, hm⟩ := k2; exact DataW.trod_lt m _ _ _ hm
  have ok2 := hval 2 34 v2 rfl rfl
  have hG := glob_of_laid hL
  obtain ⟨ys0, f0, g0⟩ := open_g (ks := [.int .i64, .int .i64, .int .i64, .int .i64]) Tryd.underlying27 (by kernel_rfl) ok0 h0
  obtain ⟨n0a, r0a, rfl, w0a, f0⟩ := fitsL_int f0
  obtain ⟨n0b, r0b, rfl, w0b, f0⟩ := fitsL_int f0
  obtain ⟨n0c, r0c, rfl, w0c, f0⟩ := fitsL_int f0
  obtain ⟨n0d, r0d, rfl, w0d, f0⟩ := fitsL_int f0
  obtain rfl := fitsL_nil f0
  obtain ⟨ys1, f1, g1⟩ := open_g (ks := [.int .i64, .int .i64, .int .i64, .int .i64]) Tryd.underlying27 (by kernel_rfl) ok1 h1
  obtain ⟨n1a, r1a, rfl, w1a, f1⟩ := fitsL_int f1
  obtain ⟨n1b, r1b, rfl, w1b, f1⟩ := fitsL_int f1
  obtain ⟨n1c, r1c, rfl, w1c, f1⟩ := fitsL_int f1
  obtain ⟨n1d, r1d, rfl, w1d, f1⟩ := fitsL_int f1
  obtain rfl := fitsL_nil f1
  obtain ⟨ys2, f2, g2⟩ := open_arr (ks := [.int .i64, .int .i64, .int .i64, .int .i64]) Tryd.underlying34 (by kernel_rfl) ok2 h2
  obtain ⟨n2a, r2a, rfl, w2a, f2⟩ := fitsL_int f2
  obtain ⟨n2b, r2b, rfl, w2b, f2⟩ := fitsL_int f2
  obtain ⟨n2c, r2c, rfl, w2c, f2⟩ := fitsL_int f2
  obtain ⟨n2d, r2d, rfl, w2d, f2⟩ := fitsL_int f2
  obtain rfl := fitsL_nil f2
  clear hA0 hval0
  refine (law_call k_simulatorlaw49_IntervalTells (Tryd.call4 _ _) (vs := [v0, v1, v2]) (args3 g0 g1 g2) (tells_F (n0a, n0b) (n0c, n0d) (n1a, n1b) (n1c, n1d) (n2a, n2b) (n2c, n2d) ⟨wf_i64 w0a, wf_i64 w0b⟩ ⟨wf_i64 w0c, wf_i64 w0d⟩ ⟨wf_i64 w1a, wf_i64 w1b⟩ ⟨wf_i64 w1c, wf_i64 w1d⟩ ⟨wf_i64 w2a, wf_i64 w2b⟩ ⟨wf_i64 w2c, wf_i64 w2d⟩) rfl hG).mono fun e W' ⟨he, bel⟩ => ?_
  subst he
  exact ⟨_, rfl, _, _, _, [], _, [], hW', trodAll_mk1 (shut_bool Tryd.underlying4 _), (trodAll_cons_mk (Below.trod laidOut (by kernel_rfl) (of_decide_eq_true (by kernel_rfl)) k0 bel lt0) (trodAll_cons_mk (Below.trod laidOut (by kernel_rfl) (of_decide_eq_true (by kernel_rfl)) k1 bel lt1) (trodAll_cons_mk (Below.trod laidOut (by kernel_rfl) (of_decide_eq_true (by kernel_rfl)) k2 bel lt2) trodAll_mk0))), rfl, bel.frame _, fun h => by cases h⟩
theorem over : Rows.intervalTellsRow.holds Tryd.pinned (OpenSpec.ofChange Rows.intervalTellsSpec) :=
  OpenClaim.holds_of_wide 4 Tryd.f4 rfl rfl rfl rfl rfl rfl rfl ⟨rfl, rfl, rfl, rfl, rfl⟩ rfl rfl rfl rfl rfl (by kernel_rfl) Tryd.func4 (by kernel_rfl)
    (of_decide_eq_true (by kernel_rfl)) (by unfold Func.isWrapper; first | (rw [if_pos (by decide +kernel)]; kernel_rfl) | (rw [if_neg (by decide +kernel)]; exact ⟨rfl, rfl⟩))
    (fun os started H enc _ => lifted os started H enc)
theorem proved : Rows.IntervalTellsCardSaid :=
  Claim7.holds_tied_plain_at .later [] [.data] true (true, "3c86034e67c5616d38ff392a8ba0a522a1e631b0cb48adbc1b8530354a08ea7b") false over (fun _ h => by cases h) (by kernel_rfl) (fun _ h => by cases h) intervalTells_row_tie rfl ⟨rfl, rfl⟩ (by kernel_rfl) rfl
    (fun f fn hf hfn => by
      obtain rfl : f = 4 := Option.some.inj ((show Tryd.prog.funcNamed Rows.intervalTellsRow.func = some 4 by kernel_rfl).symm.trans hf) |>.symm
      obtain rfl : fn = Tryd.f4 := (Option.some.inj (Tryd.func4.symm.trans hfn)).symm
      refine ⟨by kernel_rfl, fun j t ht => ?_⟩
      have hall : (Tryd.f4.params.toList.all fun t => !Tryd.prog.wantsStandIn t) = true := by kernel_rfl
      have hm : t ∈ Tryd.f4.params.toList := Array.mem_toList_iff.2 (Array.mem_of_getElem? ht)
      exact (by simpa using List.all_eq_true.1 hall t hm : Tryd.prog.wantsStandIn t = false))
    (by kernel_rfl)
end intervalTells

end Go.Proofs.YtchnhfnnlkncdaaDoor
