/-
  FracExact: Add, Sub, Mul, Div and Cmp return the exact results for all fractions. No condition.
-/
import Derived.Test.YtkjgcalkkfgmlaaDoorRows
import Derived.Test.YtkjgcalkkfgmlaaDoorCards
import Derived.Test.YtkjgcalkkfgmlaaDoorTie
import Derived.Test.YtkjgcalkkfgmlaaDoorGlR
import Derived.SevenTiedAt
import Derived.LaidMore
import Derived.OpenShut
import Derived.Stop.Joined
import Derived.Test.YtkjgcalkkfgmlaaDoorOpnR
import Derived.Test.YtkjgcalkkfgmlaaDoorA02
import Derived.Test.YtkjgcalkkfgmlaaDoorFlF
import Derived.Test.YtkjgcalkkfgmlaaDoorFrCmp
import Derived.Test.YtkjgcalkkfgmlaaDoorRfC
namespace Go.Proofs.YtkjgcalkkfgmlaaDoor
open Go.ChangeShapes Go.WideShapes Go.ChangeAt Go.RowKit
set_option linter.unusedSimpArgs false

theorem exact02_F (p q : Int × Int) (hp : FP p) (hq : FP q) : k_simulatorlaw02_FracExact.F [.i p.1, .i p.2, .i q.1, .i q.2] = some [.b true] := by
  have a := fadd_O hp hq
  have b := radd_O hp hq
  have c := fsub_O hp hq
  have d := rsub_O hp hq
  have e := fmul_O hp hq
  have f := rmul_O hp hq
  have g := fdiv_O hp hq
  have h := rdiv_O hp hq
  have i := cmp_F p.1 p.2 q.1 q.2 hp.1 hp.2 hq.1 hq.2
  have j := rCmp_F p.1 p.2 q.1 q.2 hp.1 hp.2 hq.1 hq.2
  obtain ⟨x1, x2, x3, ex⟩ := enc_form (addO (valP p) (valP q))
  obtain ⟨y1, y2, y3, ey⟩ := enc_form (subO (valP p) (valP q))
  obtain ⟨z1, z2, z3, ez⟩ := enc_form (mulO (valP p) (valP q))
  obtain ⟨u1, u2, u3, eu⟩ := enc_form (divO (valP p) (valP q))
  rw [ex] at a b
  rw [ey] at c d
  rw [ez] at e f
  rw [eu] at g h
  simp only [k_simulatorlaw02_FracExact_F, tk_simulatorlaw02_FracExact, k_frac_Add_f, k_simulatorref02_Add_f, k_frac_Sub_f, k_simulatorref02_Sub_f, k_frac_Mul_f, k_simulatorref02_Mul_f, k_frac_Div_f, k_simulatorref02_Div_f, k_frac_Cmp_f, k_simulatorref02_Cmp_f, k_simulatorlaw02_awake_f, awake02, a, b, c, d, e, f, g, h, i, j, Go.Proofs.YtkjgcalkkfgmlaaDoor.T.den, Ex.ev, U1.ev, U2.ev, U3.ev, gam, List.map, List.getD_cons_zero, List.getD_cons_succ, List.length, List.cons_append, List.nil_append, if_true, Sc.int_i, Sc.bool_b, Sc.list_l, Sc.str_s, Nat.reduceEqDiff, if_false, List.getElem?_cons_zero, List.getElem?_cons_succ]
  simp only [Bool.and_self, Int.natCast_nonneg, bne_iff_ne, beq_iff_eq, ne_eq, decide_eq_true_eq, Bool.and_eq_true, Bool.or_eq_true, Bool.not_eq_true', decide_eq_false_iff_not, beq_eq_false_iff_ne, bne_eq_false_iff_eq, not_true_eq_false, not_false_eq_true, if_true, if_false, reduceIte, and_true, true_and, and_false, false_and, or_false, false_or, or_true, true_or, List.getD_cons_zero, List.getD_cons_succ, List.length_cons, List.length_nil, List.cons_append, List.nil_append, Nat.reduceAdd, Nat.reduceEqDiff, reduceCtorEq, Bool.not_true, Bool.not_false, Bool.true_and, Bool.and_true, Bool.false_and, Bool.and_false, Bool.or_true, Bool.true_or, Bool.or_false, Bool.false_or, Bool.false_eq_true, Bool.true_eq_false, Sc.int_i, Sc.bool_b, Sc.list_l, Sc.str_s, Int.reduceEq, Int.reduceLT, Int.reduceLE, Int.reduceNe, decide_true, decide_false, decide_not, eq_self, Classical.not_not, List.getElem?_cons_zero, List.getElem?_cons_succ, beq_self_eq_true, bne_self_eq_false]

namespace fracExact
theorem own : ownKnob Tryd.prog.godebug = none := by kernel_rfl
theorem laidOut : laidOutB Tryd.prog = true := by kernel_rfl
theorem door_met (os : Os) (args : Array Value) : laidMetH Tryd.prog Rows.fracExactRow.laid ((World.doorLaid Tryd.prog 24 os).forCall (fun _ _ => 0) ⟨#[], args, []⟩).memory :=
  laidMetH_of_parts3 (fuel := 8) (laidMet_of_run' 8 (by kernel_rfl) (by kernel_rfl)) (by kernel_rfl) (by kernel_rfl)
set_option maxRecDepth 100000 in
theorem lifted (os : Os) (started : os.Started) (H : Type) (enc : TypeId × Value → H) :
    ReturnsInHanded {} Tryd.checked os 8 .any (fun w args => (Rows.fracExactSpec.pre enc Tryd.prog Tryd.f8 [] false w args ∧ laidMetH Tryd.prog Rows.fracExactRow.laid w) ∧ sizedMet enc Tryd.prog Tryd.f8 (OpenSpec.ofChange Rows.fracExactSpec) false w args) (Rows.fracExactSpec.post enc Tryd.prog Tryd.f8 false true false false) := by
  refine returnsInHanded_of_change_and (C := Tryd.checked) (X := fun w _ => laidMetH Tryd.prog Rows.fracExactRow.laid w) (fun _ _ _ hh h => h.of_heap hh) own started (by kernel_rfl) Tryd.func8
    (ChangeSpec.witness_shaped (enc := enc) (C := Tryd.checked) (os := os) (X := fun w _ => laidMetH Tryd.prog Rows.fracExactRow.laid w) false (World.doorLaid Tryd.prog 24 os) #[.agg #[.int .i64 0, .int .i64 0], .agg #[.int .i64 0, .int .i64 0]] 8 rfl (World.shaped_of_RefB (by kernel_rfl) (by kernel_rfl)) (by kernel_rfl) (by kernel_rfl) (by kernel_rfl) (door_met os _)) ?_
  intro W base args ds gs before hval0 hW _ _ hL _
  have hval : ∀ (j : Nat) t v, Tryd.f8.params[j]? = some t → args[j]? = some v → Value.okWide Tryd.prog W .any base t v := hval0
  have hW' := hW
  obtain ⟨p, q, hA0, hV, rfl, hfz, hnd⟩ := hW
  have hA : DataW.TrodAll enc Tryd.prog W 0 (fun _ => true) true Tryd.f8.params.toList args.toList ds p := hA0
  rw [Tryd.params8] at hA hval
  obtain ⟨v0, vs0, d0, ds0, p0, q0, hargs, rfl, rfl, h0, r0⟩ := trodAll_cons hA
  obtain ⟨v1, vs1, d1, ds1, p1, q1, rfl, rfl, rfl, h1, r1⟩ := trodAll_cons r0
  obtain ⟨rfl, rfl, rfl⟩ := trodAll_nil r1
  obtain rfl : args = #[v0, v1] := by cases args; simp_all
  obtain ⟨rfl, rfl⟩ := trodVars_none hV
  have k0 := h0
  have lt0 : ∀ x ∈ p0, x.block < W.heap.size := by obtain ⟨m, hm⟩ := k0; exact DataW.trod_lt m _ _ _ hm
  have ok0 := hval 0 23 v0 rfl rfl
  have k1 := h1
  have lt1 : ∀ x ∈ p1, x.block < W.heap.size := by obtain ⟨m, hm⟩ := k1; exact DataW.trod_lt m _ _ _ hm
  have ok1 := hval 1 23 v1 rfl rfl
  have hG := glob_of_laid hL
  obtain ⟨ys0, f0, g0⟩ := open_g (ks := [.int .i64, .int .i64]) Tryd.underlying23 (by kernel_rfl) ok0 h0
  obtain ⟨n0, r0, rfl, wn0, f0⟩ := fitsL_int f0
  obtain ⟨m0, s0, rfl, wm0, f0⟩ := fitsL_int f0
  obtain rfl := fitsL_nil f0
  obtain ⟨ys1, f1, g1⟩ := open_g (ks := [.int .i64, .int .i64]) Tryd.underlying23 (by kernel_rfl) ok1 h1
  obtain ⟨n1, r1, rfl, wn1, f1⟩ := fitsL_int f1
  obtain ⟨m1, s1, rfl, wm1, f1⟩ := fitsL_int f1
  obtain rfl := fitsL_nil f1
  clear hA0 hval0
  refine (law_call k_simulatorlaw02_FracExact (Tryd.call8 _ _) (vs := [v0, v1]) (args2 g0 g1) (exact02_F (n0, m0) (n1, m1) ⟨wf_i64 wn0, wf_i64 wm0⟩ ⟨wf_i64 wn1, wf_i64 wm1⟩) rfl hG).mono fun e W' ⟨he, bel⟩ => ?_
  subst he
  exact ⟨_, rfl, _, _, _, [], _, [], hW', trodAll_mk1 (shut_bool Tryd.underlying4 _), (trodAll_cons_mk (Below.trod laidOut (by kernel_rfl) (of_decide_eq_true (by kernel_rfl)) k0 bel lt0) (trodAll_cons_mk (Below.trod laidOut (by kernel_rfl) (of_decide_eq_true (by kernel_rfl)) k1 bel lt1) trodAll_mk0)), rfl, bel.frame _, fun h => by cases h⟩
theorem over : Rows.fracExactRow.holds Tryd.pinned (OpenSpec.ofChange Rows.fracExactSpec) :=
  OpenClaim.holds_of_wide 8 Tryd.f8 rfl rfl rfl rfl rfl rfl rfl ⟨rfl, rfl, rfl, rfl, rfl⟩ rfl rfl rfl rfl rfl (by kernel_rfl) Tryd.func8 (by kernel_rfl)
    (of_decide_eq_true (by kernel_rfl)) (by unfold Func.isWrapper; first | (rw [if_pos (by decide +kernel)]; kernel_rfl) | (rw [if_neg (by decide +kernel)]; exact ⟨rfl, rfl⟩))
    (fun os started H enc _ => lifted os started H enc)
theorem proved : Rows.FracExactCardSaid :=
  Claim7.holds_tied_plain_at .later [] [.data, .data, .data] true (true, "d42c871acdf449387827df040e187115335dd90a8baa5e29e5756e1790b7e0a8") false over (fun _ h => by cases h) (by kernel_rfl) (fun _ h => by cases h) fracExact_row_tie rfl ⟨rfl, rfl⟩ (by kernel_rfl) rfl
    (fun f fn hf hfn => by
      obtain rfl : f = 8 := Option.some.inj ((show Tryd.prog.funcNamed Rows.fracExactRow.func = some 8 by kernel_rfl).symm.trans hf) |>.symm
      obtain rfl : fn = Tryd.f8 := (Option.some.inj (Tryd.func8.symm.trans hfn)).symm
      refine ⟨by kernel_rfl, fun j t ht => ?_⟩
      have hall : (Tryd.f8.params.toList.all fun t => !Tryd.prog.wantsStandIn t) = true := by kernel_rfl
      have hm : t ∈ Tryd.f8.params.toList := Array.mem_toList_iff.2 (Array.mem_of_getElem? ht)
      exact (by simpa using List.all_eq_true.1 hall t hm : Tryd.prog.wantsStandIn t = false))
    (by kernel_rfl)
end fracExact

end Go.Proofs.YtkjgcalkkfgmlaaDoor
