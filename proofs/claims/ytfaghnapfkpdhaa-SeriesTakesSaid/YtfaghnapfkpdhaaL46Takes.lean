/-
  SeriesTakes: Of, Values, Window and Tally return what their references return. No condition.
-/
import Derived.Test.YtfaghnapfkpdhaaRows
import Derived.Test.YtfaghnapfkpdhaaOpnR
import Derived.Test.YtfaghnapfkpdhaaA46
import Derived.Test.YtfaghnapfkpdhaaM46a
import Derived.Test.YtfaghnapfkpdhaaM27g
namespace Go.Proofs.Ytfaghnapfkpdhaa
open Go.ChangeShapes Go.WideShapes Go.ChangeAt Go.RowKit
set_option linter.unusedSimpArgs false

theorem ofR_form : ∀ (xs : List Int) (t : Tl), ∃ a b c d e f, ofR t xs = [.i a, .i b, .i c, .i d, .i e, .i f]
  | [], t => ⟨_, _, _, _, _, _, rfl⟩
  | x :: xs, t => by
    rw [ofR]; split
    · exact ofR_form xs (t.put x)
    · exact ⟨_, _, _, _, _, _, rfl⟩
theorem sTally_F (L : List Sc) (xs : List Int) (hL : L.length ≤ 8796093022208) (h : L.map (fun x => x.list.getD 1 (.i 0)) = xs.map .i) : k_series_Tally.F [.l L] = some (ofR Tl.zero xs) := by
  have e := sVal_F L hL
  rw [h] at e
  have hl : xs.length = L.length := by have := congrArg List.length h; simpa using this.symm
  have o := of_F xs (by omega)
  obtain ⟨a, b, c, d, f, g, hf⟩ := ofR_form xs Tl.zero
  rw [hf] at o ⊢
  simp only [k_series_Tally_F, tk_series_Tally, k_series_Values_f, k_tally_Of_f, e, o, Go.Proofs.Ytfaghnapfkpdhaa.T.den, Ex.ev, U1.ev, U2.ev, U3.ev, gam, List.map, List.getD_cons_zero, List.getD_cons_succ, List.length, List.cons_append, List.nil_append, if_true, Sc.int_i, Sc.bool_b, Sc.list_l, Sc.str_s, Nat.reduceEqDiff, if_false, List.getElem?_cons_zero, List.getElem?_cons_succ]
theorem rTally_F (L : List Sc) (xs : List Int) (hL : L.length ≤ 8796093022208) (h : L.map (fun x => x.list.getD 1 (.i 0)) = xs.map .i) : k_simulatorref46_Tally.F [.l L] = some (ofR Tl.zero xs) := by
  have e := rsVal_F L hL
  rw [h] at e
  have hl : xs.length = L.length := by have := congrArg List.length h; simpa using this.symm
  have o := refOf_F xs (by omega)
  obtain ⟨a, b, c, d, f, g, hf⟩ := ofR_form xs Tl.zero
  rw [hf] at o ⊢
  simp only [k_simulatorref46_Tally_F, tk_simulatorref46_Tally, k_simulatorref46_Values_f, k_simulatorref27_Of_f, e, o, Go.Proofs.Ytfaghnapfkpdhaa.T.den, Ex.ev, U1.ev, U2.ev, U3.ev, gam, List.map, List.getD_cons_zero, List.getD_cons_succ, List.length, List.cons_append, List.nil_append, if_true, Sc.int_i, Sc.bool_b, Sc.list_l, Sc.str_s, Nat.reduceEqDiff, if_false, List.getElem?_cons_zero, List.getElem?_cons_succ]
theorem ints_of (n : Nat) : ∀ (L : List Sc), (∀ x ∈ L, ∃ z, x.list.getD n (.i 0) = .i z) → ∃ xs : List Int, L.map (fun x => x.list.getD n (.i 0)) = xs.map Sc.i
  | [], _ => ⟨[], rfl⟩
  | x :: L, h => by
    obtain ⟨xs, e⟩ := ints_of n L (fun y hy => h y (List.mem_cons_of_mem _ hy))
    obtain ⟨z, hz⟩ := h x (List.mem_cons_self ..)
    exact ⟨z :: xs, by rw [List.map_cons, List.map_cons, e, hz]⟩
theorem takes_F (L : List Sc) (hL : ∀ x ∈ L, ∃ z, x.list.getD 5 (.i 0) = .i z) (s t a b : Int) : k_simulatorlaw46_SeriesTakes.F [.l L, .i s, .i t, .i a, .i b] = some [.b true] := by
  simp only [k_simulatorlaw46_SeriesTakes_F, tk_simulatorlaw46_SeriesTakes, k_series_Of_f, k_simulatorref46_Of_f, k_series_Tally_f, k_simulatorref46_Tally_f, k_simulatorref46_Same_f, k_series_Values_f, k_simulatorref46_Values_f, k_simulatorlaw46_ints_f, k_series_Window_f, k_simulatorref46_Window_f, k_simulatorlaw46_awake_f, awake46, Go.Proofs.Ytfaghnapfkpdhaa.T.den, Ex.ev, U1.ev, U2.ev, U3.ev, gam, List.map, List.getD_cons_zero, List.getD_cons_succ, List.length, List.cons_append, List.nil_append, if_true, Sc.int_i, Sc.bool_b, Sc.list_l, Sc.str_s, Nat.reduceEqDiff, if_false, List.getElem?_cons_zero, List.getElem?_cons_succ]
  by_cases h1 : (200 : Int) < L.length
  · simp only [h1, Int.natCast_nonneg, bne_iff_ne, beq_iff_eq, ne_eq, decide_eq_true_eq, Bool.and_eq_true, Bool.or_eq_true, Bool.not_eq_true', decide_eq_false_iff_not, beq_eq_false_iff_ne, bne_eq_false_iff_eq, not_true_eq_false, not_false_eq_true, if_true, if_false, reduceIte, and_true, true_and, and_false, false_and, or_false, false_or, or_true, true_or, List.getD_cons_zero, List.getD_cons_succ, List.length_cons, List.length_nil, List.cons_append, List.nil_append, Nat.reduceAdd, Nat.reduceEqDiff, reduceCtorEq, Bool.not_true, Bool.not_false, Bool.true_and, Bool.and_true, Bool.false_and, Bool.and_false, Bool.or_true, Bool.true_or, Bool.or_false, Bool.false_or, Bool.false_eq_true, Bool.true_eq_false, Sc.int_i, Sc.bool_b, Sc.list_l, Sc.str_s, Int.reduceEq, Int.reduceLT, Int.reduceLE, Int.reduceNe, decide_true, decide_false, decide_not, eq_self, Classical.not_not, List.getElem?_cons_zero, List.getElem?_cons_succ, beq_self_eq_true, bne_self_eq_false]
  have o1 := sOf_F L s t (by omega)
  have o2 := rsOf_F L s t (by omega)
  have hlen : ((L.filter (recP s t)).map recF).length ≤ L.length := by rw [List.length_map]; exact List.length_filter_le _ _
  have hint : ∃ xs : List Int, ((L.filter (recP s t)).map recF).map (fun x => x.list.getD 1 (.i 0)) = xs.map .i := by
    refine ints_of 1 _ fun y hy => ?_
    obtain ⟨x, hx, rfl⟩ := List.mem_map.1 hy
    exact hL x (List.mem_filter.1 hx).1
  generalize (L.filter (recP s t)).map recF = M at *
  obtain ⟨xs, hx⟩ := hint
  have t1 := sTally_F M xs (by omega) hx
  have t2 := rTally_F M xs (by omega) hx
  obtain ⟨p, q, r, u, v, w, hf⟩ := ofR_form xs Tl.zero
  rw [hf] at t1 t2
  have s1 := same46_F M (by omega)
  have v1 := sVal_F M (by omega)
  have v2 := rsVal_F M (by omega)
  have i1 := ints46_F (M.map fun x => x.list.getD 1 (.i 0)) (by rw [List.length_map]; omega)
  have w1 := sWin_F M a b (by omega)
  have w2 := rsWin_F M a b (by omega)
  have hlen2 : ((M.filter (winP a b)).map winF).length ≤ M.length := by rw [List.length_map]; exact List.length_filter_le _ _
  have s2 := same46_F ((M.filter (winP a b)).map winF) (by omega)
  simp only [h1, o1, o2, t1, t2, s1, v1, v2, i1, w1, w2, s2, Int.natCast_nonneg, bne_iff_ne, beq_iff_eq, ne_eq, decide_eq_true_eq, Bool.and_eq_true, Bool.or_eq_true, Bool.not_eq_true', decide_eq_false_iff_not, beq_eq_false_iff_ne, bne_eq_false_iff_eq, not_true_eq_false, not_false_eq_true, if_true, if_false, reduceIte, and_true, true_and, and_false, false_and, or_false, false_or, or_true, true_or, List.getD_cons_zero, List.getD_cons_succ, List.length_cons, List.length_nil, List.cons_append, List.nil_append, Nat.reduceAdd, Nat.reduceEqDiff, reduceCtorEq, Bool.not_true, Bool.not_false, Bool.true_and, Bool.and_true, Bool.false_and, Bool.and_false, Bool.or_true, Bool.true_or, Bool.or_false, Bool.false_or, Bool.false_eq_true, Bool.true_eq_false, Sc.int_i, Sc.bool_b, Sc.list_l, Sc.str_s, Int.reduceEq, Int.reduceLT, Int.reduceLE, Int.reduceNe, decide_true, decide_false, decide_not, eq_self, Classical.not_not, List.getElem?_cons_zero, List.getElem?_cons_succ, beq_self_eq_true, bne_self_eq_false]
theorem fits_get : ∀ (n : Nat) {k : Nat} {ys : List Sc}, fitsL (List.replicate k (.int .i64)) ys → ∃ z, ys.getD n (.i 0) = .i z
  | n, 0, ys, h => by rw [fitsL_nil h]; exact ⟨0, rfl⟩
  | 0, k + 1, ys, h => by obtain ⟨m, r, rfl, _, _⟩ := fitsL_int h; exact ⟨m, rfl⟩
  | n + 1, k + 1, ys, h => by obtain ⟨m, r, rfl, _, hr⟩ := fitsL_int h; exact fits_get n hr
theorem two_ints {ys : List Sc} (h : fitsL [.int .i64, .int .i64] ys) : ∃ a b, ys = [.i a, .i b] := by
  obtain ⟨n, r, rfl, _, hr⟩ := fitsL_int h
  obtain ⟨m, r, rfl, _, hr2⟩ := fitsL_int hr
  obtain rfl := fitsL_nil hr2
  exact ⟨n, m, rfl⟩

namespace seriesTakes
theorem own : ownKnob Try.prog.godebug = none := by kernel_rfl
theorem laidOut : laidOutB Try.prog = true := by kernel_rfl
set_option maxRecDepth 100000 in
theorem lifted (os : Os) (started : os.Started) (H : Type) (enc : TypeId × Value → H) :
    ReturnsInHanded {} Try.checked os 3 .any (Rows.seriesTakesSpec.pre6 enc Try.prog Try.f3 Rows.seriesTakesRow.domain false) (Rows.seriesTakesSpec.post enc Try.prog Try.f3 false true false false) := by
  refine returnsInHanded_of_change (C := Try.checked) own started (by kernel_rfl) Try.func3
    (ChangeSpec.witness6 (enc := enc) (C := Try.checked) false ⟨#[], #[.slice none 0 0, .agg #[.int .i64 0, .int .i64 0], .agg #[.int .i64 0, .int .i64 0]], []⟩ 8 (by kernel_rfl) (by kernel_rfl) (by kernel_rfl) (by kernel_rfl)) ?_
  intro W base args ds gs before hval0 hW hcnd _
  have hval : ∀ (j : Nat) t v, Try.f3.params[j]? = some t → args[j]? = some v → Value.okWide Try.prog W .any base t v := hval0
  have hW' := hW
  obtain ⟨p, q, hA0, hV, rfl, hfz, hnd⟩ := hW
  have hA : DataW.TrodAll enc Try.prog W 0 (fun _ => true) true Try.f3.params.toList args.toList ds p := hA0
  rw [Try.params3] at hA hval
  obtain ⟨v0, vs0, d0, ds0, p0, q0, hargs, rfl, rfl, h0, r0⟩ := trodAll_cons hA
  obtain ⟨v1, vs1, d1, ds1, p1, q1, rfl, rfl, rfl, h1, r1⟩ := trodAll_cons r0
  obtain ⟨v2, vs2, d2, ds2, p2, q2, rfl, rfl, rfl, h2, r2⟩ := trodAll_cons r1
  obtain ⟨rfl, rfl, rfl⟩ := trodAll_nil r2
  obtain rfl : args = #[v0, v1, v2] := by cases args; simp_all
  obtain ⟨rfl, rfl⟩ := trodVars_none hV
  have k0 := h0
  have lt0 : ∀ x ∈ p0, x.block < W.heap.size := by obtain ⟨m, hm⟩ := k0; exact DataW.trod_lt m _ _ _ hm
  have ok0 := hval 0 22 v0 rfl rfl
  have k1 := h1
  have lt1 : ∀ x ∈ p1, x.block < W.heap.size := by obtain ⟨m, hm⟩ := k1; exact DataW.trod_lt m _ _ _ hm
  have ok1 := hval 1 23 v1 rfl rfl
  have k2 := h2
  have lt2 : ∀ x ∈ p2, x.block < W.heap.size := by obtain ⟨m, hm⟩ := k2; exact DataW.trod_lt m _ _ _ hm
  have ok2 := hval 2 23 v2 rfl rfl
  obtain ⟨yss, hy, _, g0⟩ := open_row true Try.underlying22 (ks := List.replicate 6 (.int .i64)) (by kernel_rfl) rfl (by kernel_rfl) ok0 h0
  obtain ⟨y1, f1, g1⟩ := open_arr Try.underlying23 (ks := [.int .i64, .int .i64]) (by kernel_rfl) ok1 h1
  obtain ⟨y2, f2, g2⟩ := open_arr Try.underlying23 (ks := [.int .i64, .int .i64]) (by kernel_rfl) ok2 h2
  obtain ⟨s, t, rfl⟩ := two_ints f1
  obtain ⟨a, b, rfl⟩ := two_ints f2
  have hL : ∀ x ∈ yss.map (elSc true), ∃ z, x.list.getD 5 (.i 0) = .i z := fun x hx => (by obtain ⟨ys, hm, rfl⟩ := List.mem_map.1 hx; exact fits_get 5 (hy ys hm))
  clear hA0 hval0
  refine (law_call k_simulatorlaw46_SeriesTakes (Try.call3 _ _) (vs := [v0, v1, v2]) (args3 g0 g1 g2) (takes_F (yss.map (elSc true)) hL s t a b) rfl).mono fun e W' ⟨he, bel⟩ => ?_
  subst he
  exact ⟨_, rfl, _, _, _, [], _, [], hW', trodAll_mk1 (shut_bool Try.underlying4 _), (trodAll_cons_mk (Below.trod laidOut (by kernel_rfl) (of_decide_eq_true (by kernel_rfl)) k0 bel lt0) (trodAll_cons_mk (Below.trod laidOut (by kernel_rfl) (of_decide_eq_true (by kernel_rfl)) k1 bel lt1) (trodAll_cons_mk (Below.trod laidOut (by kernel_rfl) (of_decide_eq_true (by kernel_rfl)) k2 bel lt2) trodAll_mk0))), rfl, bel.frame _, fun h => by cases h⟩
theorem over : Rows.seriesTakesRow.holds Try.pinned (OpenSpec.ofChange Rows.seriesTakesSpec) :=
  OpenClaim.holds_of_wide 3 Try.f3 rfl rfl rfl rfl rfl rfl rfl ⟨rfl, rfl, rfl, rfl, rfl⟩ rfl rfl rfl rfl rfl (by kernel_rfl) Try.func3 (by kernel_rfl)
    (of_decide_eq_true (by kernel_rfl)) (by unfold Func.isWrapper; first | (rw [if_pos (by decide +kernel)]; kernel_rfl) | (rw [if_neg (by decide +kernel)]; exact ⟨rfl, rfl⟩))
    (fun os started H enc _ => lifted os started H enc)
theorem proved : Rows.SeriesTakesSaid := over
end seriesTakes

end Go.Proofs.Ytfaghnapfkpdhaa
