/-
  SeriesWindows: the windows of adjacent spans have the points of the window of both spans, in this order if the times do not decrease. No condition.
-/
import Derived.Test.YtfaghnapfkpdhaaRows
import Derived.Test.YtfaghnapfkpdhaaOpnR
import Derived.Test.YtfaghnapfkpdhaaA46
import Derived.Test.YtfaghnapfkpdhaaM46a
import Derived.Test.YtfaghnapfkpdhaaQ
namespace Go.Proofs.Ytfaghnapfkpdhaa
open Go.ChangeShapes Go.WideShapes Go.ChangeAt Go.RowKit
set_option linter.unusedSimpArgs false

def inW (a b : Int) (p : Int × Int) : Bool := decide (a ≤ p.1) && decide (p.1 < b)
theorem win_pts (a b : Int) : ∀ (ps : List (Int × Int)), ((ps.map pt).filter (winP a b)).map winF = (ps.filter (inW a b)).map pt
  | [] => rfl
  | p :: ps => by
    have e : winP a b (pt p) = inW a b p := rfl
    have f : winF (pt p) = pt p := rfl
    simp only [List.map_cons, List.filter_cons, e]
    split
    · rw [List.map_cons, List.map_cons, win_pts a b ps, f]
    · exact win_pts a b ps
theorem count_win {a b c : Int} (h1 : a ≤ b) (h2 : b ≤ c) : ∀ (ps : List (Int × Int)), (ps.filter (inW a b)).length + (ps.filter (inW b c)).length = (ps.filter (inW a c)).length
  | [] => rfl
  | p :: ps => by
    have ih := count_win h1 h2 ps
    simp only [List.filter_cons, inW, Bool.and_eq_true, decide_eq_true_eq] at ih ⊢
    split <;> split <;> split <;> (try simp only [List.length_cons]) <;> omega
theorem join_win {a b c : Int} (h1 : a ≤ b) (h2 : b ≤ c) : ∀ (ps : List (Int × Int)), ps.Pairwise (fun p q => p.1 ≤ q.1) → ps.filter (inW a b) ++ ps.filter (inW b c) = ps.filter (inW a c)
  | [], _ => rfl
  | p :: ps, h => by
    obtain ⟨hp, hs⟩ := List.pairwise_cons.1 h
    have ih := join_win h1 h2 ps hs
    by_cases c1 : p.1 < b
    · have e2 : inW b c p = false := by simp [inW]; omega
      have e1 : inW a b p = inW a c p := by simp only [inW, decide_eq_true c1, decide_eq_true (show p.1 < c by omega)]
      simp only [List.filter_cons, e2, e1]
      split
      · rw [← ih]; rfl
      · exact ih
    · have e1 : ∀ q ∈ p :: ps, ¬ inW a b q = true := by
        intro q hq
        rcases List.mem_cons.1 hq with rfl | hq
        · simp [inW]; omega
        · have := hp q hq; simp [inW]; omega
      have e3 : ∀ q ∈ p :: ps, inW b c q = inW a c q := by
        intro q hq
        have : b ≤ q.1 := by
          rcases List.mem_cons.1 hq with rfl | hq
          · omega
          · have := hp q hq; omega
        simp only [inW, decide_eq_true this, decide_eq_true (show a ≤ q.1 by omega)]
      rw [List.filter_eq_nil_iff.2 e1, List.nil_append]
      exact List.filter_congr e3
theorem mono_pairs {ps : List (Int × Int)} (h : ∀ i, (hi : i + 1 < ps.length) → (ps[i]).1 ≤ (ps[i + 1]).1) : ps.Pairwise (fun p q => p.1 ≤ q.1) := by
  rw [List.pairwise_iff_getElem]
  intro i j hi hj hij
  induction j with
  | zero => omega
  | succ j ih =>
    have h2 := h j hj
    rcases Nat.lt_or_ge i j with h3 | h3
    · exact Int.le_trans (ih (by omega) h3) h2
    · have : i = j := by omega
      subst this; exact h2
theorem windows_F (ps : List (Int × Int)) (a b c : Int) : k_simulatorlaw46_SeriesWindows.F [.l (ps.map pt), .i a, .i b, .i c] = some [.b true] := by
  simp only [k_simulatorlaw46_SeriesWindows_F, tk_simulatorlaw46_SeriesWindows, k_series_Window_f, k_simulatorref46_Same_f, k_simulatorlaw46_awake_f, awake46, List.length_map, Go.Proofs.Ytfaghnapfkpdhaa.T.den, Ex.ev, U1.ev, U2.ev, U3.ev, gam, List.map, List.getD_cons_zero, List.getD_cons_succ, List.length, List.cons_append, List.nil_append, if_true, Sc.int_i, Sc.bool_b, Sc.list_l, Sc.str_s, Nat.reduceEqDiff, if_false, List.getElem?_cons_zero, List.getElem?_cons_succ]
  by_cases h0 : (200 : Int) < ps.length
  · simp only [h0, Int.natCast_nonneg, bne_iff_ne, beq_iff_eq, ne_eq, decide_eq_true_eq, Bool.and_eq_true, Bool.or_eq_true, Bool.not_eq_true', decide_eq_false_iff_not, beq_eq_false_iff_ne, bne_eq_false_iff_eq, not_true_eq_false, not_false_eq_true, if_true, if_false, reduceIte, and_true, true_and, and_false, false_and, or_false, false_or, or_true, true_or, List.getD_cons_zero, List.getD_cons_succ, List.length_cons, List.length_nil, List.cons_append, List.nil_append, Nat.reduceAdd, Nat.reduceEqDiff, reduceCtorEq, Bool.not_true, Bool.not_false, Bool.true_and, Bool.and_true, Bool.false_and, Bool.and_false, Bool.or_true, Bool.true_or, Bool.or_false, Bool.false_or, Bool.false_eq_true, Bool.true_eq_false, Sc.int_i, Sc.bool_b, Sc.list_l, Sc.str_s, Int.reduceEq, Int.reduceLT, Int.reduceLE, Int.reduceNe, decide_true, decide_false, decide_not, eq_self, Classical.not_not, List.getElem?_cons_zero, List.getElem?_cons_succ, beq_self_eq_true, bne_self_eq_false]
  by_cases h1 : b < a; · simp only [h0, h1, Int.natCast_nonneg, bne_iff_ne, beq_iff_eq, ne_eq, decide_eq_true_eq, Bool.and_eq_true, Bool.or_eq_true, Bool.not_eq_true', decide_eq_false_iff_not, beq_eq_false_iff_ne, bne_eq_false_iff_eq, not_true_eq_false, not_false_eq_true, if_true, if_false, reduceIte, and_true, true_and, and_false, false_and, or_false, false_or, or_true, true_or, List.getD_cons_zero, List.getD_cons_succ, List.length_cons, List.length_nil, List.cons_append, List.nil_append, Nat.reduceAdd, Nat.reduceEqDiff, reduceCtorEq, Bool.not_true, Bool.not_false, Bool.true_and, Bool.and_true, Bool.false_and, Bool.and_false, Bool.or_true, Bool.true_or, Bool.or_false, Bool.false_or, Bool.false_eq_true, Bool.true_eq_false, Sc.int_i, Sc.bool_b, Sc.list_l, Sc.str_s, Int.reduceEq, Int.reduceLT, Int.reduceLE, Int.reduceNe, decide_true, decide_false, decide_not, eq_self, Classical.not_not, List.getElem?_cons_zero, List.getElem?_cons_succ, beq_self_eq_true, bne_self_eq_false]
  by_cases h2 : c < b; · simp only [h0, h1, h2, Int.natCast_nonneg, bne_iff_ne, beq_iff_eq, ne_eq, decide_eq_true_eq, Bool.and_eq_true, Bool.or_eq_true, Bool.not_eq_true', decide_eq_false_iff_not, beq_eq_false_iff_ne, bne_eq_false_iff_eq, not_true_eq_false, not_false_eq_true, if_true, if_false, reduceIte, and_true, true_and, and_false, false_and, or_false, false_or, or_true, true_or, List.getD_cons_zero, List.getD_cons_succ, List.length_cons, List.length_nil, List.cons_append, List.nil_append, Nat.reduceAdd, Nat.reduceEqDiff, reduceCtorEq, Bool.not_true, Bool.not_false, Bool.true_and, Bool.and_true, Bool.false_and, Bool.and_false, Bool.or_true, Bool.true_or, Bool.or_false, Bool.false_or, Bool.false_eq_true, Bool.true_eq_false, Sc.int_i, Sc.bool_b, Sc.list_l, Sc.str_s, Int.reduceEq, Int.reduceLT, Int.reduceLE, Int.reduceNe, decide_true, decide_false, decide_not, eq_self, Classical.not_not, List.getElem?_cons_zero, List.getElem?_cons_succ, beq_self_eq_true, bne_self_eq_false]
  have w1 := sWin_F (ps.map pt) a b (by rw [List.length_map]; omega)
  have w2 := sWin_F (ps.map pt) b c (by rw [List.length_map]; omega)
  have w3 := sWin_F (ps.map pt) a c (by rw [List.length_map]; omega)
  rw [win_pts] at w1 w2 w3
  have hc := count_win (a := a) (b := b) (c := c) (by omega) (by omega) ps
  have hj := join_win (a := a) (b := b) (c := c) (by omega) (by omega) ps
  have l1 : (ps.filter (inW a b)).length ≤ ps.length := List.length_filter_le _ _
  have l3 : (ps.filter (inW a c)).length ≤ ps.length := List.length_filter_le _ _
  have hlen : IntKind.i64.wrap (((ps.filter (inW a b)).length : Int) + (ps.filter (inW b c)).length) = ((ps.filter (inW a c)).length : Int) := by rw [wrap_in (by omega) (by omega)]; omega
  simp only [h0, h1, h2, w1, w2, w3, List.length_map, hlen, Int.natCast_nonneg, bne_iff_ne, beq_iff_eq, ne_eq, decide_eq_true_eq, Bool.and_eq_true, Bool.or_eq_true, Bool.not_eq_true', decide_eq_false_iff_not, beq_eq_false_iff_ne, bne_eq_false_iff_eq, not_true_eq_false, not_false_eq_true, if_true, if_false, reduceIte, and_true, true_and, and_false, false_and, or_false, false_or, or_true, true_or, List.getD_cons_zero, List.getD_cons_succ, List.length_cons, List.length_nil, List.cons_append, List.nil_append, Nat.reduceAdd, Nat.reduceEqDiff, reduceCtorEq, Bool.not_true, Bool.not_false, Bool.true_and, Bool.and_true, Bool.false_and, Bool.and_false, Bool.or_true, Bool.true_or, Bool.or_false, Bool.false_or, Bool.false_eq_true, Bool.true_eq_false, Sc.int_i, Sc.bool_b, Sc.list_l, Sc.str_s, Int.reduceEq, Int.reduceLT, Int.reduceLE, Int.reduceNe, decide_true, decide_false, decide_not, eq_self, Classical.not_not, List.getElem?_cons_zero, List.getElem?_cons_succ, beq_self_eq_true, bne_self_eq_false]
  have same := same46_F ((ps.filter (inW a c)).map pt) (by rw [List.length_map]; omega)
  have n1 : ((ps.filter (inW a b)).length : Int) ≤ 8796093022208 := by omega
  have n2 : (((ps.filter (inW a b)).map pt ++ (ps.filter (inW b c)).map pt).length : Int) ≤ 8796093022208 := by simp only [List.length_append, List.length_map]; omega
  refine loop_rounds (S := Nat) (fun k => [.i ((k + 1 : Nat) : Int)]) (fun _ => some [.b true]) (fun k => k ≤ ps.length ∧ ∀ i, (hi : i + 1 < ps.length) → i < k → (ps[i]).1 ≤ (ps[i + 1]).1) (fun k => ps.length - k) ?_ 0 ⟨by omega, fun i hi h => by omega⟩ (by omega)
  rintro k rec ⟨hk, hmono⟩ hrec
  by_cases h : k + 1 < ps.length
  · have hkl : ((k + 1 : Nat) : Int) < ps.length := by omega
    have hi := idx_map pt ps (k + 1) h
    have hi2 := idx_map pt ps k (by omega)
    have hw := succ_w (n := ps.length) h (by omega)
    have hw2 : IntKind.i64.wrap (((k + 1 : Nat) : Int) - 1) = k := by rw [wrap_in (by omega) (by omega)]; omega
    have hkl2 : (k : Int) < ps.length := by omega
    by_cases hm : (ps[k + 1]).1 < (ps[k]).1
    · simp only [hkl, hi, hi2, pt, hw2, hkl2, hm, Int.natCast_nonneg, bne_iff_ne, beq_iff_eq, ne_eq, decide_eq_true_eq, Bool.and_eq_true, Bool.or_eq_true, Bool.not_eq_true', decide_eq_false_iff_not, beq_eq_false_iff_ne, bne_eq_false_iff_eq, not_true_eq_false, not_false_eq_true, if_true, if_false, reduceIte, and_true, true_and, and_false, false_and, or_false, false_or, or_true, true_or, List.getD_cons_zero, List.getD_cons_succ, List.length_cons, List.length_nil, List.cons_append, List.nil_append, Nat.reduceAdd, Nat.reduceEqDiff, reduceCtorEq, Bool.not_true, Bool.not_false, Bool.true_and, Bool.and_true, Bool.false_and, Bool.and_false, Bool.or_true, Bool.true_or, Bool.or_false, Bool.false_or, Bool.false_eq_true, Bool.true_eq_false, Sc.int_i, Sc.bool_b, Sc.list_l, Sc.str_s, Int.reduceEq, Int.reduceLT, Int.reduceLE, Int.reduceNe, decide_true, decide_false, decide_not, eq_self, Classical.not_not, List.getElem?_cons_zero, List.getElem?_cons_succ, beq_self_eq_true, bne_self_eq_false]
    · have hr := hrec (k + 1) ⟨by omega, fun i hi h => by
        rcases Nat.lt_or_ge i k with h' | h'
        · exact hmono i hi h'
        · have : i = k := by omega
          subst this; omega⟩ (by omega)
      simp only [hkl, hi, hi2, pt, hw2, hkl2, hm, hw, hr, Int.natCast_nonneg, bne_iff_ne, beq_iff_eq, ne_eq, decide_eq_true_eq, Bool.and_eq_true, Bool.or_eq_true, Bool.not_eq_true', decide_eq_false_iff_not, beq_eq_false_iff_ne, bne_eq_false_iff_eq, not_true_eq_false, not_false_eq_true, if_true, if_false, reduceIte, and_true, true_and, and_false, false_and, or_false, false_or, or_true, true_or, List.getD_cons_zero, List.getD_cons_succ, List.length_cons, List.length_nil, List.cons_append, List.nil_append, Nat.reduceAdd, Nat.reduceEqDiff, reduceCtorEq, Bool.not_true, Bool.not_false, Bool.true_and, Bool.and_true, Bool.false_and, Bool.and_false, Bool.or_true, Bool.true_or, Bool.or_false, Bool.false_or, Bool.false_eq_true, Bool.true_eq_false, Sc.int_i, Sc.bool_b, Sc.list_l, Sc.str_s, Int.reduceEq, Int.reduceLT, Int.reduceLE, Int.reduceNe, decide_true, decide_false, decide_not, eq_self, Classical.not_not, List.getElem?_cons_zero, List.getElem?_cons_succ, beq_self_eq_true, bne_self_eq_false]
  · have hkl : ¬ ((k + 1 : Nat) : Int) < ps.length := by omega
    have hjj := hj (mono_pairs fun i hi => hmono i hi (by omega))
    have hjj2 : (ps.filter (inW a b)).map pt ++ (ps.filter (inW b c)).map pt = (ps.filter (inW a c)).map pt := by rw [← List.map_append, hjj]
    rw [hjj2] at n2
    simp only [hkl, n1, hjj2, n2, same, Int.natCast_nonneg, bne_iff_ne, beq_iff_eq, ne_eq, decide_eq_true_eq, Bool.and_eq_true, Bool.or_eq_true, Bool.not_eq_true', decide_eq_false_iff_not, beq_eq_false_iff_ne, bne_eq_false_iff_eq, not_true_eq_false, not_false_eq_true, if_true, if_false, reduceIte, and_true, true_and, and_false, false_and, or_false, false_or, or_true, true_or, List.getD_cons_zero, List.getD_cons_succ, List.length_cons, List.length_nil, List.cons_append, List.nil_append, Nat.reduceAdd, Nat.reduceEqDiff, reduceCtorEq, Bool.not_true, Bool.not_false, Bool.true_and, Bool.and_true, Bool.false_and, Bool.and_false, Bool.or_true, Bool.true_or, Bool.or_false, Bool.false_or, Bool.false_eq_true, Bool.true_eq_false, Sc.int_i, Sc.bool_b, Sc.list_l, Sc.str_s, Int.reduceEq, Int.reduceLT, Int.reduceLE, Int.reduceNe, decide_true, decide_false, decide_not, eq_self, Classical.not_not, List.getElem?_cons_zero, List.getElem?_cons_succ, beq_self_eq_true, bne_self_eq_false]
theorem three_ints {ys : List Sc} (h : fitsL [.int .i64, .int .i64, .int .i64] ys) : ∃ a b c, ys = [.i a, .i b, .i c] := by
  obtain ⟨n, r, rfl, _, hr⟩ := fitsL_int h
  obtain ⟨m, r, rfl, _, hr2⟩ := fitsL_int hr
  obtain ⟨l, r, rfl, _, hr3⟩ := fitsL_int hr2
  obtain rfl := fitsL_nil hr3
  exact ⟨n, m, l, rfl⟩

namespace seriesWindows
theorem own : ownKnob Try.prog.godebug = none := by kernel_rfl
theorem laidOut : laidOutB Try.prog = true := by kernel_rfl
set_option maxRecDepth 100000 in
theorem lifted (os : Os) (started : os.Started) (H : Type) (enc : TypeId × Value → H) :
    ReturnsInHanded {} Try.checked os 5 .any (Rows.seriesWindowsSpec.pre6 enc Try.prog Try.f5 Rows.seriesWindowsRow.domain false) (Rows.seriesWindowsSpec.post enc Try.prog Try.f5 false true false false) := by
  refine returnsInHanded_of_change (C := Try.checked) own started (by kernel_rfl) Try.func5
    (ChangeSpec.witness6 (enc := enc) (C := Try.checked) false ⟨#[], #[.slice none 0 0, .agg #[.int .i64 0, .int .i64 0, .int .i64 0]], []⟩ 8 (by kernel_rfl) (by kernel_rfl) (by kernel_rfl) (by kernel_rfl)) ?_
  intro W base args ds gs before hval0 hW hcnd _
  have hval : ∀ (j : Nat) t v, Try.f5.params[j]? = some t → args[j]? = some v → Value.okWide Try.prog W .any base t v := hval0
  have hW' := hW
  obtain ⟨p, q, hA0, hV, rfl, hfz, hnd⟩ := hW
  have hA : DataW.TrodAll enc Try.prog W 0 (fun _ => true) true Try.f5.params.toList args.toList ds p := hA0
  rw [Try.params5] at hA hval
  obtain ⟨v0, vs0, d0, ds0, p0, q0, hargs, rfl, rfl, h0, r0⟩ := trodAll_cons hA
  obtain ⟨v1, vs1, d1, ds1, p1, q1, rfl, rfl, rfl, h1, r1⟩ := trodAll_cons r0
  obtain ⟨rfl, rfl, rfl⟩ := trodAll_nil r1
  obtain rfl : args = #[v0, v1] := by cases args; simp_all
  obtain ⟨rfl, rfl⟩ := trodVars_none hV
  have k0 := h0
  have lt0 : ∀ x ∈ p0, x.block < W.heap.size := by obtain ⟨m, hm⟩ := k0; exact DataW.trod_lt m _ _ _ hm
  have ok0 := hval 0 25 v0 rfl rfl
  have k1 := h1
  have lt1 : ∀ x ∈ p1, x.block < W.heap.size := by obtain ⟨m, hm⟩ := k1; exact DataW.trod_lt m _ _ _ hm
  have ok1 := hval 1 43 v1 rfl rfl
  obtain ⟨ps, _, _, g0⟩ := open_pairs Try.underlying25 (by kernel_rfl) (by kernel_rfl) ok0 h0
  obtain ⟨y1, f1, g1⟩ := open_arr Try.underlying43 (ks := [.int .i64, .int .i64, .int .i64]) (by kernel_rfl) ok1 h1
  obtain ⟨a, b, c, rfl⟩ := three_ints f1
  clear hA0 hval0
  refine (law_call k_simulatorlaw46_SeriesWindows (Try.call5 _ _) (vs := [v0, v1]) (args2 g0 g1) (windows_F ps a b c) rfl).mono fun e W' ⟨he, bel⟩ => ?_
  subst he
  exact ⟨_, rfl, _, _, _, [], _, [], hW', trodAll_mk1 (shut_bool Try.underlying4 _), (trodAll_cons_mk (Below.trod laidOut (by kernel_rfl) (of_decide_eq_true (by kernel_rfl)) k0 bel lt0) (trodAll_cons_mk (Below.trod laidOut (by kernel_rfl) (of_decide_eq_true (by kernel_rfl)) k1 bel lt1) trodAll_mk0)), rfl, bel.frame _, fun h => by cases h⟩
theorem over : Rows.seriesWindowsRow.holds Try.pinned (OpenSpec.ofChange Rows.seriesWindowsSpec) :=
  OpenClaim.holds_of_wide 5 Try.f5 rfl rfl rfl rfl rfl rfl rfl ⟨rfl, rfl, rfl, rfl, rfl⟩ rfl rfl rfl rfl rfl (by kernel_rfl) Try.func5 (by kernel_rfl)
    (of_decide_eq_true (by kernel_rfl)) (by unfold Func.isWrapper; first | (rw [if_pos (by decide +kernel)]; kernel_rfl) | (rw [if_neg (by decide +kernel)]; exact ⟨rfl, rfl⟩))
    (fun os started H enc _ => lifted os started H enc)
theorem proved : Rows.SeriesWindowsSaid := over
end seriesWindows

end Go.Proofs.Ytfaghnapfkpdhaa
