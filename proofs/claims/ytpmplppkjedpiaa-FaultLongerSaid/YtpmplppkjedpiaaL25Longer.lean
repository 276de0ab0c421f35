/-
  FaultLonger: a course up to an earlier time is the beginning of the longer one. No condition. 
-/
import Derived.Test.YtpmplppkjedpiaaRows
import Derived.Test.YtpmplppkjedpiaaM25l
namespace Go.Proofs.Ytpmplppkjedpiaa
open Go.ChangeShapes Go.WideShapes Go.ChangeAt Go.RowKit
set_option linter.unusedSimpArgs false
set_option linter.unusedVariables false

theorem times_get (st : ByteArray) (u v : DD) (k p : Int) (m : Bool) {n i : Nat} (h : i < n) : ((timesN st u v k p m n).map Sc.i).getD ((i : Int)).toNat (.i 0) = .i (sqN st u v k p m (i + 1)).x := by
  have hl : i < (timesN st u v k p m n).length := by rw [times_len]; exact h
  rw [idx_map Sc.i _ i hl]
  simp [timesN]
theorem times_take (st : ByteArray) (u v : DD) (k p : Int) (m : Bool) {n i : Nat} (h : i ≤ n) : (timesN st u v k p m n).take i = timesN st u v k p m i := by
  unfold timesN
  rw [← List.map_take, List.take_range, Nat.min_eq_left h]
theorem crs_short (st : ByteArray) (u v : DD) (k p : Int) (m : Bool) (til tl : Int) (n : Nat) (hn : n ≤ 1000) (h : tl ≤ til) (f3 : ∀ j, j < n → (sqN st u v k p m (j + 1)).e = 0 ∧ ¬ til < (sqN st u v k p m (j + 1)).x) (f4 : (sqN st u v k p m (n + 1)).e = 0) (f5 : til < (sqN st u v k p m (n + 1)).x) : ∀ (f i : Nat), f + i = 1000 → i ≤ n → ∃ q, q ≤ n ∧ crsN st u v k p m tl f i = (timesN st u v k p m q, 0) ∧ tl < (sqN st u v k p m (q + 1)).x
  | f, i, hf, hi => by
    have he : (sqN st u v k p m (i + 1)).e = 0 := by
      by_cases e : i = n
      · rw [e]; exact f4
      · exact (f3 i (by omega)).1
    by_cases c : tl < (sqN st u v k p m (i + 1)).x
    · exact ⟨i, hi, crsN_1 he c, c⟩
    have hin : i < n := by
      rcases Nat.lt_or_ge i n with h1 | h1
      · exact h1
      · have : i = n := by omega
        subst this; omega
    cases f with
    | zero => omega
    | succ f =>
      rw [crsN_3 he c]
      exact crs_short st u v k p m til tl n hn h f3 f4 f5 f (i + 1) (by omega) (by omega)
theorem sq_grow (st : ByteArray) (u v : DD) (k p : Int) (m : Bool) {i : Nat} (h : (sqN st u v k p m (i + 1)).e = 0) : (sqN st u v k p m i).x < (sqN st u v k p m (i + 1)).x := next_ready h
theorem sq_mono (st : ByteArray) (u v : DD) (k p : Int) (m : Bool) (q : Nat) : ∀ (d : Nat), (∀ j, q ≤ j → j < q + d → (sqN st u v k p m (j + 1)).e = 0) → (sqN st u v k p m q).x ≤ (sqN st u v k p m (q + d)).x
  | 0, _ => Int.le_refl _
  | d + 1, h => by
    have := sq_mono st u v k p m q d (fun j h1 h2 => h j h1 (by omega))
    have g := sq_grow st u v k p m (h (q + d) (by omega) (by omega))
    rw [show q + (d + 1) = q + d + 1 by omega]; omega
theorem longer_core (x0 x1 x2 x3 : Sc) (st : ByteArray) (u v : DD) (k p : Int) (m : Bool) (til less : Int) (X Y : List Int) (n q : Nat) (c0 : ¬ til < less) (wl : IntKind.i64.wrap less = less) (wt : IntKind.i64.wrap (til - less) = til - less) (hX : X.length = n) (hY : Y.length = q) (hq : q ≤ n) (hn : n ≤ 1000) (tk : X.take q = Y) (gt : ∀ i, q ≤ i → (h : i < n) → ¬ X[i]'(by omega) ≤ til - less)
    (sm : k_simulatorlaw25_small.F [x0, x1, x2, x3, .s st, .i u.op, .i u.a, .i u.b, .i u.n, .l (u.vs.map .i), .l (u.ws.map .i), .i v.op, .i v.a, .i v.b, .i v.n, .l (v.vs.map .i), .l (v.ws.map .i)] = some [.b true])
    (c : k_fault_Course.F [x0, x1, x2, x3, .s st, .i u.op, .i u.a, .i u.b, .i u.n, .l (u.vs.map .i), .l (u.ws.map .i), .i v.op, .i v.a, .i v.b, .i v.n, .l (v.vs.map .i), .l (v.ws.map .i), .i k, .i p, .b m, .i til] = some [.l (X.map .i), .i 0])
    (d : k_fault_Course.F [x0, x1, x2, x3, .s st, .i u.op, .i u.a, .i u.b, .i u.n, .l (u.vs.map .i), .l (u.ws.map .i), .i v.op, .i v.a, .i v.b, .i v.n, .l (v.vs.map .i), .l (v.ws.map .i), .i k, .i p, .b m, .i (til - less)] = some [.l (Y.map .i), .i 0]) : k_simulatorlaw25_FaultLonger.F [x0, x1, x2, x3, .s st, .i u.op, .i u.a, .i u.b, .i u.n, .l (u.vs.map .i), .l (u.ws.map .i), .i v.op, .i v.a, .i v.b, .i v.n, .l (v.vs.map .i), .l (v.ws.map .i), .i k, .i p, .b m, .i til, .i less] = some [.b true] := by
  have ln : ((X.map Sc.i).length : Int) = n := by rw [List.length_map, hX]
  have lq : ((Y.map Sc.i).length : Int) = q := by rw [List.length_map, hY]
  have w1 : IntKind.i64.wrap ((q : Int) - 0) = q := by rw [Int.sub_zero]; exact wrJ (by omega) (by omega)
  have w2 : IntKind.i64.wrap (0 + (q : Int)) = q := by rw [Int.zero_add]; exact wrJ (by omega) (by omega)
  have k1 : ¬ (n : Int) < q := by omega
  have k2 : (q : Int) ≤ n := by omega
  have k3 : (0 : Int) ≤ q := by omega
  have tk : ((X.map Sc.i).take ((q : Int)).toNat).drop (0 : Int).toNat = Y.map Sc.i := by
    rw [Int.toNat_natCast, ← List.map_take, tk, Int.toNat_zero, List.drop_zero]
  have sI := sameInts_F Y Y (by rw [hY]; omega)
  rw [decide_eq_true (rfl : Y = Y)] at sI
  simp only [k_simulatorlaw25_FaultLonger_F, tk_simulatorlaw25_FaultLonger, k_simulatorlaw25_small_f, k_simulatorlaw25_awake_f, k_fault_Course_f, k_simulatorref25_SameInts_f, sm, awake25, wl, wt, c, d, ln, lq, w1, w2, tk, sI, Go.Proofs.Ytpmplppkjedpiaa.T.den, Ex.ev, U1.ev, U2.ev, U3.ev, gam, List.map, List.getD_cons_zero, List.getD_cons_succ, List.length, List.cons_append, List.nil_append, if_true, int_n, bool_n, list_n, Sc.str_s, Nat.reduceEqDiff, if_false, List.getElem?_cons_zero, List.getElem?_cons_succ]
  simp only [c0, k1, k2, k3, Int.natCast_nonneg, bne_iff_ne, beq_iff_eq, ne_eq, decide_eq_true_eq, Bool.and_eq_true, Bool.or_eq_true, Bool.not_eq_true', decide_eq_false_iff_not, beq_eq_false_iff_ne, bne_eq_false_iff_eq, not_true_eq_false, not_false_eq_true, if_true, if_false, reduceIte, and_true, true_and, and_false, false_and, or_false, false_or, or_true, true_or, List.getD_cons_zero, List.getD_cons_succ, List.length_cons, List.length_nil, List.cons_append, List.nil_append, Nat.reduceAdd, Nat.reduceEqDiff, reduceCtorEq, Bool.not_true, Bool.not_false, Bool.true_and, Bool.and_true, Bool.false_and, Bool.and_false, Bool.or_true, Bool.true_or, Bool.or_false, Bool.false_or, Bool.false_eq_true, Bool.true_eq_false, int_n, bool_n, list_n, Sc.str_s, Int.reduceEq, Int.reduceLT, Int.reduceLE, Int.reduceNe, decide_true, decide_false, decide_not, eq_self, Classical.not_not, List.getElem?_cons_zero, List.getElem?_cons_succ, beq_self_eq_true, bne_self_eq_false]
  refine loop_from (S := Nat) (fun i => [.i (i : Int)]) (fun _ => some [.b true]) (fun i => q ≤ i ∧ i ≤ n) (fun i => n - i) q rfl rfl ⟨Nat.le_refl _, hq⟩ (by omega) ?_
  intro i rec hi hrec
  by_cases c1 : i < n
  · have c1' : (i : Int) < n := by omega
    have hs1 := succ_w (k := i) (n := n) c1 (by omega)
    have hr := hrec (i + 1) ⟨by omega, by omega⟩ (by omega)
    have tg := idx_map Sc.i X i (by omega)
    have nl := gt i hi.1 c1
    simp only [c1', tg, nl, hs1, hr, Int.natCast_nonneg, bne_iff_ne, beq_iff_eq, ne_eq, decide_eq_true_eq, Bool.and_eq_true, Bool.or_eq_true, Bool.not_eq_true', decide_eq_false_iff_not, beq_eq_false_iff_ne, bne_eq_false_iff_eq, not_true_eq_false, not_false_eq_true, if_true, if_false, reduceIte, and_true, true_and, and_false, false_and, or_false, false_or, or_true, true_or, List.getD_cons_zero, List.getD_cons_succ, List.length_cons, List.length_nil, List.cons_append, List.nil_append, Nat.reduceAdd, Nat.reduceEqDiff, reduceCtorEq, Bool.not_true, Bool.not_false, Bool.true_and, Bool.and_true, Bool.false_and, Bool.and_false, Bool.or_true, Bool.true_or, Bool.or_false, Bool.false_or, Bool.false_eq_true, Bool.true_eq_false, int_n, bool_n, list_n, Sc.str_s, Int.reduceEq, Int.reduceLT, Int.reduceLE, Int.reduceNe, decide_true, decide_false, decide_not, eq_self, Classical.not_not, List.getElem?_cons_zero, List.getElem?_cons_succ, beq_self_eq_true, bne_self_eq_false]
  · have c1' : ¬ (i : Int) < n := by omega
    simp only [c1', Int.natCast_nonneg, bne_iff_ne, beq_iff_eq, ne_eq, decide_eq_true_eq, Bool.and_eq_true, Bool.or_eq_true, Bool.not_eq_true', decide_eq_false_iff_not, beq_eq_false_iff_ne, bne_eq_false_iff_eq, not_true_eq_false, not_false_eq_true, if_true, if_false, reduceIte, and_true, true_and, and_false, false_and, or_false, false_or, or_true, true_or, List.getD_cons_zero, List.getD_cons_succ, List.length_cons, List.length_nil, List.cons_append, List.nil_append, Nat.reduceAdd, Nat.reduceEqDiff, reduceCtorEq, Bool.not_true, Bool.not_false, Bool.true_and, Bool.and_true, Bool.false_and, Bool.and_false, Bool.or_true, Bool.true_or, Bool.or_false, Bool.false_or, Bool.false_eq_true, Bool.true_eq_false, int_n, bool_n, list_n, Sc.str_s, Int.reduceEq, Int.reduceLT, Int.reduceLE, Int.reduceNe, decide_true, decide_false, decide_not, eq_self, Classical.not_not, List.getElem?_cons_zero, List.getElem?_cons_succ, beq_self_eq_true, bne_self_eq_false]
theorem longer_F (x0 x1 x2 x3 : Sc) (st : ByteArray) (u v : DD) (k p : Int) (m : Bool) (til less : Int) (ht : -9223372036854775808 ≤ til ∧ til < 9223372036854775808) (hl : 0 ≤ less ∧ less ≤ 255) : k_simulatorlaw25_FaultLonger.F [x0, x1, x2, x3, .s st, .i u.op, .i u.a, .i u.b, .i u.n, .l (u.vs.map .i), .l (u.ws.map .i), .i v.op, .i v.a, .i v.b, .i v.n, .l (v.vs.map .i), .l (v.ws.map .i), .i k, .i p, .b m, .i til, .i less] = some [.b true] := by
  have wl : IntKind.i64.wrap less = less := wrJ (by omega) (by omega)
  obtain ⟨b, sm, hb⟩ := small_F x0 x1 x2 x3 st u v
  cases b
  · simp only [k_simulatorlaw25_FaultLonger_F, tk_simulatorlaw25_FaultLonger, k_simulatorlaw25_small_f, k_simulatorlaw25_awake_f, sm, awake25, Go.Proofs.Ytpmplppkjedpiaa.T.den, Ex.ev, U1.ev, U2.ev, U3.ev, gam, List.map, List.getD_cons_zero, List.getD_cons_succ, List.length, List.cons_append, List.nil_append, if_true, int_n, bool_n, list_n, Sc.str_s, Nat.reduceEqDiff, if_false, List.getElem?_cons_zero, List.getElem?_cons_succ]
    simp only [Int.natCast_nonneg, bne_iff_ne, beq_iff_eq, ne_eq, decide_eq_true_eq, Bool.and_eq_true, Bool.or_eq_true, Bool.not_eq_true', decide_eq_false_iff_not, beq_eq_false_iff_ne, bne_eq_false_iff_eq, not_true_eq_false, not_false_eq_true, if_true, if_false, reduceIte, and_true, true_and, and_false, false_and, or_false, false_or, or_true, true_or, List.getD_cons_zero, List.getD_cons_succ, List.length_cons, List.length_nil, List.cons_append, List.nil_append, Nat.reduceAdd, Nat.reduceEqDiff, reduceCtorEq, Bool.not_true, Bool.not_false, Bool.true_and, Bool.and_true, Bool.false_and, Bool.and_false, Bool.or_true, Bool.true_or, Bool.or_false, Bool.false_or, Bool.false_eq_true, Bool.true_eq_false, int_n, bool_n, list_n, Sc.str_s, Int.reduceEq, Int.reduceLT, Int.reduceLE, Int.reduceNe, decide_true, decide_false, decide_not, eq_self, Classical.not_not, List.getElem?_cons_zero, List.getElem?_cons_succ, beq_self_eq_true, bne_self_eq_false]
  obtain ⟨hs, hu, hv⟩ := hb rfl
  by_cases c0 : til < less
  · simp only [k_simulatorlaw25_FaultLonger_F, tk_simulatorlaw25_FaultLonger, k_simulatorlaw25_small_f, k_simulatorlaw25_awake_f, sm, awake25, wl, Go.Proofs.Ytpmplppkjedpiaa.T.den, Ex.ev, U1.ev, U2.ev, U3.ev, gam, List.map, List.getD_cons_zero, List.getD_cons_succ, List.length, List.cons_append, List.nil_append, if_true, int_n, bool_n, list_n, Sc.str_s, Nat.reduceEqDiff, if_false, List.getElem?_cons_zero, List.getElem?_cons_succ]
    simp only [c0, Int.natCast_nonneg, bne_iff_ne, beq_iff_eq, ne_eq, decide_eq_true_eq, Bool.and_eq_true, Bool.or_eq_true, Bool.not_eq_true', decide_eq_false_iff_not, beq_eq_false_iff_ne, bne_eq_false_iff_eq, not_true_eq_false, not_false_eq_true, if_true, if_false, reduceIte, and_true, true_and, and_false, false_and, or_false, false_or, or_true, true_or, List.getD_cons_zero, List.getD_cons_succ, List.length_cons, List.length_nil, List.cons_append, List.nil_append, Nat.reduceAdd, Nat.reduceEqDiff, reduceCtorEq, Bool.not_true, Bool.not_false, Bool.true_and, Bool.and_true, Bool.false_and, Bool.and_false, Bool.or_true, Bool.true_or, Bool.or_false, Bool.false_or, Bool.false_eq_true, Bool.true_eq_false, int_n, bool_n, list_n, Sc.str_s, Int.reduceEq, Int.reduceLT, Int.reduceLE, Int.reduceNe, decide_true, decide_false, decide_not, eq_self, Classical.not_not, List.getElem?_cons_zero, List.getElem?_cons_succ, beq_self_eq_true, bne_self_eq_false]
  have wt : IntKind.i64.wrap (til - less) = til - less := wrJ (by omega) (by omega)
  have c := course_F x0 x1 x2 x3 st u v k p m til hs hu hv
  have d := course_F x0 x1 x2 x3 st u v k p m (til - less) hs hu hv
  unfold outC at c d
  rcases course_form st u v k p m til with ⟨f1, f2⟩ | ⟨f0, n, f1, f2, f3, f4, f5⟩
  · simp only [k_simulatorlaw25_FaultLonger_F, tk_simulatorlaw25_FaultLonger, k_simulatorlaw25_small_f, k_simulatorlaw25_awake_f, k_fault_Course_f, sm, awake25, wl, wt, c, d, Go.Proofs.Ytpmplppkjedpiaa.T.den, Ex.ev, U1.ev, U2.ev, U3.ev, gam, List.map, List.getD_cons_zero, List.getD_cons_succ, List.length, List.cons_append, List.nil_append, if_true, int_n, bool_n, list_n, Sc.str_s, Nat.reduceEqDiff, if_false, List.getElem?_cons_zero, List.getElem?_cons_succ]
    simp only [c0, f1, Int.natCast_nonneg, bne_iff_ne, beq_iff_eq, ne_eq, decide_eq_true_eq, Bool.and_eq_true, Bool.or_eq_true, Bool.not_eq_true', decide_eq_false_iff_not, beq_eq_false_iff_ne, bne_eq_false_iff_eq, not_true_eq_false, not_false_eq_true, if_true, if_false, reduceIte, and_true, true_and, and_false, false_and, or_false, false_or, or_true, true_or, List.getD_cons_zero, List.getD_cons_succ, List.length_cons, List.length_nil, List.cons_append, List.nil_append, Nat.reduceAdd, Nat.reduceEqDiff, reduceCtorEq, Bool.not_true, Bool.not_false, Bool.true_and, Bool.and_true, Bool.false_and, Bool.and_false, Bool.or_true, Bool.true_or, Bool.or_false, Bool.false_or, Bool.false_eq_true, Bool.true_eq_false, int_n, bool_n, list_n, Sc.str_s, Int.reduceEq, Int.reduceLT, Int.reduceLE, Int.reduceNe, decide_true, decide_false, decide_not, eq_self, Classical.not_not, List.getElem?_cons_zero, List.getElem?_cons_succ, beq_self_eq_true, bne_self_eq_false]
  have r0 : rdyV st u v (til - less) = 0 := by
    unfold rdyV at f0 ⊢
    by_cases z : begV st u v = 0
    · rw [if_neg (fun h => h z)] at f0 ⊢
      split at f0
      · omega
      split at f0
      · omega
      · rw [if_neg (by omega), if_neg (by omega)]
    · rw [if_pos z] at f0; exact absurd f0 z
  obtain ⟨q, q1, q2, q3⟩ := crs_short st u v k p m til (til - less) n f1 (by omega) f3 f4 f5 1000 0 rfl (Nat.zero_le _)
  have dc : courseV st u v k p m (til - less) = (timesN st u v k p m q, 0) := by unfold courseV; rw [if_neg (fun h => h r0)]; exact q2
  rw [f2] at c
  rw [dc] at d
  refine longer_core x0 x1 x2 x3 st u v k p m til less _ _ n q c0 wl wt (times_len ..) (times_len ..) q1 f1 (times_take _ _ _ _ _ _ q1) (fun i hi h => ?_) sm c d
  have mo := sq_mono st u v k p m (q + 1) (i - q) (fun j j1 j2 => (f3 j (by omega)).1)
  rw [show q + 1 + (i - q) = i + 1 by omega] at mo
  have e : (timesN st u v k p m n)[i]'(by rw [times_len]; exact h) = (sqN st u v k p m (i + 1)).x := by simp [timesN]
  rw [e]; omega

namespace faultLonger
theorem own : ownKnob Try.prog.godebug = none := by kernel_rfl
theorem laidOut : laidOutB Try.prog = true := by kernel_rfl
set_option maxRecDepth 100000 in
theorem lifted (os : Os) (started : os.Started) (H : Type) (enc : TypeId × Value → H) :
    ReturnsInHanded {} Try.checked os 6 .any (Rows.faultLongerSpec.pre6 enc Try.prog Try.f6 Rows.faultLongerRow.domain false) (Rows.faultLongerSpec.post enc Try.prog Try.f6 false true false false) := by
  refine returnsInHanded_of_change (C := Try.checked) own started (by kernel_rfl) Try.func6
    (ChangeSpec.witness6 (enc := enc) (C := Try.checked) false ⟨#[], #[.agg #[.string ByteArray.empty, .int .i64 0, .slice none 0 0, .int .i64 0, .string ByteArray.empty, .int .i64 0, .int .i64 0, .int .i64 0, .int .i64 0, .slice none 0 0, .slice none 0 0, .int .i64 0, .int .i64 0, .int .i64 0, .int .i64 0, .slice none 0 0, .slice none 0 0], .agg #[.int .u64 0, .int .i64 0, .bool false], .int .i64 0, .int .u8 0], []⟩ 8 (by kernel_rfl) (by kernel_rfl) (by kernel_rfl) (by kernel_rfl)) ?_
  intro W base args ds gs before hval0 hW hcnd _
  have hval : ∀ (j : Nat) t v, Try.f6.params[j]? = some t → args[j]? = some v → Value.okWide Try.prog W .any base t v := hval0
  have hW' := hW
  obtain ⟨p, q, hA0, hV, rfl, hfz, hnd⟩ := hW
  have hA : DataW.TrodAll enc Try.prog W 0 (fun _ => true) true Try.f6.params.toList args.toList ds p := hA0
  rw [Try.params6] at hA hval
  obtain ⟨v0, vs0, d0, ds0, p0, q0, hargs, rfl, rfl, h0, r0⟩ := trodAll_cons hA
  obtain ⟨v1, vs1, d1, ds1, p1, q1, rfl, rfl, rfl, h1, r1⟩ := trodAll_cons r0
  obtain ⟨v2, vs2, d2, ds2, p2, q2, rfl, rfl, rfl, h2, r2⟩ := trodAll_cons r1
  obtain ⟨v3, vs3, d3, ds3, p3, q3, rfl, rfl, rfl, h3, r3⟩ := trodAll_cons r2
  obtain ⟨rfl, rfl, rfl⟩ := trodAll_nil r3
  obtain rfl : args = #[v0, v1, v2, v3] := by cases args; simp_all
  obtain ⟨rfl, rfl⟩ := trodVars_none hV
  have k0 := h0
  have lt0 : ∀ x ∈ p0, x.block < W.heap.size := by obtain ⟨m, hm⟩ := k0; exact DataW.trod_lt m _ _ _ hm
  have ok0 := hval 0 30 v0 rfl rfl
  have k1 := h1
  have lt1 : ∀ x ∈ p1, x.block < W.heap.size := by obtain ⟨m, hm⟩ := k1; exact DataW.trod_lt m _ _ _ hm
  have ok1 := hval 1 33 v1 rfl rfl
  have k2 := h2
  have lt2 : ∀ x ∈ p2, x.block < W.heap.size := by obtain ⟨m, hm⟩ := k2; exact DataW.trod_lt m _ _ _ hm
  have ok2 := hval 2 3 v2 rfl rfl
  have k3 := h3
  have lt3 : ∀ x ∈ p3, x.block < W.heap.size := by obtain ⟨m, hm⟩ := k3; exact DataW.trod_lt m _ _ _ hm
  have ok3 := hval 3 5 v3 rfl rfl
  obtain ⟨y0, f0, g0⟩ := open_s Try.underlying30 (ks := [.ck .str, .ck (.int .i64), .row 112 [.int .i64, .int .i64] true, .ck (.int .i64), .ck .str, .ck (.int .i64), .ck (.int .i64), .ck (.int .i64), .ck (.int .i64), .row 3 [.int .i64] false, .row 3 [.int .i64] false, .ck (.int .i64), .ck (.int .i64), .ck (.int .i64), .ck (.int .i64), .row 3 [.int .i64] false, .row 3 [.int .i64] false]) (by kernel_rfl) ok0 h0
  obtain ⟨x0, x1, x2, x3, st, u, v, rfl⟩ := open_decl f0
  obtain ⟨y1, f1, g1⟩ := open_g Try.underlying33 (ks := [.int .u64, .int .i64, .bool]) (by kernel_rfl) ok1 h1
  obtain ⟨k, p, m, rfl⟩ := open_stream f1
  obtain ⟨y2, ⟨til, rfl, ut⟩, g2⟩ := open_a (k := .int .i64) (by kernel_rfl) ok2 h2
  obtain ⟨y3, ⟨less, rfl, ul⟩, g3⟩ := open_a (k := .int .u8) (by kernel_rfl) ok3 h3
  clear hA0 hval0
  refine (law_call k_simulatorlaw25_FaultLonger (Try.call6 _ _) (vs := [v0, v1, v2, v3]) (args4 g0 g1 g2 g3) (longer_F x0 x1 x2 x3 st u v k p m til less (wf_i64 ut) (by obtain ⟨m, rfl, _⟩ := wf_u8 ul; omega)) rfl).mono fun e W' ⟨he, bel⟩ => ?_
  subst he
  exact ⟨_, rfl, _, _, _, [], _, [], hW', trodAll_mk1 (shut_bool Try.underlying4 _), (trodAll_cons_mk (Below.trod laidOut (by kernel_rfl) (of_decide_eq_true (by kernel_rfl)) k0 bel lt0) (trodAll_cons_mk (Below.trod laidOut (by kernel_rfl) (of_decide_eq_true (by kernel_rfl)) k1 bel lt1) (trodAll_cons_mk (Below.trod laidOut (by kernel_rfl) (of_decide_eq_true (by kernel_rfl)) k2 bel lt2) (trodAll_cons_mk (Below.trod laidOut (by kernel_rfl) (of_decide_eq_true (by kernel_rfl)) k3 bel lt3) trodAll_mk0)))), rfl, bel.frame _, fun h => by cases h⟩
theorem over : Rows.faultLongerRow.holds Try.pinned (OpenSpec.ofChange Rows.faultLongerSpec) :=
  OpenClaim.holds_of_wide 6 Try.f6 rfl rfl rfl rfl rfl rfl rfl ⟨rfl, rfl, rfl, rfl, rfl⟩ rfl rfl rfl rfl rfl (by kernel_rfl) Try.func6 (by kernel_rfl)
    (of_decide_eq_true (by kernel_rfl)) (by unfold Func.isWrapper; first | (rw [if_pos (by decide +kernel)]; kernel_rfl) | (rw [if_neg (by decide +kernel)]; exact ⟨rfl, rfl⟩))
    (fun os started H enc _ => lifted os started H enc)
theorem proved : Rows.FaultLongerSaid := over
end faultLonger

end Go.Proofs.Ytpmplppkjedpiaa
