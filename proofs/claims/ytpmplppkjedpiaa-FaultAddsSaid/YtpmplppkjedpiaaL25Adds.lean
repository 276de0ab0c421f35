/-
  FaultAdds: uptimes of adjacent spans add up. No condition. 
-/
import Derived.Test.YtpmplppkjedpiaaRows
import Derived.Test.YtpmplppkjedpiaaOpnR
import Derived.Test.YtpmplppkjedpiaaA25
import Derived.Test.YtpmplppkjedpiaaM25
namespace Go.Proofs.Ytpmplppkjedpiaa
open Go.ChangeShapes Go.WideShapes Go.ChangeAt Go.RowKit
set_option linter.unusedSimpArgs false

theorem int_n (z : Int) : (Sc.i z).int = z := id rfl
theorem bool_n (z : Bool) : (Sc.b z).bool = z := id rfl
theorem list_n (z : List Sc) : (Sc.l z).list = z := id rfl
theorem args4 {w : World} {ok : Nat → Prop} {s s1 s2 s3 : CS} {v v1 v2 v3 : Value} {l l1 l2 l3 : List Sc} (h : csRel w ok s v l) (h1 : csRel w ok s1 v1 l1) (h2 : csRel w ok s2 v2 l2) (h3 : csRel w ok s3 v3 l3) : csRelL w ok [s, s1, s2, s3] [v, v1, v2, v3] (l ++ (l1 ++ (l2 ++ l3))) := ⟨l, l1 ++ (l2 ++ l3), rfl, h, args3 h1 h2 h3⟩
def lb1 (i : Nat) (b : Int) : Int := if i = 0 then 1 else b + 1
theorem adds_F (xs : List Int) (lo a b : Int) (hx : ∀ x ∈ xs, -9223372036854775808 ≤ x ∧ x < 9223372036854775808) (ha : 0 ≤ a ∧ a ≤ 65535) (hb : 0 ≤ b ∧ b ≤ 65535) : k_simulatorlaw25_FaultAdds.F [.l (xs.map .i), .i lo, .i a, .i b] = some [.b true] := by
  simp only [k_simulatorlaw25_FaultAdds_F, tk_simulatorlaw25_FaultAdds, k_fault_Uptime_f, k_simulatorlaw25_awake_f, awake25, List.length_map, Go.Proofs.Ytpmplppkjedpiaa.T.den, Ex.ev, U1.ev, U2.ev, U3.ev, gam, List.map, List.getD_cons_zero, List.getD_cons_succ, List.length, List.cons_append, List.nil_append, if_true, int_n, bool_n, list_n, Sc.str_s, Nat.reduceEqDiff, if_false, List.getElem?_cons_zero, List.getElem?_cons_succ]
  by_cases h1 : (300 : Int) < xs.length
  · simp only [h1, Int.natCast_nonneg, bne_iff_ne, beq_iff_eq, ne_eq, decide_eq_true_eq, Bool.and_eq_true, Bool.or_eq_true, Bool.not_eq_true', decide_eq_false_iff_not, beq_eq_false_iff_ne, bne_eq_false_iff_eq, not_true_eq_false, not_false_eq_true, if_true, if_false, reduceIte, and_true, true_and, and_false, false_and, or_false, false_or, or_true, true_or, List.getD_cons_zero, List.getD_cons_succ, List.length_cons, List.length_nil, List.cons_append, List.nil_append, Nat.reduceAdd, Nat.reduceEqDiff, reduceCtorEq, Bool.not_true, Bool.not_false, Bool.true_and, Bool.and_true, Bool.false_and, Bool.and_false, Bool.or_true, Bool.true_or, Bool.or_false, Bool.false_or, Bool.false_eq_true, Bool.true_eq_false, int_n, bool_n, list_n, Sc.str_s, Int.reduceEq, Int.reduceLT, Int.reduceLE, Int.reduceNe, decide_true, decide_false, decide_not, eq_self, Classical.not_not, List.getElem?_cons_zero, List.getElem?_cons_succ, beq_self_eq_true, bne_self_eq_false]
  by_cases h2 : lo < 0
  · simp only [h1, h2, Int.natCast_nonneg, bne_iff_ne, beq_iff_eq, ne_eq, decide_eq_true_eq, Bool.and_eq_true, Bool.or_eq_true, Bool.not_eq_true', decide_eq_false_iff_not, beq_eq_false_iff_ne, bne_eq_false_iff_eq, not_true_eq_false, not_false_eq_true, if_true, if_false, reduceIte, and_true, true_and, and_false, false_and, or_false, false_or, or_true, true_or, List.getD_cons_zero, List.getD_cons_succ, List.length_cons, List.length_nil, List.cons_append, List.nil_append, Nat.reduceAdd, Nat.reduceEqDiff, reduceCtorEq, Bool.not_true, Bool.not_false, Bool.true_and, Bool.and_true, Bool.false_and, Bool.and_false, Bool.or_true, Bool.true_or, Bool.or_false, Bool.false_or, Bool.false_eq_true, Bool.true_eq_false, int_n, bool_n, list_n, Sc.str_s, Int.reduceEq, Int.reduceLT, Int.reduceLE, Int.reduceNe, decide_true, decide_false, decide_not, eq_self, Classical.not_not, List.getElem?_cons_zero, List.getElem?_cons_succ, beq_self_eq_true, bne_self_eq_false]
  by_cases h3 : 1000000000 < lo
  · simp only [h1, h2, h3, Int.natCast_nonneg, bne_iff_ne, beq_iff_eq, ne_eq, decide_eq_true_eq, Bool.and_eq_true, Bool.or_eq_true, Bool.not_eq_true', decide_eq_false_iff_not, beq_eq_false_iff_ne, bne_eq_false_iff_eq, not_true_eq_false, not_false_eq_true, if_true, if_false, reduceIte, and_true, true_and, and_false, false_and, or_false, false_or, or_true, true_or, List.getD_cons_zero, List.getD_cons_succ, List.length_cons, List.length_nil, List.cons_append, List.nil_append, Nat.reduceAdd, Nat.reduceEqDiff, reduceCtorEq, Bool.not_true, Bool.not_false, Bool.true_and, Bool.and_true, Bool.false_and, Bool.and_false, Bool.or_true, Bool.true_or, Bool.or_false, Bool.false_or, Bool.false_eq_true, Bool.true_eq_false, int_n, bool_n, list_n, Sc.str_s, Int.reduceEq, Int.reduceLT, Int.reduceLE, Int.reduceNe, decide_true, decide_false, decide_not, eq_self, Classical.not_not, List.getElem?_cons_zero, List.getElem?_cons_succ, beq_self_eq_true, bne_self_eq_false]
  have wa : IntKind.i64.wrap a = a := wrJ (by omega) (by omega)
  have wb : IntKind.i64.wrap b = b := wrJ (by omega) (by omega)
  have w1 : IntKind.i64.wrap (lo + a) = lo + a := wrJ (by omega) (by omega)
  have w2 : IntKind.i64.wrap (lo + a + b) = lo + a + b := wrJ (by omega) (by omega)
  by_cases h4 : 1000000000 < lo + a + b
  · simp only [h1, h2, h3, wa, wb, w1, w2, h4, Int.natCast_nonneg, bne_iff_ne, beq_iff_eq, ne_eq, decide_eq_true_eq, Bool.and_eq_true, Bool.or_eq_true, Bool.not_eq_true', decide_eq_false_iff_not, beq_eq_false_iff_ne, bne_eq_false_iff_eq, not_true_eq_false, not_false_eq_true, if_true, if_false, reduceIte, and_true, true_and, and_false, false_and, or_false, false_or, or_true, true_or, List.getD_cons_zero, List.getD_cons_succ, List.length_cons, List.length_nil, List.cons_append, List.nil_append, Nat.reduceAdd, Nat.reduceEqDiff, reduceCtorEq, Bool.not_true, Bool.not_false, Bool.true_and, Bool.and_true, Bool.false_and, Bool.and_false, Bool.or_true, Bool.true_or, Bool.or_false, Bool.false_or, Bool.false_eq_true, Bool.true_eq_false, int_n, bool_n, list_n, Sc.str_s, Int.reduceEq, Int.reduceLT, Int.reduceLE, Int.reduceNe, decide_true, decide_false, decide_not, eq_self, Classical.not_not, List.getElem?_cons_zero, List.getElem?_cons_succ, beq_self_eq_true, bne_self_eq_false]
  simp only [h1, h2, h3, wa, wb, w1, w2, h4, Int.natCast_nonneg, bne_iff_ne, beq_iff_eq, ne_eq, decide_eq_true_eq, Bool.and_eq_true, Bool.or_eq_true, Bool.not_eq_true', decide_eq_false_iff_not, beq_eq_false_iff_ne, bne_eq_false_iff_eq, not_true_eq_false, not_false_eq_true, if_true, if_false, reduceIte, and_true, true_and, and_false, false_and, or_false, false_or, or_true, true_or, List.getD_cons_zero, List.getD_cons_succ, List.length_cons, List.length_nil, List.cons_append, List.nil_append, Nat.reduceAdd, Nat.reduceEqDiff, reduceCtorEq, Bool.not_true, Bool.not_false, Bool.true_and, Bool.and_true, Bool.false_and, Bool.and_false, Bool.or_true, Bool.true_or, Bool.or_false, Bool.false_or, Bool.false_eq_true, Bool.true_eq_false, int_n, bool_n, list_n, Sc.str_s, Int.reduceEq, Int.reduceLT, Int.reduceLE, Int.reduceNe, decide_true, decide_false, decide_not, eq_self, Classical.not_not, List.getElem?_cons_zero, List.getElem?_cons_succ, beq_self_eq_true, bne_self_eq_false]
  refine loop_rounds (S := Nat × Int) (fun s => [.i (s.1 : Int)]) (fun _ => some [.b true])
    (fun s => s.1 ≤ xs.length ∧ 0 ≤ s.2 ∧ (0 < s.1 → xs[s.1 - 1]? = some s.2) ∧ (grows (lb1 s.1 s.2) (xs.drop s.1) = true → grows 1 xs = true)) (fun s => xs.length - s.1) ?_ (0, 0) ⟨by simp only; omega, by simp only; omega, by simp only; omega, fun h => h⟩ (by simp only; omega)
  rintro ⟨i, b0⟩ rec ⟨i1, i4, i6, i7⟩ hrec
  simp only at i1 i4 i6 i7 ⊢
  by_cases hlt : i < xs.length
  · have k1 : (i : Int) < xs.length := by omega
    have hix := idx_map Sc.i xs i hlt
    have hw := succ_w (n := xs.length) hlt (by omega)
    have ed : xs.drop i = xs[i] :: xs.drop (i + 1) := List.drop_eq_getElem_cons hlt
    rw [ed] at i7
    have hq : xs[i]? = some xs[i] := List.getElem?_eq_getElem hlt
    generalize xs[i] = x at *
    have u := uptime_F xs lo lo (by omega) hx
    rw [upV_same] at u
    by_cases c1 : x < 1
    · simp only [k1, hix, c1, u, Int.natCast_nonneg, bne_iff_ne, beq_iff_eq, ne_eq, decide_eq_true_eq, Bool.and_eq_true, Bool.or_eq_true, Bool.not_eq_true', decide_eq_false_iff_not, beq_eq_false_iff_ne, bne_eq_false_iff_eq, not_true_eq_false, not_false_eq_true, if_true, if_false, reduceIte, and_true, true_and, and_false, false_and, or_false, false_or, or_true, true_or, List.getD_cons_zero, List.getD_cons_succ, List.length_cons, List.length_nil, List.cons_append, List.nil_append, Nat.reduceAdd, Nat.reduceEqDiff, reduceCtorEq, Bool.not_true, Bool.not_false, Bool.true_and, Bool.and_true, Bool.false_and, Bool.and_false, Bool.or_true, Bool.true_or, Bool.or_false, Bool.false_or, Bool.false_eq_true, Bool.true_eq_false, int_n, bool_n, list_n, Sc.str_s, Int.reduceEq, Int.reduceLT, Int.reduceLE, Int.reduceNe, decide_true, decide_false, decide_not, eq_self, Classical.not_not, List.getElem?_cons_zero, List.getElem?_cons_succ, beq_self_eq_true, bne_self_eq_false]
    by_cases c2 : (0 : Int) < i
    · have w0 : IntKind.i64.wrap ((i : Int) - 1) = ((i - 1 : Nat) : Int) := by rw [wrJ (by omega) (by omega)]; omega
      have k2 : ((i - 1 : Nat) : Int) < xs.length := by omega
      have hp : (xs.map Sc.i).getD (((i - 1 : Nat) : Int)).toNat (.i 0) = .i b0 := by
        rw [Int.toNat_natCast, List.getD_eq_getElem?_getD, List.getElem?_map, i6 (by omega)]; rfl
      have elb : lb1 i b0 = b0 + 1 := by unfold lb1; rw [if_neg (by omega)]
      by_cases c3 : x ≤ b0
      · simp only [k1, hix, c1, c2, w0, k2, hp, c3, u, Int.natCast_nonneg, bne_iff_ne, beq_iff_eq, ne_eq, decide_eq_true_eq, Bool.and_eq_true, Bool.or_eq_true, Bool.not_eq_true', decide_eq_false_iff_not, beq_eq_false_iff_ne, bne_eq_false_iff_eq, not_true_eq_false, not_false_eq_true, if_true, if_false, reduceIte, and_true, true_and, and_false, false_and, or_false, false_or, or_true, true_or, List.getD_cons_zero, List.getD_cons_succ, List.length_cons, List.length_nil, List.cons_append, List.nil_append, Nat.reduceAdd, Nat.reduceEqDiff, reduceCtorEq, Bool.not_true, Bool.not_false, Bool.true_and, Bool.and_true, Bool.false_and, Bool.and_false, Bool.or_true, Bool.true_or, Bool.or_false, Bool.false_or, Bool.false_eq_true, Bool.true_eq_false, int_n, bool_n, list_n, Sc.str_s, Int.reduceEq, Int.reduceLT, Int.reduceLE, Int.reduceNe, decide_true, decide_false, decide_not, eq_self, Classical.not_not, List.getElem?_cons_zero, List.getElem?_cons_succ, beq_self_eq_true, bne_self_eq_false]
      · have hr := hrec (i + 1, x) ⟨by simp only; omega, by simp only; omega, fun _ => hq, fun g => i7 (by
          have e1 : lb1 (i + 1) x = x + 1 := by unfold lb1; rw [if_neg (by omega)]
          simp only [e1] at g
          simp only [grows, g, Bool.and_true, decide_eq_true_eq]; omega)⟩ (by simp only; omega)
        simp only at hr
        simp only [k1, hix, c1, c2, w0, k2, hp, c3, hw, hr, Int.natCast_nonneg, bne_iff_ne, beq_iff_eq, ne_eq, decide_eq_true_eq, Bool.and_eq_true, Bool.or_eq_true, Bool.not_eq_true', decide_eq_false_iff_not, beq_eq_false_iff_ne, bne_eq_false_iff_eq, not_true_eq_false, not_false_eq_true, if_true, if_false, reduceIte, and_true, true_and, and_false, false_and, or_false, false_or, or_true, true_or, List.getD_cons_zero, List.getD_cons_succ, List.length_cons, List.length_nil, List.cons_append, List.nil_append, Nat.reduceAdd, Nat.reduceEqDiff, reduceCtorEq, Bool.not_true, Bool.not_false, Bool.true_and, Bool.and_true, Bool.false_and, Bool.and_false, Bool.or_true, Bool.true_or, Bool.or_false, Bool.false_or, Bool.false_eq_true, Bool.true_eq_false, int_n, bool_n, list_n, Sc.str_s, Int.reduceEq, Int.reduceLT, Int.reduceLE, Int.reduceNe, decide_true, decide_false, decide_not, eq_self, Classical.not_not, List.getElem?_cons_zero, List.getElem?_cons_succ, beq_self_eq_true, bne_self_eq_false]
    · have elb : lb1 i b0 = 1 := by unfold lb1; rw [if_pos (by omega)]
      have hr := hrec (i + 1, x) ⟨by simp only; omega, by simp only; omega, fun _ => hq, fun g => i7 (by
        have e1 : lb1 (i + 1) x = x + 1 := by unfold lb1; rw [if_neg (by omega)]
        simp only [e1] at g
        simp only [grows, g, Bool.and_true, decide_eq_true_eq]; omega)⟩ (by simp only; omega)
      simp only at hr
      simp only [k1, hix, c1, c2, hw, hr, Int.natCast_nonneg, bne_iff_ne, beq_iff_eq, ne_eq, decide_eq_true_eq, Bool.and_eq_true, Bool.or_eq_true, Bool.not_eq_true', decide_eq_false_iff_not, beq_eq_false_iff_ne, bne_eq_false_iff_eq, not_true_eq_false, not_false_eq_true, if_true, if_false, reduceIte, and_true, true_and, and_false, false_and, or_false, false_or, or_true, true_or, List.getD_cons_zero, List.getD_cons_succ, List.length_cons, List.length_nil, List.cons_append, List.nil_append, Nat.reduceAdd, Nat.reduceEqDiff, reduceCtorEq, Bool.not_true, Bool.not_false, Bool.true_and, Bool.and_true, Bool.false_and, Bool.and_false, Bool.or_true, Bool.true_or, Bool.or_false, Bool.false_or, Bool.false_eq_true, Bool.true_eq_false, int_n, bool_n, list_n, Sc.str_s, Int.reduceEq, Int.reduceLT, Int.reduceLE, Int.reduceNe, decide_true, decide_false, decide_not, eq_self, Classical.not_not, List.getElem?_cons_zero, List.getElem?_cons_succ, beq_self_eq_true, bne_self_eq_false]
  · have k1 : ¬ (i : Int) < xs.length := by omega
    have ed : xs.drop i = [] := List.drop_eq_nil_of_le (by omega)
    rw [ed] at i7
    have g1 := i7 rfl
    have g0 : grows 0 xs = true := grows_mono (by omega) g1
    have gz : grows 0 (0 :: xs) = true := by simp only [grows]; exact g1
    have A := uptime_F xs lo (lo + a + b) (by omega) hx
    have B := uptime_F xs lo (lo + a) (by omega) hx
    have C := uptime_F xs (lo + a) (lo + a + b) (by omega) hx
    have E : k_fault_Uptime.F [.l (Sc.i 0 :: xs.map .i), .i lo, .i (lo + a + b)] = some [.i (upV (0 :: xs) lo (lo + a + b))] := uptime_F (0 :: xs) lo (lo + a + b) (by rw [List.length_cons]; omega) (fun x h => by
      rcases List.mem_cons.1 h with rfl | h
      · omega
      · exact hx x h)
    rw [upV_in (by omega) (by omega) (by omega) g0] at A B C
    rw [upV_in (by omega) (by omega) (by omega) gz] at E
    have ad := upS_add (lo := lo) (mid := lo + a) (hi := lo + a + b) (by omega) (by omega) xs 0 true g0
    have bo := upS_both (lo := lo) (hi := lo + a + b) (by omega) xs 0 g0
    have n1 := upS_nn (lo := lo) (hi := lo + a + b) (by omega) (by omega) xs 0 true
    have n2 := upS_nn (lo := lo) (hi := lo + a + b) (by omega) (by omega) xs 0 false
    have ez : upS lo (lo + a + b) (0 :: xs) 0 true = upS lo (lo + a + b) xs 0 false := by
      have e : shr 0 0 lo (lo + a + b) = 0 := by unfold shr; omega
      simp only [upS, if_true, e, Bool.not_true, Int.zero_add]
    rw [ez] at E
    generalize upS lo (lo + a + b) xs 0 true = X at *
    generalize upS lo (lo + a + b) xs 0 false = Y at *
    generalize upS lo (lo + a) xs 0 true = Z at *
    generalize upS (lo + a) (lo + a + b) xs 0 true = W at *
    have w3 : IntKind.i64.wrap (Z + W) = X := by rw [ad]; exact wrJ (by omega) (by omega)
    have w4 : IntKind.i64.wrap (X + Y) = a + b := by rw [wrJ (by omega) (by omega)]; omega
    have w5 : IntKind.i64.wrap (lo + a + b - lo) = a + b := by rw [wrJ (by omega) (by omega)]; omega
    have l5 : ((xs.length + 1 : Nat) : Int) ≤ 17592186044416 := by omega
    simp only [k1, A, B, C, E, l5, w3, w4, w5, List.length_map, Int.natCast_nonneg, bne_iff_ne, beq_iff_eq, ne_eq, decide_eq_true_eq, Bool.and_eq_true, Bool.or_eq_true, Bool.not_eq_true', decide_eq_false_iff_not, beq_eq_false_iff_ne, bne_eq_false_iff_eq, not_true_eq_false, not_false_eq_true, if_true, if_false, reduceIte, and_true, true_and, and_false, false_and, or_false, false_or, or_true, true_or, List.getD_cons_zero, List.getD_cons_succ, List.length_cons, List.length_nil, List.cons_append, List.nil_append, Nat.reduceAdd, Nat.reduceEqDiff, reduceCtorEq, Bool.not_true, Bool.not_false, Bool.true_and, Bool.and_true, Bool.false_and, Bool.and_false, Bool.or_true, Bool.true_or, Bool.or_false, Bool.false_or, Bool.false_eq_true, Bool.true_eq_false, int_n, bool_n, list_n, Sc.str_s, Int.reduceEq, Int.reduceLT, Int.reduceLE, Int.reduceNe, decide_true, decide_false, decide_not, eq_self, Classical.not_not, List.getElem?_cons_zero, List.getElem?_cons_succ, beq_self_eq_true, bne_self_eq_false]

namespace faultAdds
theorem own : ownKnob Try.prog.godebug = none := by kernel_rfl
theorem laidOut : laidOutB Try.prog = true := by kernel_rfl
set_option maxRecDepth 100000 in
theorem lifted (os : Os) (started : os.Started) (H : Type) (enc : TypeId × Value → H) :
    ReturnsInHanded {} Try.checked os 8 .any (Rows.faultAddsSpec.pre6 enc Try.prog Try.f8 Rows.faultAddsRow.domain false) (Rows.faultAddsSpec.post enc Try.prog Try.f8 false true false false) := by
  refine returnsInHanded_of_change (C := Try.checked) own started (by kernel_rfl) Try.func8
    (ChangeSpec.witness6 (enc := enc) (C := Try.checked) false ⟨#[], #[.slice none 0 0, .int .i64 0, .int .u16 0, .int .u16 0], []⟩ 8 (by kernel_rfl) (by kernel_rfl) (by kernel_rfl) (by kernel_rfl)) ?_
  intro W base args ds gs before hval0 hW hcnd _
  have hval : ∀ (j : Nat) t v, Try.f8.params[j]? = some t → args[j]? = some v → Value.okWide Try.prog W .any base t v := hval0
  have hW' := hW
  obtain ⟨p, q, hA0, hV, rfl, hfz, hnd⟩ := hW
  have hA : DataW.TrodAll enc Try.prog W 0 (fun _ => true) true Try.f8.params.toList args.toList ds p := hA0
  rw [Try.params8] at hA hval
  obtain ⟨v0, vs0, d0, ds0, p0, q0, hargs, rfl, rfl, h0, r0⟩ := trodAll_cons hA
  obtain ⟨v1, vs1, d1, ds1, p1, q1, rfl, rfl, rfl, h1, r1⟩ := trodAll_cons r0
  obtain ⟨v2, vs2, d2, ds2, p2, q2, rfl, rfl, rfl, h2, r2⟩ := trodAll_cons r1
  obtain ⟨v3, vs3, d3, ds3, p3, q3, rfl, rfl, rfl, h3, r3⟩ := trodAll_cons r2
  obtain ⟨rfl, rfl, rfl⟩ := trodAll_nil r3
  obtain rfl : args = #[v0, v1, v2, v3] := by cases args; simp_all
  obtain ⟨rfl, rfl⟩ := trodVars_none hV
  have k0 := h0
  have lt0 : ∀ x ∈ p0, x.block < W.heap.size := by obtain ⟨m, hm⟩ := k0; exact DataW.trod_lt m _ _ _ hm
  have ok0 := hval 0 24 v0 rfl rfl
  have k1 := h1
  have lt1 : ∀ x ∈ p1, x.block < W.heap.size := by obtain ⟨m, hm⟩ := k1; exact DataW.trod_lt m _ _ _ hm
  have ok1 := hval 1 3 v1 rfl rfl
  have k2 := h2
  have lt2 : ∀ x ∈ p2, x.block < W.heap.size := by obtain ⟨m, hm⟩ := k2; exact DataW.trod_lt m _ _ _ hm
  have ok2 := hval 2 47 v2 rfl rfl
  have k3 := h3
  have lt3 : ∀ x ∈ p3, x.block < W.heap.size := by obtain ⟨m, hm⟩ := k3; exact DataW.trod_lt m _ _ _ hm
  have ok3 := hval 3 47 v3 rfl rfl
  obtain ⟨xs, i0, _, g0⟩ := open_ints (k := .i64) Try.underlying24 (by kernel_rfl) (by kernel_rfl) ok0 h0
  obtain ⟨y1, ⟨n1, rfl, _⟩, g1⟩ := open_a (k := .int .i64) (by kernel_rfl) ok1 h1
  obtain ⟨y2, ⟨n2, rfl, u2⟩, g2⟩ := open_a (k := .int .u16) (by kernel_rfl) ok2 h2
  obtain ⟨y3, ⟨n3, rfl, u3⟩, g3⟩ := open_a (k := .int .u16) (by kernel_rfl) ok3 h3
  clear hA0 hval0
  refine (law_call k_simulatorlaw25_FaultAdds (Try.call8 _ _) (vs := [v0, v1, v2, v3]) (args4 g0 g1 g2 g3) (adds_F xs n1 n2 n3 (fun x h => wf_i64 (i0 x h)) (by obtain ⟨m, rfl, _⟩ := wf_u16 u2; omega) (by obtain ⟨m, rfl, _⟩ := wf_u16 u3; omega)) rfl).mono fun e W' ⟨he, bel⟩ => ?_
  subst he
  exact ⟨_, rfl, _, _, _, [], _, [], hW', trodAll_mk1 (shut_bool Try.underlying4 _), (trodAll_cons_mk (Below.trod laidOut (by kernel_rfl) (of_decide_eq_true (by kernel_rfl)) k0 bel lt0) (trodAll_cons_mk (Below.trod laidOut (by kernel_rfl) (of_decide_eq_true (by kernel_rfl)) k1 bel lt1) (trodAll_cons_mk (Below.trod laidOut (by kernel_rfl) (of_decide_eq_true (by kernel_rfl)) k2 bel lt2) (trodAll_cons_mk (Below.trod laidOut (by kernel_rfl) (of_decide_eq_true (by kernel_rfl)) k3 bel lt3) trodAll_mk0)))), rfl, bel.frame _, fun h => by cases h⟩
theorem over : Rows.faultAddsRow.holds Try.pinned (OpenSpec.ofChange Rows.faultAddsSpec) :=
  OpenClaim.holds_of_wide 8 Try.f8 rfl rfl rfl rfl rfl rfl rfl ⟨rfl, rfl, rfl, rfl, rfl⟩ rfl rfl rfl rfl rfl (by kernel_rfl) Try.func8 (by kernel_rfl)
    (of_decide_eq_true (by kernel_rfl)) (by unfold Func.isWrapper; first | (rw [if_pos (by decide +kernel)]; kernel_rfl) | (rw [if_neg (by decide +kernel)]; exact ⟨rfl, rfl⟩))
    (fun os started H enc _ => lifted os started H enc)
theorem proved : Rows.FaultAddsSaid := over
end faultAdds

end Go.Proofs.Ytpmplppkjedpiaa
