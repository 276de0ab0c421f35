/-
  BatchShifts: if a number is added to all values, Variance and Lag stay, and Mean grows by this number. No condition.
-/
import Derived.Test.YtgekeolponbifaaRows
import Derived.Test.YtgekeolponbifaaOpnR
import Derived.Test.YtgekeolponbifaaA48
import Derived.Test.YtgekeolponbifaaM48b
import Derived.Test.YtgekeolponbifaaSam
import Derived.Test.YtgekeolponbifaaFlI
namespace Go.Proofs.Ytgekeolponbifaa
open Go.ChangeShapes Go.WideShapes Go.ChangeAt Go.RowKit
set_option linter.unusedSimpArgs false

theorem whole_pt (x : Int) : pt (x, 1) = .l [.i x, .i 1] := rfl
theorem sumI_shift48 (k : Int) : ∀ xs : List Int, sumI (xs.map (· + k)) = sumI xs + xs.length * k
  | [] => by simp [sumI]
  | y :: ys => by simp only [List.map_cons, sumI, sumI_shift48 k ys, List.length_cons]; grind
theorem wh_take (f : Int → Int) (xs : List Int) (j : Nat) (h : j < xs.length) : (wh ((xs.take (j + 1)).map f)).map pt = (wh ((xs.take j).map f)).map pt ++ [.l [.i (f xs[j]), .i 1]] := by
  unfold wh
  rw [List.take_add_one, List.getElem?_eq_getElem h, List.map_append, List.map_append, List.map_append]; rfl
theorem shifts48_F (xs : List Int) (k : Int) (hx : ∀ x ∈ xs, -32768 ≤ x ∧ x ≤ 32767) : k_simulatorlaw48_BatchShifts.F [.l (xs.map .i), .i k] = some [.b true] := by
  simp only [k_simulatorlaw48_BatchShifts_F, tk_simulatorlaw48_BatchShifts, k_batch_Mean_f, k_batch_Variance_f, k_batch_Lag_f, k_simulatorref02_Sub_f, k_simulatorlaw48_awake_f, awake48, List.length_map, Go.Proofs.Ytgekeolponbifaa.T.den, Ex.ev, U1.ev, U2.ev, U3.ev, gam, List.map, List.getD_cons_zero, List.getD_cons_succ, List.length, List.cons_append, List.nil_append, if_true, Sc.int_i, Sc.bool_b, Sc.list_l, Sc.str_s, Nat.reduceEqDiff, if_false, List.getElem?_cons_zero, List.getElem?_cons_succ]
  by_cases h1 : (xs.length : Int) < 2
  · simp only [h1, Int.natCast_nonneg, bne_iff_ne, beq_iff_eq, ne_eq, decide_eq_true_eq, Bool.and_eq_true, Bool.or_eq_true, Bool.not_eq_true', decide_eq_false_iff_not, beq_eq_false_iff_ne, bne_eq_false_iff_eq, not_true_eq_false, not_false_eq_true, if_true, if_false, reduceIte, and_true, true_and, and_false, false_and, or_false, false_or, or_true, true_or, List.getD_cons_zero, List.getD_cons_succ, List.length_cons, List.length_nil, List.cons_append, List.nil_append, Nat.reduceAdd, Nat.reduceEqDiff, reduceCtorEq, Bool.not_true, Bool.not_false, Bool.true_and, Bool.and_true, Bool.false_and, Bool.and_false, Bool.or_true, Bool.true_or, Bool.or_false, Bool.false_or, Bool.false_eq_true, Bool.true_eq_false, Sc.int_i, Sc.bool_b, Sc.list_l, Sc.str_s, Int.reduceEq, Int.reduceLT, Int.reduceLE, Int.reduceNe, decide_true, decide_false, decide_not, eq_self, Classical.not_not, List.getElem?_cons_zero, List.getElem?_cons_succ, beq_self_eq_true, bne_self_eq_false]
  by_cases h2 : (40 : Int) < xs.length
  · simp only [h1, h2, Int.natCast_nonneg, bne_iff_ne, beq_iff_eq, ne_eq, decide_eq_true_eq, Bool.and_eq_true, Bool.or_eq_true, Bool.not_eq_true', decide_eq_false_iff_not, beq_eq_false_iff_ne, bne_eq_false_iff_eq, not_true_eq_false, not_false_eq_true, if_true, if_false, reduceIte, and_true, true_and, and_false, false_and, or_false, false_or, or_true, true_or, List.getD_cons_zero, List.getD_cons_succ, List.length_cons, List.length_nil, List.cons_append, List.nil_append, Nat.reduceAdd, Nat.reduceEqDiff, reduceCtorEq, Bool.not_true, Bool.not_false, Bool.true_and, Bool.and_true, Bool.false_and, Bool.and_false, Bool.or_true, Bool.true_or, Bool.or_false, Bool.false_or, Bool.false_eq_true, Bool.true_eq_false, Sc.int_i, Sc.bool_b, Sc.list_l, Sc.str_s, Int.reduceEq, Int.reduceLT, Int.reduceLE, Int.reduceNe, decide_true, decide_false, decide_not, eq_self, Classical.not_not, List.getElem?_cons_zero, List.getElem?_cons_succ, beq_self_eq_true, bne_self_eq_false]
  by_cases h3 : k < -5000
  · simp only [h1, h2, h3, Int.natCast_nonneg, bne_iff_ne, beq_iff_eq, ne_eq, decide_eq_true_eq, Bool.and_eq_true, Bool.or_eq_true, Bool.not_eq_true', decide_eq_false_iff_not, beq_eq_false_iff_ne, bne_eq_false_iff_eq, not_true_eq_false, not_false_eq_true, if_true, if_false, reduceIte, and_true, true_and, and_false, false_and, or_false, false_or, or_true, true_or, List.getD_cons_zero, List.getD_cons_succ, List.length_cons, List.length_nil, List.cons_append, List.nil_append, Nat.reduceAdd, Nat.reduceEqDiff, reduceCtorEq, Bool.not_true, Bool.not_false, Bool.true_and, Bool.and_true, Bool.false_and, Bool.and_false, Bool.or_true, Bool.true_or, Bool.or_false, Bool.false_or, Bool.false_eq_true, Bool.true_eq_false, Sc.int_i, Sc.bool_b, Sc.list_l, Sc.str_s, Int.reduceEq, Int.reduceLT, Int.reduceLE, Int.reduceNe, decide_true, decide_false, decide_not, eq_self, Classical.not_not, List.getElem?_cons_zero, List.getElem?_cons_succ, beq_self_eq_true, bne_self_eq_false]
  by_cases h4 : 5000 < k
  · simp only [h1, h2, h3, h4, Int.natCast_nonneg, bne_iff_ne, beq_iff_eq, ne_eq, decide_eq_true_eq, Bool.and_eq_true, Bool.or_eq_true, Bool.not_eq_true', decide_eq_false_iff_not, beq_eq_false_iff_ne, bne_eq_false_iff_eq, not_true_eq_false, not_false_eq_true, if_true, if_false, reduceIte, and_true, true_and, and_false, false_and, or_false, false_or, or_true, true_or, List.getD_cons_zero, List.getD_cons_succ, List.length_cons, List.length_nil, List.cons_append, List.nil_append, Nat.reduceAdd, Nat.reduceEqDiff, reduceCtorEq, Bool.not_true, Bool.not_false, Bool.true_and, Bool.and_true, Bool.false_and, Bool.and_false, Bool.or_true, Bool.true_or, Bool.or_false, Bool.false_or, Bool.false_eq_true, Bool.true_eq_false, Sc.int_i, Sc.bool_b, Sc.list_l, Sc.str_s, Int.reduceEq, Int.reduceLT, Int.reduceLE, Int.reduceNe, decide_true, decide_false, decide_not, eq_self, Classical.not_not, List.getElem?_cons_zero, List.getElem?_cons_succ, beq_self_eq_true, bne_self_eq_false]
  simp only [h1, h2, h3, h4, Int.natCast_nonneg, bne_iff_ne, beq_iff_eq, ne_eq, decide_eq_true_eq, Bool.and_eq_true, Bool.or_eq_true, Bool.not_eq_true', decide_eq_false_iff_not, beq_eq_false_iff_ne, bne_eq_false_iff_eq, not_true_eq_false, not_false_eq_true, if_true, if_false, reduceIte, and_true, true_and, and_false, false_and, or_false, false_or, or_true, true_or, List.getD_cons_zero, List.getD_cons_succ, List.length_cons, List.length_nil, List.cons_append, List.nil_append, Nat.reduceAdd, Nat.reduceEqDiff, reduceCtorEq, Bool.not_true, Bool.not_false, Bool.true_and, Bool.and_true, Bool.false_and, Bool.and_false, Bool.or_true, Bool.true_or, Bool.or_false, Bool.false_or, Bool.false_eq_true, Bool.true_eq_false, Sc.int_i, Sc.bool_b, Sc.list_l, Sc.str_s, Int.reduceEq, Int.reduceLT, Int.reduceLE, Int.reduceNe, decide_true, decide_false, decide_not, eq_self, Classical.not_not, List.getElem?_cons_zero, List.getElem?_cons_succ, beq_self_eq_true, bne_self_eq_false]
  have conv : ([.l [], .l [], .i 0] : List Sc) = [.l ((wh (xs.take 0)).map pt), .l ((wh ((xs.take 0).map (· + k))).map pt), .i ((0 : Nat) : Int)] := by simp [wh]
  rw [conv]
  refine loop_rounds (S := Nat) (fun j => [.l ((wh (xs.take j)).map pt), .l ((wh ((xs.take j).map (· + k))).map pt), .i (j : Int)]) (fun _ => some [.b true]) (fun j => j ≤ xs.length) (fun j => xs.length - j) ?_ 0 (by omega) (by omega)
  intro j rec hj hrec
  by_cases hlt : j < xs.length
  · have hr := hrec (j + 1) (by omega) (by omega)
    have b := hx _ (List.getElem_mem hlt)
    have k1 : (j : Int) < xs.length := by omega
    have hi := idx_map Sc.i xs j hlt
    have w1 : IntKind.i64.wrap xs[j] = xs[j] := wrI (by omega) (by omega)
    have w2 : IntKind.i64.wrap (xs[j] + k) = xs[j] + k := wrI (by omega) (by omega)
    have hw := succ_w (n := xs.length) hlt (by omega)
    have e1 : (wh (xs.take (j + 1))).map pt = (wh (xs.take j)).map pt ++ [.l [.i xs[j], .i 1]] := by
      have := wh_take id xs j hlt
      rw [List.map_id, List.map_id] at this
      exact this
    have e2 : (wh ((xs.take (j + 1)).map (· + k))).map pt = (wh ((xs.take j).map (· + k))).map pt ++ [.l [.i (xs[j] + k), .i 1]] := by
      exact wh_take (· + k) xs j hlt
    rw [e1, e2] at hr
    have l1 : (((wh (xs.take j)).map pt ++ [Sc.l [.i xs[j], .i 1]]).length : Int) ≤ 8796093022208 := by simp [wh]; omega
    have l2 : (((wh ((xs.take j).map (· + k))).map pt ++ [Sc.l [.i (xs[j] + k), .i 1]]).length : Int) ≤ 8796093022208 := by simp [wh]; omega
    simp only [k1, hi, w1, w2, hw, l1, l2, hr, Int.natCast_nonneg, bne_iff_ne, beq_iff_eq, ne_eq, decide_eq_true_eq, Bool.and_eq_true, Bool.or_eq_true, Bool.not_eq_true', decide_eq_false_iff_not, beq_eq_false_iff_ne, bne_eq_false_iff_eq, not_true_eq_false, not_false_eq_true, if_true, if_false, reduceIte, and_true, true_and, and_false, false_and, or_false, false_or, or_true, true_or, List.getD_cons_zero, List.getD_cons_succ, List.length_cons, List.length_nil, List.cons_append, List.nil_append, Nat.reduceAdd, Nat.reduceEqDiff, reduceCtorEq, Bool.not_true, Bool.not_false, Bool.true_and, Bool.and_true, Bool.false_and, Bool.and_false, Bool.or_true, Bool.true_or, Bool.or_false, Bool.false_or, Bool.false_eq_true, Bool.true_eq_false, Sc.int_i, Sc.bool_b, Sc.list_l, Sc.str_s, Int.reduceEq, Int.reduceLT, Int.reduceLE, Int.reduceNe, decide_true, decide_false, decide_not, eq_self, Classical.not_not, List.getElem?_cons_zero, List.getElem?_cons_succ, beq_self_eq_true, bne_self_eq_false]
  · have ej : j = xs.length := by omega
    subst ej
    rw [List.take_length]
    have hxa : ∀ x ∈ xs, -40000 ≤ x ∧ x ≤ 40000 := fun x h => by have := hx x h; omega
    have hxb : ∀ x ∈ xs.map (· + k), -40000 ≤ x ∧ x ≤ 40000 := fun x h => by
      obtain ⟨y, hy, rfl⟩ := List.mem_map.1 h
      have := hx y hy; omega
    have lb : (xs.map (· + k)).length = xs.length := List.length_map ..
    have FPw : ∀ ys : List Int, (∀ y ∈ ys, -40000 ≤ y ∧ y ≤ 40000) → ∀ p ∈ wh ys, FP p := fun ys hy p hp => by
      obtain ⟨y, hm, rfl⟩ := List.mem_map.1 hp
      have := hy y hm
      exact ⟨⟨by simp only; omega, by simp only; omega⟩, ⟨by simp only; omega, by simp only; omega⟩⟩
    have wl : ∀ ys : List Int, (wh ys).length = ys.length := fun ys => by simp [wh]
    have m := fmean50_O (wh xs) (FPw _ hxa)
    have n := fmean50_O (wh (xs.map (· + k))) (FPw _ hxb)
    have mv : mean50O (wh xs) = some (Rat.divInt (sumI xs) xs.length) := by
      unfold mean50O; rw [wl, if_neg (by omega), meanO_int (by omega) (by omega) hxa]
    have nv : mean50O (wh (xs.map (· + k))) = some (Rat.divInt (sumI (xs.map (· + k))) xs.length) := by
      unfold mean50O; rw [wl, lb, if_neg (by omega), meanO_int (by omega) (by omega) hxb, lb]
    have v := fvar_O (wh xs) (FPw _ hxa)
    have w := fvar_O (wh (xs.map (· + k))) (FPw _ hxb)
    have g := flag_O (wh xs) (FPw _ hxa)
    have h := flag_O (wh (xs.map (· + k))) (FPw _ hxb)
    rw [varO_int (by omega) (by omega) hxa] at v
    rw [varO_int (by omega) (by omega) hxb, cI_shift, lb] at w
    rw [lagO_int (by omega) (by omega) hxa] at g
    rw [lagO_int (by omega) (by omega) hxb] at h
    have eg : lagI (xs.map (· + k)) = lagI xs := by unfold lagI; rw [cI_shift]
    rw [eg] at h
    have fm := mean50O_fit mv
    have fn := mean50O_fit nv
    rw [mv] at m
    rw [nv] at n
    have d := rsub_O (FP_pr fn) (FP_pr fm)
    rw [valP_pr fn, valP_pr fm] at d
    have hs := sumI_shift48 k xs
    have ed : Rat.divInt (sumI (xs.map (· + k))) xs.length - Rat.divInt (sumI xs) xs.length = (k : Rat) := by
      rw [divInt_sub_same, hs]
      have e0 : sumI xs + xs.length * k - sumI xs = xs.length * k := by omega
      rw [e0, Rat.divInt_eq_div, Rat.intCast_mul]
      have h0 : ((xs.length : Int) : Rat) ≠ 0 := fun e => by have := nat_pos_rat (n := xs.length) (by omega); rw [← nat_rat, e] at this; exact absurd this Rat.lt_irrefl
      grind
    simp only [subO] at d
    rw [ed, fitO_yes (whole_fit (by unfold maxN; omega))] at d
    simp only [enc, pr] at d m n v w g h
    have kn : (k : Rat).num = k := rfl
    have kd : ((k : Rat).den : Int) = 1 := rfl
    simp only [Int.lt_irrefl, m, n, d, kn, kd, v, w, g, h, Bool.and_self, Int.natCast_nonneg, bne_iff_ne, beq_iff_eq, ne_eq, decide_eq_true_eq, Bool.and_eq_true, Bool.or_eq_true, Bool.not_eq_true', decide_eq_false_iff_not, beq_eq_false_iff_ne, bne_eq_false_iff_eq, not_true_eq_false, not_false_eq_true, if_true, if_false, reduceIte, and_true, true_and, and_false, false_and, or_false, false_or, or_true, true_or, List.getD_cons_zero, List.getD_cons_succ, List.length_cons, List.length_nil, List.cons_append, List.nil_append, Nat.reduceAdd, Nat.reduceEqDiff, reduceCtorEq, Bool.not_true, Bool.not_false, Bool.true_and, Bool.and_true, Bool.false_and, Bool.and_false, Bool.or_true, Bool.true_or, Bool.or_false, Bool.false_or, Bool.false_eq_true, Bool.true_eq_false, Sc.int_i, Sc.bool_b, Sc.list_l, Sc.str_s, Int.reduceEq, Int.reduceLT, Int.reduceLE, Int.reduceNe, decide_true, decide_false, decide_not, eq_self, Classical.not_not, List.getElem?_cons_zero, List.getElem?_cons_succ, beq_self_eq_true, bne_self_eq_false]

namespace batchShifts
theorem own : ownKnob Try.prog.godebug = none := by kernel_rfl
theorem laidOut : laidOutB Try.prog = true := by kernel_rfl
set_option maxRecDepth 100000 in
theorem lifted (os : Os) (started : os.Started) (H : Type) (enc : TypeId × Value → H) :
    ReturnsInHanded {} Try.checked os 8 .any (Rows.batchShiftsSpec.pre6 enc Try.prog Try.f8 Rows.batchShiftsRow.domain false) (Rows.batchShiftsSpec.post enc Try.prog Try.f8 false true false false) := by
  refine returnsInHanded_of_change (C := Try.checked) own started (by kernel_rfl) Try.func8
    (ChangeSpec.witness6 (enc := enc) (C := Try.checked) false ⟨#[], #[.slice none 0 0, .int .i64 0], []⟩ 8 (by kernel_rfl) (by kernel_rfl) (by kernel_rfl) (by kernel_rfl)) ?_
  intro W base args ds gs before hval0 hW hcnd _
  have hval : ∀ (j : Nat) t v, Try.f8.params[j]? = some t → args[j]? = some v → Value.okWide Try.prog W .any base t v := hval0
  have hW' := hW
  obtain ⟨p, q, hA0, hV, rfl, hfz, hnd⟩ := hW
  have hA : DataW.TrodAll enc Try.prog W 0 (fun _ => true) true Try.f8.params.toList args.toList ds p := hA0
  rw [Try.params8] at hA hval
  obtain ⟨v0, vs0, d0, ds0, p0, q0, hargs, rfl, rfl, h0, r0⟩ := trodAll_cons hA
  obtain ⟨v1, vs1, d1, ds1, p1, q1, rfl, rfl, rfl, h1, r1⟩ := trodAll_cons r0
  obtain ⟨rfl, rfl, rfl⟩ := trodAll_nil r1
  obtain rfl : args = #[v0, v1] := by cases args; simp_all
  obtain ⟨rfl, rfl⟩ := trodVars_none hV
  have k0 := h0
  have lt0 : ∀ x ∈ p0, x.block < W.heap.size := by obtain ⟨m, hm⟩ := k0; exact DataW.trod_lt m _ _ _ hm
  have ok0 := hval 0 39 v0 rfl rfl
  have k1 := h1
  have lt1 : ∀ x ∈ p1, x.block < W.heap.size := by obtain ⟨m, hm⟩ := k1; exact DataW.trod_lt m _ _ _ hm
  have ok1 := hval 1 3 v1 rfl rfl
  obtain ⟨xs, i0, _, g0⟩ := open_ints (k := .i16) Try.underlying39 (by kernel_rfl) (by kernel_rfl) ok0 h0
  obtain ⟨y1, ⟨n, rfl, _⟩, g1⟩ := open_a (k := .int .i64) (by kernel_rfl) ok1 h1
  clear hA0 hval0
  refine (law_call k_simulatorlaw48_BatchShifts (Try.call8 _ _) (vs := [v0, v1]) (args2 g0 g1) (shifts48_F xs n (fun x hx => wf_i16 (i0 x hx))) rfl).mono fun e W' ⟨he, bel⟩ => ?_
  subst he
  exact ⟨_, rfl, _, _, _, [], _, [], hW', trodAll_mk1 (shut_bool Try.underlying4 _), (trodAll_cons_mk (Below.trod laidOut (by kernel_rfl) (of_decide_eq_true (by kernel_rfl)) k0 bel lt0) (trodAll_cons_mk (Below.trod laidOut (by kernel_rfl) (of_decide_eq_true (by kernel_rfl)) k1 bel lt1) trodAll_mk0)), rfl, bel.frame _, fun h => by cases h⟩
theorem over : Rows.batchShiftsRow.holds Try.pinned (OpenSpec.ofChange Rows.batchShiftsSpec) :=
  OpenClaim.holds_of_wide 8 Try.f8 rfl rfl rfl rfl rfl rfl rfl ⟨rfl, rfl, rfl, rfl, rfl⟩ rfl rfl rfl rfl rfl (by kernel_rfl) Try.func8 (by kernel_rfl)
    (of_decide_eq_true (by kernel_rfl)) (by unfold Func.isWrapper; first | (rw [if_pos (by decide +kernel)]; kernel_rfl) | (rw [if_neg (by decide +kernel)]; exact ⟨rfl, rfl⟩))
    (fun os started H enc _ => lifted os started H enc)
theorem proved : Rows.BatchShiftsSaid := over
end batchShifts

end Go.Proofs.Ytgekeolponbifaa
