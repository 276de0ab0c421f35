/-
  PairsMirrors: if the responses of each pair add up to the same number, their averages are equal. No condition.
-/
import Derived.Test.YtpmmmkdccbdkfaaRows
import Derived.Test.YtpmmmkdccbdkfaaOpnR
import Derived.Test.YtpmmmkdccbdkfaaA50
import Derived.Test.YtpmmmkdccbdkfaaM50
namespace Go.Proofs.Ytpmmmkdccbdkfaa
open Go.ChangeShapes Go.WideShapes Go.ChangeAt Go.RowKit
set_option linter.unusedSimpArgs false

theorem mir_all {ps : List (Int × Int)} {s : Int × Int} {bs : List Rat} (h : tryM (fun p => subO (valP s) (valP p)) ps = some bs) (h0 : ps ≠ []) :
    ∃ x, valP s = some x ∧ ∀ z ∈ ps.zip (bs.map pr), avgZ z = divO (some x) (some 2) := by
  obtain ⟨p, ps', rfl⟩ : ∃ p l, ps = p :: l := by cases ps with | nil => exact absurd rfl h0 | cons p l => exact ⟨p, l, rfl⟩
  have hl := tryM_len h
  have g0 := tryM_get h 0 (by simp) (by simp at hl; omega)
  obtain ⟨x, _, hx, _, _⟩ := subO_some g0
  refine ⟨x, hx, fun z hz => ?_⟩
  obtain ⟨i, hi, rfl⟩ := List.getElem_of_mem hz
  rw [List.length_zip, List.length_map] at hi
  have g := tryM_get h i (by omega) (by omega)
  rw [List.getElem_zip, List.getElem_map]
  have fb := subO_fit g
  obtain ⟨x', y, hx', hy, e⟩ := subO_some g
  rw [hx] at hx'; cases hx'
  unfold avgZ
  simp only
  rw [hy, valP_pr fb]
  have e2 : y + bs[i] = x := by rw [e]; grind
  simp only [addO, e2, fitO_yes (valP_some hx).2]
theorem mirrors_F (ps : List (Int × Int)) (s : Int × Int) (hp : ∀ p ∈ ps, FP p) (hs : FP s) : k_simulatorlaw50_PairsMirrors.F [.l (ps.map pt), .i s.1, .i s.2] = some [.b true] := by
  simp only [k_simulatorlaw50_PairsMirrors_F, tk_simulatorlaw50_PairsMirrors, k_pairs_Averages_f, k_frac_Sub_f, k_frac_Div_f, k_simulatorlaw50_awake_f, awake50, List.length_map, Go.Proofs.Ytpmmmkdccbdkfaa.T.den, Ex.ev, U1.ev, U2.ev, U3.ev, gam, List.map, List.getD_cons_zero, List.getD_cons_succ, List.length, List.cons_append, List.nil_append, if_true, Sc.int_i, Sc.bool_b, Sc.list_l, Sc.str_s, Nat.reduceEqDiff, if_false, List.getElem?_cons_zero, List.getElem?_cons_succ]
  by_cases h1 : (60 : Int) < ps.length
  · simp only [h1, Int.natCast_nonneg, bne_iff_ne, beq_iff_eq, ne_eq, decide_eq_true_eq, Bool.and_eq_true, Bool.or_eq_true, Bool.not_eq_true', decide_eq_false_iff_not, beq_eq_false_iff_ne, bne_eq_false_iff_eq, not_true_eq_false, not_false_eq_true, if_true, if_false, reduceIte, and_true, true_and, and_false, false_and, or_false, false_or, or_true, true_or, List.getD_cons_zero, List.getD_cons_succ, List.length_cons, List.length_nil, List.cons_append, List.nil_append, Nat.reduceAdd, Nat.reduceEqDiff, reduceCtorEq, Bool.not_true, Bool.not_false, Bool.true_and, Bool.and_true, Bool.false_and, Bool.and_false, Bool.or_true, Bool.true_or, Bool.or_false, Bool.false_or, Bool.false_eq_true, Bool.true_eq_false, Sc.int_i, Sc.bool_b, Sc.list_l, Sc.str_s, Int.reduceEq, Int.reduceLT, Int.reduceLE, Int.reduceNe, decide_true, decide_false, decide_not, eq_self, Classical.not_not, List.getElem?_cons_zero, List.getElem?_cons_succ, beq_self_eq_true, bne_self_eq_false]
  simp only [h1, Int.natCast_nonneg, bne_iff_ne, beq_iff_eq, ne_eq, decide_eq_true_eq, Bool.and_eq_true, Bool.or_eq_true, Bool.not_eq_true', decide_eq_false_iff_not, beq_eq_false_iff_ne, bne_eq_false_iff_eq, not_true_eq_false, not_false_eq_true, if_true, if_false, reduceIte, and_true, true_and, and_false, false_and, or_false, false_or, or_true, true_or, List.getD_cons_zero, List.getD_cons_succ, List.length_cons, List.length_nil, List.cons_append, List.nil_append, Nat.reduceAdd, Nat.reduceEqDiff, reduceCtorEq, Bool.not_true, Bool.not_false, Bool.true_and, Bool.and_true, Bool.false_and, Bool.and_false, Bool.or_true, Bool.true_or, Bool.or_false, Bool.false_or, Bool.false_eq_true, Bool.true_eq_false, Sc.int_i, Sc.bool_b, Sc.list_l, Sc.str_s, Int.reduceEq, Int.reduceLT, Int.reduceLE, Int.reduceNe, decide_true, decide_false, decide_not, eq_self, Classical.not_not, List.getElem?_cons_zero, List.getElem?_cons_succ, beq_self_eq_true, bne_self_eq_false]
  refine (rat_loop ps (fun p => subO (valP s) (valP p)) (some [.b true]) (fun _ => some [.b true]) (by omega) ?_ ?_ ?_).trans (by split <;> rfl)
  · intro k rec out q h ho e
    have hi := idx_map pt ps k h
    have hk : (k : Int) < ps.length := by omega
    have hw := succ_w (n := ps.length) h (by omega)
    have a := fsub_O hs (hp _ (List.getElem_mem h))
    rw [e] at a
    simp only [enc] at a
    have sn := snoc_le (x := Sc.l [.i q.num, .i q.den]) ho h (by omega)
    simp only [hi, hk, hw, pt, a, sn, Int.natCast_nonneg, bne_iff_ne, beq_iff_eq, ne_eq, decide_eq_true_eq, Bool.and_eq_true, Bool.or_eq_true, Bool.not_eq_true', decide_eq_false_iff_not, beq_eq_false_iff_ne, bne_eq_false_iff_eq, not_true_eq_false, not_false_eq_true, if_true, if_false, reduceIte, and_true, true_and, and_false, false_and, or_false, false_or, or_true, true_or, List.getD_cons_zero, List.getD_cons_succ, List.length_cons, List.length_nil, List.cons_append, List.nil_append, Nat.reduceAdd, Nat.reduceEqDiff, reduceCtorEq, Bool.not_true, Bool.not_false, Bool.true_and, Bool.and_true, Bool.false_and, Bool.and_false, Bool.or_true, Bool.true_or, Bool.or_false, Bool.false_or, Bool.false_eq_true, Bool.true_eq_false, Sc.int_i, Sc.bool_b, Sc.list_l, Sc.str_s, Int.reduceEq, Int.reduceLT, Int.reduceLE, Int.reduceNe, decide_true, decide_false, decide_not, eq_self, Classical.not_not, List.getElem?_cons_zero, List.getElem?_cons_succ, beq_self_eq_true, bne_self_eq_false]
  · intro k rec out h e
    have hi := idx_map pt ps k h
    have hk : (k : Int) < ps.length := by omega
    have a := fsub_O hs (hp _ (List.getElem_mem h))
    rw [e] at a
    simp only [enc] at a
    simp only [hi, hk, pt, a, Int.natCast_nonneg, bne_iff_ne, beq_iff_eq, ne_eq, decide_eq_true_eq, Bool.and_eq_true, Bool.or_eq_true, Bool.not_eq_true', decide_eq_false_iff_not, beq_eq_false_iff_ne, bne_eq_false_iff_eq, not_true_eq_false, not_false_eq_true, if_true, if_false, reduceIte, and_true, true_and, and_false, false_and, or_false, false_or, or_true, true_or, List.getD_cons_zero, List.getD_cons_succ, List.length_cons, List.length_nil, List.cons_append, List.nil_append, Nat.reduceAdd, Nat.reduceEqDiff, reduceCtorEq, Bool.not_true, Bool.not_false, Bool.true_and, Bool.and_true, Bool.false_and, Bool.and_false, Bool.or_true, Bool.true_or, Bool.or_false, Bool.false_or, Bool.false_eq_true, Bool.true_eq_false, Sc.int_i, Sc.bool_b, Sc.list_l, Sc.str_s, Int.reduceEq, Int.reduceLT, Int.reduceLE, Int.reduceNe, decide_true, decide_false, decide_not, eq_self, Classical.not_not, List.getElem?_cons_zero, List.getElem?_cons_succ, beq_self_eq_true, bne_self_eq_false]
  · intro rec bs hb
    have hl := tryM_len hb
    have m := favgs_O ps (bs.map pr) hp (fun p hp => by
      obtain ⟨q, hq, rfl⟩ := List.mem_map.1 hp
      obtain ⟨i, hi, rfl⟩ := List.getElem_of_mem hq
      exact FP_pr (subO_fit (tryM_get hb i (by omega) hi))) (by omega)
    rw [both_in (by rw [List.length_map]; omega), ← map_pt_pr] at m
    have dv := fdiv_O hs (FP_pr two_fit)
    rw [valP_pr two_fit, two_pr] at dv
    by_cases h0 : ps = []
    · subst h0
      have eb : bs = [] := by simpa using hl
      subst eb
      simp only [List.map_nil, List.zip_nil_left, tryM] at m
      obtain ⟨a, b, c, e⟩ := enc_form (divO (valP s) (some 2))
      rw [e] at dv
      simp only at dv
      cases c
      · simp only [List.map_nil, Int.lt_irrefl, m, dv, Int.natCast_zero, Int.natCast_nonneg, bne_iff_ne, beq_iff_eq, ne_eq, decide_eq_true_eq, Bool.and_eq_true, Bool.or_eq_true, Bool.not_eq_true', decide_eq_false_iff_not, beq_eq_false_iff_ne, bne_eq_false_iff_eq, not_true_eq_false, not_false_eq_true, if_true, if_false, reduceIte, and_true, true_and, and_false, false_and, or_false, false_or, or_true, true_or, List.getD_cons_zero, List.getD_cons_succ, List.length_cons, List.length_nil, List.cons_append, List.nil_append, Nat.reduceAdd, Nat.reduceEqDiff, reduceCtorEq, Bool.not_true, Bool.not_false, Bool.true_and, Bool.and_true, Bool.false_and, Bool.and_false, Bool.or_true, Bool.true_or, Bool.or_false, Bool.false_or, Bool.false_eq_true, Bool.true_eq_false, Sc.int_i, Sc.bool_b, Sc.list_l, Sc.str_s, Int.reduceEq, Int.reduceLT, Int.reduceLE, Int.reduceNe, decide_true, decide_false, decide_not, eq_self, Classical.not_not, List.getElem?_cons_zero, List.getElem?_cons_succ, beq_self_eq_true, bne_self_eq_false]
      · simp only [List.map_nil, Int.lt_irrefl, m, dv, Int.natCast_zero, Int.natCast_nonneg, bne_iff_ne, beq_iff_eq, ne_eq, decide_eq_true_eq, Bool.and_eq_true, Bool.or_eq_true, Bool.not_eq_true', decide_eq_false_iff_not, beq_eq_false_iff_ne, bne_eq_false_iff_eq, not_true_eq_false, not_false_eq_true, if_true, if_false, reduceIte, and_true, true_and, and_false, false_and, or_false, false_or, or_true, true_or, List.getD_cons_zero, List.getD_cons_succ, List.length_cons, List.length_nil, List.cons_append, List.nil_append, Nat.reduceAdd, Nat.reduceEqDiff, reduceCtorEq, Bool.not_true, Bool.not_false, Bool.true_and, Bool.and_true, Bool.false_and, Bool.and_false, Bool.or_true, Bool.true_or, Bool.or_false, Bool.false_or, Bool.false_eq_true, Bool.true_eq_false, Sc.int_i, Sc.bool_b, Sc.list_l, Sc.str_s, Int.reduceEq, Int.reduceLT, Int.reduceLE, Int.reduceNe, decide_true, decide_false, decide_not, eq_self, Classical.not_not, List.getElem?_cons_zero, List.getElem?_cons_succ, beq_self_eq_true, bne_self_eq_false]
        refine loop_rounds (S := Unit) (fun j => [.i 0]) (fun _ => some [.b true]) (fun j => True) (fun j => 0) ?_ () trivial (by omega)
        intro _ rec _ _
        simp only [Int.lt_irrefl, Int.natCast_zero, Int.natCast_nonneg, bne_iff_ne, beq_iff_eq, ne_eq, decide_eq_true_eq, Bool.and_eq_true, Bool.or_eq_true, Bool.not_eq_true', decide_eq_false_iff_not, beq_eq_false_iff_ne, bne_eq_false_iff_eq, not_true_eq_false, not_false_eq_true, if_true, if_false, reduceIte, and_true, true_and, and_false, false_and, or_false, false_or, or_true, true_or, List.getD_cons_zero, List.getD_cons_succ, List.length_cons, List.length_nil, List.cons_append, List.nil_append, Nat.reduceAdd, Nat.reduceEqDiff, reduceCtorEq, Bool.not_true, Bool.not_false, Bool.true_and, Bool.and_true, Bool.false_and, Bool.and_false, Bool.or_true, Bool.true_or, Bool.or_false, Bool.false_or, Bool.false_eq_true, Bool.true_eq_false, Sc.int_i, Sc.bool_b, Sc.list_l, Sc.str_s, Int.reduceEq, Int.reduceLT, Int.reduceLE, Int.reduceNe, decide_true, decide_false, decide_not, eq_self, Classical.not_not, List.getElem?_cons_zero, List.getElem?_cons_succ, beq_self_eq_true, bne_self_eq_false]
    · obtain ⟨x, hx, hall⟩ := mir_all hb h0
      rw [hx] at dv
      have hpos : 0 < ps.length := List.length_pos_iff.2 h0
      have hz0 : ¬ (ps.length : Int) = 0 := by omega
      cases hd : divO (some x) (some 2) with
      | none =>
        have : tryM avgZ (ps.zip (bs.map pr)) = none := by
          have hz : 0 < (ps.zip (bs.map pr)).length := by rw [List.length_zip, List.length_map]; omega
          exact tryM_none (List.getElem_mem hz) (by rw [hall _ (List.getElem_mem hz), hd])
        rw [this] at m
        rw [hd] at dv
        simp only [enc] at m dv
        have b2 : ((ps.length : Int) == 0) = false := by simp [h0]
        have b3 : ((2 : Int) == 0) = false := rfl
        simp only [Int.lt_irrefl, m, dv, b2, b3, Int.natCast_nonneg, bne_iff_ne, beq_iff_eq, ne_eq, decide_eq_true_eq, Bool.and_eq_true, Bool.or_eq_true, Bool.not_eq_true', decide_eq_false_iff_not, beq_eq_false_iff_ne, bne_eq_false_iff_eq, not_true_eq_false, not_false_eq_true, if_true, if_false, reduceIte, and_true, true_and, and_false, false_and, or_false, false_or, or_true, true_or, List.getD_cons_zero, List.getD_cons_succ, List.length_cons, List.length_nil, List.cons_append, List.nil_append, Nat.reduceAdd, Nat.reduceEqDiff, reduceCtorEq, Bool.not_true, Bool.not_false, Bool.true_and, Bool.and_true, Bool.false_and, Bool.and_false, Bool.or_true, Bool.true_or, Bool.or_false, Bool.false_or, Bool.false_eq_true, Bool.true_eq_false, Sc.int_i, Sc.bool_b, Sc.list_l, Sc.str_s, Int.reduceEq, Int.reduceLT, Int.reduceLE, Int.reduceNe, decide_true, decide_false, decide_not, eq_self, Classical.not_not, List.getElem?_cons_zero, List.getElem?_cons_succ, beq_self_eq_true, bne_self_eq_false]
      | some y =>
        have : tryM avgZ (ps.zip (bs.map pr)) = some ((ps.zip (bs.map pr)).map fun _ => y) := tryM_all fun z hz => by rw [hall z hz, hd]
        rw [this] at m
        rw [hd] at dv
        simp only [enc, List.map_map] at m dv
        have em : List.map ((fun q => pt (pr q)) ∘ fun _ => y) (ps.zip (bs.map pr)) = (ps.zip (bs.map pr)).map fun _ => pt (pr y) := rfl
        rw [em] at m
        have lz : (ps.zip (bs.map pr)).length = ps.length := by rw [List.length_zip, List.length_map]; omega
        generalize ps.zip (bs.map pr) = zs at *
        simp only [Int.lt_irrefl, m, dv, hz0, List.length_map, lz, Int.natCast_nonneg, bne_iff_ne, beq_iff_eq, ne_eq, decide_eq_true_eq, Bool.and_eq_true, Bool.or_eq_true, Bool.not_eq_true', decide_eq_false_iff_not, beq_eq_false_iff_ne, bne_eq_false_iff_eq, not_true_eq_false, not_false_eq_true, if_true, if_false, reduceIte, and_true, true_and, and_false, false_and, or_false, false_or, or_true, true_or, List.getD_cons_zero, List.getD_cons_succ, List.length_cons, List.length_nil, List.cons_append, List.nil_append, Nat.reduceAdd, Nat.reduceEqDiff, reduceCtorEq, Bool.not_true, Bool.not_false, Bool.true_and, Bool.and_true, Bool.false_and, Bool.and_false, Bool.or_true, Bool.true_or, Bool.or_false, Bool.false_or, Bool.false_eq_true, Bool.true_eq_false, Sc.int_i, Sc.bool_b, Sc.list_l, Sc.str_s, Int.reduceEq, Int.reduceLT, Int.reduceLE, Int.reduceNe, decide_true, decide_false, decide_not, eq_self, Classical.not_not, List.getElem?_cons_zero, List.getElem?_cons_succ, beq_self_eq_true, bne_self_eq_false]
        refine loop_rounds (S := Nat) (fun j => [.i (j : Int)]) (fun _ => some [.b true]) (fun j => j ≤ ps.length) (fun j => ps.length - j) ?_ 0 (by omega) (by omega)
        intro j rec hj hrec
        by_cases h : j < ps.length
        · have hr := hrec (j + 1) (by omega) (by omega)
          have k0 : (j : Int) < ps.length := by omega
          have i1 : (zs.map fun _ => pt (pr y)).getD ((j : Int)).toNat (.i 0) = .l [.i y.num, .i y.den] := idx_map (fun _ => pt (pr y)) zs j (by omega)
          have w2 := succ_w (n := ps.length) (k := j) (by omega) (by omega)
          simp only [k0, i1, w2, hr, Bool.and_self, Int.natCast_nonneg, bne_iff_ne, beq_iff_eq, ne_eq, decide_eq_true_eq, Bool.and_eq_true, Bool.or_eq_true, Bool.not_eq_true', decide_eq_false_iff_not, beq_eq_false_iff_ne, bne_eq_false_iff_eq, not_true_eq_false, not_false_eq_true, if_true, if_false, reduceIte, and_true, true_and, and_false, false_and, or_false, false_or, or_true, true_or, List.getD_cons_zero, List.getD_cons_succ, List.length_cons, List.length_nil, List.cons_append, List.nil_append, Nat.reduceAdd, Nat.reduceEqDiff, reduceCtorEq, Bool.not_true, Bool.not_false, Bool.true_and, Bool.and_true, Bool.false_and, Bool.and_false, Bool.or_true, Bool.true_or, Bool.or_false, Bool.false_or, Bool.false_eq_true, Bool.true_eq_false, Sc.int_i, Sc.bool_b, Sc.list_l, Sc.str_s, Int.reduceEq, Int.reduceLT, Int.reduceLE, Int.reduceNe, decide_true, decide_false, decide_not, eq_self, Classical.not_not, List.getElem?_cons_zero, List.getElem?_cons_succ, beq_self_eq_true, bne_self_eq_false]
        · have k0 : ¬ (j : Int) < ps.length := by omega
          simp only [k0, Int.natCast_nonneg, bne_iff_ne, beq_iff_eq, ne_eq, decide_eq_true_eq, Bool.and_eq_true, Bool.or_eq_true, Bool.not_eq_true', decide_eq_false_iff_not, beq_eq_false_iff_ne, bne_eq_false_iff_eq, not_true_eq_false, not_false_eq_true, if_true, if_false, reduceIte, and_true, true_and, and_false, false_and, or_false, false_or, or_true, true_or, List.getD_cons_zero, List.getD_cons_succ, List.length_cons, List.length_nil, List.cons_append, List.nil_append, Nat.reduceAdd, Nat.reduceEqDiff, reduceCtorEq, Bool.not_true, Bool.not_false, Bool.true_and, Bool.and_true, Bool.false_and, Bool.and_false, Bool.or_true, Bool.true_or, Bool.or_false, Bool.false_or, Bool.false_eq_true, Bool.true_eq_false, Sc.int_i, Sc.bool_b, Sc.list_l, Sc.str_s, Int.reduceEq, Int.reduceLT, Int.reduceLE, Int.reduceNe, decide_true, decide_false, decide_not, eq_self, Classical.not_not, List.getElem?_cons_zero, List.getElem?_cons_succ, beq_self_eq_true, bne_self_eq_false]

namespace pairsMirrors
theorem own : ownKnob Try.prog.godebug = none := by kernel_rfl
theorem laidOut : laidOutB Try.prog = true := by kernel_rfl
set_option maxRecDepth 100000 in
theorem lifted (os : Os) (started : os.Started) (H : Type) (enc : TypeId × Value → H) :
    ReturnsInHanded {} Try.checked os 6 .any (Rows.pairsMirrorsSpec.pre6 enc Try.prog Try.f6 Rows.pairsMirrorsRow.domain false) (Rows.pairsMirrorsSpec.post enc Try.prog Try.f6 false true false false) := by
  refine returnsInHanded_of_change (C := Try.checked) own started (by kernel_rfl) Try.func6
    (ChangeSpec.witness6 (enc := enc) (C := Try.checked) false ⟨#[], #[.slice none 0 0, .agg #[.int .i64 0, .int .i64 0]], []⟩ 8 (by kernel_rfl) (by kernel_rfl) (by kernel_rfl) (by kernel_rfl)) ?_
  intro W base args ds gs before hval0 hW hcnd _
  have hval : ∀ (j : Nat) t v, Try.f6.params[j]? = some t → args[j]? = some v → Value.okWide Try.prog W .any base t v := hval0
  have hW' := hW
  obtain ⟨p, q, hA0, hV, rfl, hfz, hnd⟩ := hW
  have hA : DataW.TrodAll enc Try.prog W 0 (fun _ => true) true Try.f6.params.toList args.toList ds p := hA0
  rw [Try.params6] at hA hval
  obtain ⟨v0, vs0, d0, ds0, p0, q0, hargs, rfl, rfl, h0, r0⟩ := trodAll_cons hA
  obtain ⟨v1, vs1, d1, ds1, p1, q1, rfl, rfl, rfl, h1, r1⟩ := trodAll_cons r0
  obtain ⟨rfl, rfl, rfl⟩ := trodAll_nil r1
  obtain rfl : args = #[v0, v1] := by cases args; simp_all
  obtain ⟨rfl, rfl⟩ := trodVars_none hV
  have k0 := h0
  have lt0 : ∀ x ∈ p0, x.block < W.heap.size := by obtain ⟨m, hm⟩ := k0; exact DataW.trod_lt m _ _ _ hm
  have ok0 := hval 0 22 v0 rfl rfl
  have k1 := h1
  have lt1 : ∀ x ∈ p1, x.block < W.heap.size := by obtain ⟨m, hm⟩ := k1; exact DataW.trod_lt m _ _ _ hm
  have ok1 := hval 1 28 v1 rfl rfl
  obtain ⟨ps, i0, _, g0⟩ := open_pairs Try.underlying22 (by kernel_rfl) (by kernel_rfl) ok0 h0
  obtain ⟨ys1, f1, g1⟩ := open_g (ks := [.int .i64, .int .i64]) Try.underlying28 (by kernel_rfl) ok1 h1
  obtain ⟨n, r1, rfl, w1, f1⟩ := fitsL_int f1
  obtain ⟨m, r2, rfl, w2, f1⟩ := fitsL_int f1
  obtain rfl := fitsL_nil f1
  clear hA0 hval0
  refine (law_call k_simulatorlaw50_PairsMirrors (Try.call6 _ _) (vs := [v0, v1]) (args2 g0 g1) (mirrors_F ps (n, m) i0 ⟨wf_i64 w1, wf_i64 w2⟩) rfl).mono fun e W' ⟨he, bel⟩ => ?_
  subst he
  exact ⟨_, rfl, _, _, _, [], _, [], hW', trodAll_mk1 (shut_bool Try.underlying4 _), (trodAll_cons_mk (Below.trod laidOut (by kernel_rfl) (of_decide_eq_true (by kernel_rfl)) k0 bel lt0) (trodAll_cons_mk (Below.trod laidOut (by kernel_rfl) (of_decide_eq_true (by kernel_rfl)) k1 bel lt1) trodAll_mk0)), rfl, bel.frame _, fun h => by cases h⟩
theorem over : Rows.pairsMirrorsRow.holds Try.pinned (OpenSpec.ofChange Rows.pairsMirrorsSpec) :=
  OpenClaim.holds_of_wide 6 Try.f6 rfl rfl rfl rfl rfl rfl rfl ⟨rfl, rfl, rfl, rfl, rfl⟩ rfl rfl rfl rfl rfl (by kernel_rfl) Try.func6 (by kernel_rfl)
    (of_decide_eq_true (by kernel_rfl)) (by unfold Func.isWrapper; first | (rw [if_pos (by decide +kernel)]; kernel_rfl) | (rw [if_neg (by decide +kernel)]; exact ⟨rfl, rfl⟩))
    (fun os started H enc _ => lifted os started H enc)
theorem proved : Rows.PairsMirrorsSaid := over
end pairsMirrors

end Go.Proofs.Ytpmmmkdccbdkfaa
