/-
  PairsBack: a difference added to the second response is the first one, if the sum exists; averages do not depend on the order, and the average of equal responses is the response. No condition.
-/
import Derived.Test.YtpmmmkdccbdkfaaRows
import Derived.Test.YtpmmmkdccbdkfaaOpnR
import Derived.Test.YtpmmmkdccbdkfaaA50
import Derived.Test.YtpmmmkdccbdkfaaM50
namespace Go.Proofs.Ytpmmmkdccbdkfaa
open Go.ChangeShapes Go.WideShapes Go.ChangeAt Go.RowKit
set_option linter.unusedSimpArgs false

theorem addO_comm (a b : Option Rat) : addO a b = addO b a := by
  cases a <;> cases b <;> simp only [addO]
  rw [Rat.add_comm]
theorem tryM_swap (f : (Int × Int) × (Int × Int) → Option Rat) (hf : ∀ x y, f (x, y) = f (y, x)) : ∀ ps qs : List (Int × Int), tryM f (ps.zip qs) = tryM f (qs.zip ps)
  | [], [] => rfl
  | [], _ :: _ => rfl
  | _ :: _, [] => rfl
  | p :: ps, q :: qs => by simp only [List.zip_cons_cons, tryM, hf p q, tryM_swap f hf ps qs]
theorem both_swap (f : (Int × Int) × (Int × Int) → Option Rat) (hf : ∀ x y, f (x, y) = f (y, x)) (ps qs : List (Int × Int)) : bothL f ps qs = bothL f qs ps := by
  unfold bothL
  rw [tryM_swap f hf ps qs]
  by_cases h : ps.length = qs.length
  · rw [if_pos h, if_pos h.symm]
  · rw [if_neg h, if_neg (fun e => h e.symm)]
theorem avg_self {p : Int × Int} {q : Rat} (h : avgZ (p, p) = some q) : p = pr q := by
  unfold avgZ at h
  obtain ⟨x, y, h1, h2, h3, h4⟩ := divO_some h
  obtain ⟨u, v, h5, h6, h7⟩ := addO_some h1
  simp only at h5 h6
  rw [h5] at h6
  cases h6; cases h2
  have e : q = u := by rw [h4, h7]; grind
  rw [e]
  exact (valP_some h5).1
theorem avgs_self (ps : List (Int × Int)) : bothL avgZ ps ps = [.l [], .i 2] ∨ bothL avgZ ps ps = [.l (ps.map pt), .i 0] := by
  rw [both_in rfl]
  cases h : tryM avgZ (ps.zip ps) with
  | none => exact .inl rfl
  | some ds =>
    refine .inr ?_
    have hl := tryM_len h
    rw [List.length_zip, Nat.min_self] at hl
    have e : (ds.map fun q => pt (pr q)) = ps.map pt := by
      refine List.ext_getElem (by simp [hl]) fun i h1 h2 => ?_
      rw [List.length_map] at h1 h2
      have g := tryM_get h i (by rw [List.length_zip]; omega) h1
      rw [List.getElem_zip] at g
      rw [List.getElem_map, List.getElem_map, avg_self g]
    simp only [e]
theorem back_one {p q : Int × Int} {d : Rat} (h : subZ (p, q) = some d) : addO (some d) (valP q) = valP p := by
  unfold subZ at h
  obtain ⟨x, y, h1, h2, h3⟩ := subO_some h
  simp only at h1 h2
  rw [h2, h1]
  have e : d + y = x := by rw [h3]; grind
  simp only [addO, e]
  exact fitO_yes (valP_some h1).2
theorem back_F (ps qs : List (Int × Int)) (hp : ∀ p ∈ ps, FP p) (hq : ∀ p ∈ qs, FP p) : k_simulatorlaw50_PairsBack.F [.l (ps.map pt), .l (qs.map pt)] = some [.b true] := by
  simp only [k_simulatorlaw50_PairsBack_F, tk_simulatorlaw50_PairsBack, k_pairs_Differences_f, k_pairs_Averages_f, k_frac_Add_f, k_simulatorref50_Same_f, k_simulatorlaw50_awake_f, awake50, List.length_map, Go.Proofs.Ytpmmmkdccbdkfaa.T.den, Ex.ev, U1.ev, U2.ev, U3.ev, gam, List.map, List.getD_cons_zero, List.getD_cons_succ, List.length, List.cons_append, List.nil_append, if_true, Sc.int_i, Sc.bool_b, Sc.list_l, Sc.str_s, Nat.reduceEqDiff, if_false, List.getElem?_cons_zero, List.getElem?_cons_succ]
  by_cases h1 : (60 : Int) < ps.length
  · simp only [h1, Int.natCast_nonneg, bne_iff_ne, beq_iff_eq, ne_eq, decide_eq_true_eq, Bool.and_eq_true, Bool.or_eq_true, Bool.not_eq_true', decide_eq_false_iff_not, beq_eq_false_iff_ne, bne_eq_false_iff_eq, not_true_eq_false, not_false_eq_true, if_true, if_false, reduceIte, and_true, true_and, and_false, false_and, or_false, false_or, or_true, true_or, List.getD_cons_zero, List.getD_cons_succ, List.length_cons, List.length_nil, List.cons_append, List.nil_append, Nat.reduceAdd, Nat.reduceEqDiff, reduceCtorEq, Bool.not_true, Bool.not_false, Bool.true_and, Bool.and_true, Bool.false_and, Bool.and_false, Bool.or_true, Bool.true_or, Bool.or_false, Bool.false_or, Bool.false_eq_true, Bool.true_eq_false, Sc.int_i, Sc.bool_b, Sc.list_l, Sc.str_s, Int.reduceEq, Int.reduceLT, Int.reduceLE, Int.reduceNe, decide_true, decide_false, decide_not, eq_self, Classical.not_not, List.getElem?_cons_zero, List.getElem?_cons_succ, beq_self_eq_true, bne_self_eq_false]
  by_cases h2 : (60 : Int) < qs.length
  · simp only [h1, h2, Int.natCast_nonneg, bne_iff_ne, beq_iff_eq, ne_eq, decide_eq_true_eq, Bool.and_eq_true, Bool.or_eq_true, Bool.not_eq_true', decide_eq_false_iff_not, beq_eq_false_iff_ne, bne_eq_false_iff_eq, not_true_eq_false, not_false_eq_true, if_true, if_false, reduceIte, and_true, true_and, and_false, false_and, or_false, false_or, or_true, true_or, List.getD_cons_zero, List.getD_cons_succ, List.length_cons, List.length_nil, List.cons_append, List.nil_append, Nat.reduceAdd, Nat.reduceEqDiff, reduceCtorEq, Bool.not_true, Bool.not_false, Bool.true_and, Bool.and_true, Bool.false_and, Bool.and_false, Bool.or_true, Bool.true_or, Bool.or_false, Bool.false_or, Bool.false_eq_true, Bool.true_eq_false, Sc.int_i, Sc.bool_b, Sc.list_l, Sc.str_s, Int.reduceEq, Int.reduceLT, Int.reduceLE, Int.reduceNe, decide_true, decide_false, decide_not, eq_self, Classical.not_not, List.getElem?_cons_zero, List.getElem?_cons_succ, beq_self_eq_true, bne_self_eq_false]
  have d := fdiff_O ps qs hp hq (by omega)
  have m := favgs_O ps qs hp hq (by omega)
  have n := favgs_O qs ps hq hp (by omega)
  have w := favgs_O ps ps hp hp (by omega)
  rw [both_swap avgZ (fun x y => by unfold avgZ; rw [addO_comm]) qs ps] at n
  obtain ⟨M, f, e2, l2⟩ : ∃ L e, bothL avgZ ps qs = [.l L, .i e] ∧ L.length ≤ ps.length := by
    unfold bothL; split
    · cases h : tryM avgZ (ps.zip qs) with
      | none => exact ⟨_, _, rfl, Nat.zero_le _⟩
      | some ds => exact ⟨_, _, rfl, by have := tryM_len h; rw [List.length_zip] at this; rw [List.length_map]; omega⟩
    · exact ⟨_, _, rfl, Nat.zero_le _⟩
  rw [e2] at m n
  have s1 := same50_F M (by omega)
  have s2 := same50_F (ps.map pt) (by rw [List.length_map]; omega)
  rcases both_diff ps qs with ⟨e, h0, _, hb⟩ | ⟨ds, hd, hb⟩
  · rw [hb] at d
    simp only [h1, h2, d, h0, Int.natCast_zero, Int.natCast_nonneg, bne_iff_ne, beq_iff_eq, ne_eq, decide_eq_true_eq, Bool.and_eq_true, Bool.or_eq_true, Bool.not_eq_true', decide_eq_false_iff_not, beq_eq_false_iff_ne, bne_eq_false_iff_eq, not_true_eq_false, not_false_eq_true, if_true, if_false, reduceIte, and_true, true_and, and_false, false_and, or_false, false_or, or_true, true_or, List.getD_cons_zero, List.getD_cons_succ, List.length_cons, List.length_nil, List.cons_append, List.nil_append, Nat.reduceAdd, Nat.reduceEqDiff, reduceCtorEq, Bool.not_true, Bool.not_false, Bool.true_and, Bool.and_true, Bool.false_and, Bool.and_false, Bool.or_true, Bool.true_or, Bool.or_false, Bool.false_or, Bool.false_eq_true, Bool.true_eq_false, Sc.int_i, Sc.bool_b, Sc.list_l, Sc.str_s, Int.reduceEq, Int.reduceLT, Int.reduceLE, Int.reduceNe, decide_true, decide_false, decide_not, eq_self, Classical.not_not, List.getElem?_cons_zero, List.getElem?_cons_succ, beq_self_eq_true, bne_self_eq_false]
    refine loop_rounds (S := Unit) (fun j => [.i 0]) (fun _ => some [.b true]) (fun j => True) (fun j => 0) ?_ () trivial (by omega)
    intro _ rec _ _
    rcases avgs_self ps with a | a
    · rw [a] at w
      simp only [m, n, w, s1, Int.lt_irrefl, Int.natCast_zero, Int.natCast_nonneg, bne_iff_ne, beq_iff_eq, ne_eq, decide_eq_true_eq, Bool.and_eq_true, Bool.or_eq_true, Bool.not_eq_true', decide_eq_false_iff_not, beq_eq_false_iff_ne, bne_eq_false_iff_eq, not_true_eq_false, not_false_eq_true, if_true, if_false, reduceIte, and_true, true_and, and_false, false_and, or_false, false_or, or_true, true_or, List.getD_cons_zero, List.getD_cons_succ, List.length_cons, List.length_nil, List.cons_append, List.nil_append, Nat.reduceAdd, Nat.reduceEqDiff, reduceCtorEq, Bool.not_true, Bool.not_false, Bool.true_and, Bool.and_true, Bool.false_and, Bool.and_false, Bool.or_true, Bool.true_or, Bool.or_false, Bool.false_or, Bool.false_eq_true, Bool.true_eq_false, Sc.int_i, Sc.bool_b, Sc.list_l, Sc.str_s, Int.reduceEq, Int.reduceLT, Int.reduceLE, Int.reduceNe, decide_true, decide_false, decide_not, eq_self, Classical.not_not, List.getElem?_cons_zero, List.getElem?_cons_succ, beq_self_eq_true, bne_self_eq_false]
    · rw [a] at w
      simp only [m, n, w, s1, s2, Int.lt_irrefl, Int.natCast_zero, Int.natCast_nonneg, bne_iff_ne, beq_iff_eq, ne_eq, decide_eq_true_eq, Bool.and_eq_true, Bool.or_eq_true, Bool.not_eq_true', decide_eq_false_iff_not, beq_eq_false_iff_ne, bne_eq_false_iff_eq, not_true_eq_false, not_false_eq_true, if_true, if_false, reduceIte, and_true, true_and, and_false, false_and, or_false, false_or, or_true, true_or, List.getD_cons_zero, List.getD_cons_succ, List.length_cons, List.length_nil, List.cons_append, List.nil_append, Nat.reduceAdd, Nat.reduceEqDiff, reduceCtorEq, Bool.not_true, Bool.not_false, Bool.true_and, Bool.and_true, Bool.false_and, Bool.and_false, Bool.or_true, Bool.true_or, Bool.or_false, Bool.false_or, Bool.false_eq_true, Bool.true_eq_false, Sc.int_i, Sc.bool_b, Sc.list_l, Sc.str_s, Int.reduceEq, Int.reduceLT, Int.reduceLE, Int.reduceNe, decide_true, decide_false, decide_not, eq_self, Classical.not_not, List.getElem?_cons_zero, List.getElem?_cons_succ, beq_self_eq_true, bne_self_eq_false]
  · unfold diffO at hd
    split at hd
    · rename_i hlen
      rw [hb] at d
      have hl := tryM_len hd
      rw [List.length_zip] at hl
      have hl1 : ds.length = ps.length := by omega
      have hl2 : (qs.length : Int) = ps.length := by omega
      rw [hlen] at hl1
      simp only [h1, h2, d, List.length_map, hl1, hlen, Int.natCast_nonneg, bne_iff_ne, beq_iff_eq, ne_eq, decide_eq_true_eq, Bool.and_eq_true, Bool.or_eq_true, Bool.not_eq_true', decide_eq_false_iff_not, beq_eq_false_iff_ne, bne_eq_false_iff_eq, not_true_eq_false, not_false_eq_true, if_true, if_false, reduceIte, and_true, true_and, and_false, false_and, or_false, false_or, or_true, true_or, List.getD_cons_zero, List.getD_cons_succ, List.length_cons, List.length_nil, List.cons_append, List.nil_append, Nat.reduceAdd, Nat.reduceEqDiff, reduceCtorEq, Bool.not_true, Bool.not_false, Bool.true_and, Bool.and_true, Bool.false_and, Bool.and_false, Bool.or_true, Bool.true_or, Bool.or_false, Bool.false_or, Bool.false_eq_true, Bool.true_eq_false, Sc.int_i, Sc.bool_b, Sc.list_l, Sc.str_s, Int.reduceEq, Int.reduceLT, Int.reduceLE, Int.reduceNe, decide_true, decide_false, decide_not, eq_self, Classical.not_not, List.getElem?_cons_zero, List.getElem?_cons_succ, beq_self_eq_true, bne_self_eq_false]
      refine loop_rounds (S := Nat) (fun j => [.i (j : Int)]) (fun _ => some [.b true]) (fun j => j ≤ qs.length) (fun j => qs.length - j) ?_ 0 (by omega) (by omega)
      intro j rec hj hrec
      by_cases h : j < qs.length
      · have hr := hrec (j + 1) (by omega) (by omega)
        have k0 : (j : Int) < qs.length := by omega
        have i1 : (ds.map fun q => pt (pr q)).getD ((j : Int)).toNat (.i 0) = .l [.i ds[j].num, .i ds[j].den] := idx_map (fun q => pt (pr q)) ds j (by omega)
        have i2 : (qs.map pt).getD ((j : Int)).toNat (.i 0) = .l [.i qs[j].1, .i qs[j].2] := idx_map pt qs j h
        have i3 : (ps.map pt).getD ((j : Int)).toNat (.i 0) = .l [.i ps[j].1, .i ps[j].2] := idx_map pt ps j (by omega)
        have w2 := succ_w (n := qs.length) (k := j) (by omega) (by omega)
        have g := tryM_get hd j (by rw [List.length_zip]; omega) (by omega)
        rw [List.getElem_zip] at g
        have fd : fitQ ds[j] = true := subO_fit g
        have a := fadd_O (FP_pr fd) (hq _ (List.getElem_mem h))
        rw [valP_pr fd, back_one g] at a
        have v : (valP ps[j] = none) ∨ ∃ x, valP ps[j] = some x := by cases valP ps[j] <;> simp
        rcases v with v | ⟨x, v⟩
        · rw [v] at a
          simp only [enc, pr] at a
          simp only [k0, i1, i2, i3, w2, hr, a, Int.natCast_nonneg, bne_iff_ne, beq_iff_eq, ne_eq, decide_eq_true_eq, Bool.and_eq_true, Bool.or_eq_true, Bool.not_eq_true', decide_eq_false_iff_not, beq_eq_false_iff_ne, bne_eq_false_iff_eq, not_true_eq_false, not_false_eq_true, if_true, if_false, reduceIte, and_true, true_and, and_false, false_and, or_false, false_or, or_true, true_or, List.getD_cons_zero, List.getD_cons_succ, List.length_cons, List.length_nil, List.cons_append, List.nil_append, Nat.reduceAdd, Nat.reduceEqDiff, reduceCtorEq, Bool.not_true, Bool.not_false, Bool.true_and, Bool.and_true, Bool.false_and, Bool.and_false, Bool.or_true, Bool.true_or, Bool.or_false, Bool.false_or, Bool.false_eq_true, Bool.true_eq_false, Sc.int_i, Sc.bool_b, Sc.list_l, Sc.str_s, Int.reduceEq, Int.reduceLT, Int.reduceLE, Int.reduceNe, decide_true, decide_false, decide_not, eq_self, Classical.not_not, List.getElem?_cons_zero, List.getElem?_cons_succ, beq_self_eq_true, bne_self_eq_false]
        · rw [v] at a
          have ep := (valP_some v).1
          rw [ep] at i3
          simp only [pr] at i3
          simp only [enc, pr] at a
          simp only [k0, i1, i2, i3, w2, hr, a, Bool.and_self, Int.natCast_nonneg, bne_iff_ne, beq_iff_eq, ne_eq, decide_eq_true_eq, Bool.and_eq_true, Bool.or_eq_true, Bool.not_eq_true', decide_eq_false_iff_not, beq_eq_false_iff_ne, bne_eq_false_iff_eq, not_true_eq_false, not_false_eq_true, if_true, if_false, reduceIte, and_true, true_and, and_false, false_and, or_false, false_or, or_true, true_or, List.getD_cons_zero, List.getD_cons_succ, List.length_cons, List.length_nil, List.cons_append, List.nil_append, Nat.reduceAdd, Nat.reduceEqDiff, reduceCtorEq, Bool.not_true, Bool.not_false, Bool.true_and, Bool.and_true, Bool.false_and, Bool.and_false, Bool.or_true, Bool.true_or, Bool.or_false, Bool.false_or, Bool.false_eq_true, Bool.true_eq_false, Sc.int_i, Sc.bool_b, Sc.list_l, Sc.str_s, Int.reduceEq, Int.reduceLT, Int.reduceLE, Int.reduceNe, decide_true, decide_false, decide_not, eq_self, Classical.not_not, List.getElem?_cons_zero, List.getElem?_cons_succ, beq_self_eq_true, bne_self_eq_false]
      · have k0 : ¬ (j : Int) < qs.length := by omega
        rcases avgs_self ps with a | a
        · rw [a] at w
          simp only [k0, m, n, w, s1, Int.natCast_nonneg, bne_iff_ne, beq_iff_eq, ne_eq, decide_eq_true_eq, Bool.and_eq_true, Bool.or_eq_true, Bool.not_eq_true', decide_eq_false_iff_not, beq_eq_false_iff_ne, bne_eq_false_iff_eq, not_true_eq_false, not_false_eq_true, if_true, if_false, reduceIte, and_true, true_and, and_false, false_and, or_false, false_or, or_true, true_or, List.getD_cons_zero, List.getD_cons_succ, List.length_cons, List.length_nil, List.cons_append, List.nil_append, Nat.reduceAdd, Nat.reduceEqDiff, reduceCtorEq, Bool.not_true, Bool.not_false, Bool.true_and, Bool.and_true, Bool.false_and, Bool.and_false, Bool.or_true, Bool.true_or, Bool.or_false, Bool.false_or, Bool.false_eq_true, Bool.true_eq_false, Sc.int_i, Sc.bool_b, Sc.list_l, Sc.str_s, Int.reduceEq, Int.reduceLT, Int.reduceLE, Int.reduceNe, decide_true, decide_false, decide_not, eq_self, Classical.not_not, List.getElem?_cons_zero, List.getElem?_cons_succ, beq_self_eq_true, bne_self_eq_false]
        · rw [a] at w
          simp only [k0, m, n, w, s1, s2, Int.natCast_nonneg, bne_iff_ne, beq_iff_eq, ne_eq, decide_eq_true_eq, Bool.and_eq_true, Bool.or_eq_true, Bool.not_eq_true', decide_eq_false_iff_not, beq_eq_false_iff_ne, bne_eq_false_iff_eq, not_true_eq_false, not_false_eq_true, if_true, if_false, reduceIte, and_true, true_and, and_false, false_and, or_false, false_or, or_true, true_or, List.getD_cons_zero, List.getD_cons_succ, List.length_cons, List.length_nil, List.cons_append, List.nil_append, Nat.reduceAdd, Nat.reduceEqDiff, reduceCtorEq, Bool.not_true, Bool.not_false, Bool.true_and, Bool.and_true, Bool.false_and, Bool.and_false, Bool.or_true, Bool.true_or, Bool.or_false, Bool.false_or, Bool.false_eq_true, Bool.true_eq_false, Sc.int_i, Sc.bool_b, Sc.list_l, Sc.str_s, Int.reduceEq, Int.reduceLT, Int.reduceLE, Int.reduceNe, decide_true, decide_false, decide_not, eq_self, Classical.not_not, List.getElem?_cons_zero, List.getElem?_cons_succ, beq_self_eq_true, bne_self_eq_false]
    · cases hd

namespace pairsBack
theorem own : ownKnob Try.prog.godebug = none := by kernel_rfl
theorem laidOut : laidOutB Try.prog = true := by kernel_rfl
set_option maxRecDepth 100000 in
theorem lifted (os : Os) (started : os.Started) (H : Type) (enc : TypeId × Value → H) :
    ReturnsInHanded {} Try.checked os 5 .any (Rows.pairsBackSpec.pre6 enc Try.prog Try.f5 Rows.pairsBackRow.domain false) (Rows.pairsBackSpec.post enc Try.prog Try.f5 false true false false) := by
  refine returnsInHanded_of_change (C := Try.checked) own started (by kernel_rfl) Try.func5
    (ChangeSpec.witness6 (enc := enc) (C := Try.checked) false ⟨#[], #[.slice none 0 0, .slice none 0 0], []⟩ 8 (by kernel_rfl) (by kernel_rfl) (by kernel_rfl) (by kernel_rfl)) ?_
  intro W base args ds gs before hval0 hW hcnd _
  have hval : ∀ (j : Nat) t v, Try.f5.params[j]? = some t → args[j]? = some v → Value.okWide Try.prog W .any base t v := hval0
  have hW' := hW
  obtain ⟨p, q, hA0, hV, rfl, hfz, hnd⟩ := hW
  have hA : DataW.TrodAll enc Try.prog W 0 (fun _ => true) true Try.f5.params.toList args.toList ds p := hA0
  rw [Try.params5] at hA hval
  obtain ⟨v0, vs0, d0, ds0, p0, q0, hargs, rfl, rfl, h0, r0⟩ := trodAll_cons hA
  obtain ⟨v1, vs1, d1, ds1, p1, q1, rfl, rfl, rfl, h1, r1⟩ := trodAll_cons r0
  obtain ⟨rfl, rfl, rfl⟩ := trodAll_nil r1
  obtain rfl : args = #[v0, v1] := by cases args; simp_all
  obtain ⟨rfl, rfl⟩ := trodVars_none hV
  have k0 := h0
  have lt0 : ∀ x ∈ p0, x.block < W.heap.size := by obtain ⟨m, hm⟩ := k0; exact DataW.trod_lt m _ _ _ hm
  have ok0 := hval 0 22 v0 rfl rfl
  have k1 := h1
  have lt1 : ∀ x ∈ p1, x.block < W.heap.size := by obtain ⟨m, hm⟩ := k1; exact DataW.trod_lt m _ _ _ hm
  have ok1 := hval 1 22 v1 rfl rfl
  obtain ⟨ps, i0, _, g0⟩ := open_pairs Try.underlying22 (by kernel_rfl) (by kernel_rfl) ok0 h0
  obtain ⟨qs, i1, _, g1⟩ := open_pairs Try.underlying22 (by kernel_rfl) (by kernel_rfl) ok1 h1
  clear hA0 hval0
  refine (law_call k_simulatorlaw50_PairsBack (Try.call5 _ _) (vs := [v0, v1]) (args2 g0 g1) (back_F ps qs i0 i1) rfl).mono fun e W' ⟨he, bel⟩ => ?_
  subst he
  exact ⟨_, rfl, _, _, _, [], _, [], hW', trodAll_mk1 (shut_bool Try.underlying4 _), (trodAll_cons_mk (Below.trod laidOut (by kernel_rfl) (of_decide_eq_true (by kernel_rfl)) k0 bel lt0) (trodAll_cons_mk (Below.trod laidOut (by kernel_rfl) (of_decide_eq_true (by kernel_rfl)) k1 bel lt1) trodAll_mk0)), rfl, bel.frame _, fun h => by cases h⟩
theorem over : Rows.pairsBackRow.holds Try.pinned (OpenSpec.ofChange Rows.pairsBackSpec) :=
  OpenClaim.holds_of_wide 5 Try.f5 rfl rfl rfl rfl rfl rfl rfl ⟨rfl, rfl, rfl, rfl, rfl⟩ rfl rfl rfl rfl rfl (by kernel_rfl) Try.func5 (by kernel_rfl)
    (of_decide_eq_true (by kernel_rfl)) (by unfold Func.isWrapper; first | (rw [if_pos (by decide +kernel)]; kernel_rfl) | (rw [if_neg (by decide +kernel)]; exact ⟨rfl, rfl⟩))
    (fun os started H enc _ => lifted os started H enc)
theorem proved : Rows.PairsBackSaid := over
end pairsBack

end Go.Proofs.Ytpmmmkdccbdkfaa
