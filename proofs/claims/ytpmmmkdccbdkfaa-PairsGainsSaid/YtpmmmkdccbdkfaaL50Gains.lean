/-
  PairsGains: Gain does not depend on the order of the lists, and is at least 1/2. No condition.
-/
import Derived.Test.YtpmmmkdccbdkfaaRows
import Derived.Test.YtpmmmkdccbdkfaaOpnR
import Derived.Test.YtpmmmkdccbdkfaaA50
import Derived.Test.YtpmmmkdccbdkfaaM50
import Derived.Test.YtpmmmkdccbdkfaaFlV
import Derived.Test.YtpmmmkdccbdkfaaFrCmp
namespace Go.Proofs.Ytpmmmkdccbdkfaa
open Go.ChangeShapes Go.WideShapes Go.ChangeAt Go.RowKit
set_option linter.unusedSimpArgs false

theorem diffs_swap : ∀ ps qs : List (Int × Int), tryM subZ (qs.zip ps) = (tryM subZ (ps.zip qs)).map (List.map (- ·))
  | [], [] => rfl
  | [], _ :: _ => rfl
  | _ :: _, [] => rfl
  | p :: ps, q :: qs => by
    simp only [List.zip_cons_cons, tryM, diffs_swap ps qs]
    have e : subZ (q, p) = (subZ (p, q)).map (- ·) := subO_neg _ _
    rw [e]
    cases subZ (p, q) with
    | none => rfl
    | some d => cases tryM subZ (ps.zip qs) <;> rfl
theorem addO_comm' (a b : Option Rat) : addO a b = addO b a := by
  cases a <;> cases b <;> simp only [addO]
  rw [Rat.add_comm]
theorem gain_swap (ps qs : List (Int × Int)) : gainO qs ps = gainO ps qs := by
  have hd : diffO qs ps = (diffO ps qs).map (List.map (- ·)) := by
    unfold diffO
    by_cases h : ps.length = qs.length
    · rw [if_pos h, if_pos h.symm]; exact diffs_swap ps qs
    · rw [if_neg h, if_neg (fun e => h e.symm)]; rfl
  unfold gainO
  rw [hd]
  cases h : diffO ps qs with
  | none => rfl
  | some ds =>
    simp only [Option.map_some]
    rw [varO_neg ds (diff_fit h), addO_comm']
/-- The parallelogram. -/
theorem sq_zip (a b : Rat) : ∀ xs ys : List Rat, xs.length = ys.length → sqR (a - b) (xs.zipWith (· - ·) ys) / 2 ≤ sqR a xs + sqR b ys
  | [], [], _ => by simp only [List.zipWith_nil_left, sqR]; grind
  | [], _ :: _, h => by simp at h
  | _ :: _, [], h => by simp at h
  | x :: xs, y :: ys, h => by
    have ih := sq_zip a b xs ys (by simpa using h)
    simp only [List.zipWith_cons_cons, sqR]
    have h1 := rat_sq ((x - a) + (y - b))
    have e : (x - a) * (x - a) + (y - b) * (y - b) = (x - y - (a - b)) * (x - y - (a - b)) / 2 + ((x - a) + (y - b)) * ((x - a) + (y - b)) / 2 := by grind
    grind
theorem sumR_zip : ∀ xs ys : List Rat, xs.length = ys.length → sumR (xs.zipWith (· - ·) ys) = sumR xs - sumR ys
  | [], [], _ => by simp only [List.zipWith_nil_left, sumR]; grind
  | [], _ :: _, h => by simp at h
  | _ :: _, [], h => by simp at h
  | x :: xs, y :: ys, h => by
    have ih := sumR_zip xs ys (by simpa using h)
    simp only [List.zipWith_cons_cons, sumR, ih]; grind
theorem div_le_div' {a b c : Rat} (h : a ≤ b) (hc : 0 < c) : a / c ≤ b / c := by
  rw [Rat.div_def, Rat.div_def]
  exact Rat.mul_le_mul_of_nonneg_right h (Rat.le_of_lt (Rat.inv_pos.2 hc))
theorem gain_half {ps qs : List (Int × Int)} {g : Rat} (h : gainO ps qs = some g) : Rat.divInt 1 2 ≤ g ∧ fitQ g = true := by
  unfold gainO at h
  split at h
  · cases h
  · rename_i ds hd
    refine ⟨?_, divO_fit h⟩
    obtain ⟨s, z, h1, h2, h3, h4⟩ := divO_some h
    obtain ⟨vx, vy, h5, h6, h7⟩ := addO_some h1
    obtain ⟨xs, x1, x2, x3, _, x4⟩ := varO_val h5
    obtain ⟨ys, y1, y2, y3, _, y4⟩ := varO_val h6
    obtain ⟨zs, z1, z2, z3, _, z4⟩ := varO_val h2
    have hz := varO_nonneg h2
    have ez := map_pr_inj z1
    subst ez
    unfold diffO at hd
    split at hd
    · rename_i hl
      rw [x1, y1, List.length_map, List.length_map] at hl
      have hdl := tryM_len hd
      have ed : ds = xs.zipWith (· - ·) ys := by
        rw [List.length_zip, x1, y1, List.length_map, List.length_map] at hdl
        refine List.ext_getElem (by rw [List.length_zipWith]; exact hdl) fun i i1 i2 => ?_
        have g := tryM_get hd i (by rw [List.length_zip, x1, y1, List.length_map, List.length_map]; omega) i1
        rw [List.getElem_zip] at g
        obtain ⟨u, w, u1, u2, u3⟩ := subO_some g
        simp only [x1, y1, List.getElem_map] at u1 u2
        rw [valP_pr (x2 _ (List.getElem_mem ..))] at u1
        rw [valP_pr (y2 _ (List.getElem_mem ..))] at u2
        cases u1; cases u2
        rw [List.getElem_zipWith, u3]
      have hdl2 : ds.length = xs.length := by rw [ed, List.length_zipWith]; omega
      have em : meanR ds = meanR xs - meanR ys := by
        unfold meanR
        rw [hdl2, ed, sumR_zip xs ys hl, ← hl]; grind
      have par := sq_zip (meanR xs) (meanR ys) xs ys hl
      rw [← em, ← ed] at par
      rw [hdl2] at z4
      rw [← hl] at y4
      have hn : (0 : Rat) < ((xs.length - 1 : Nat) : Rat) := nat_pos_rat (by omega)
      have par2 := div_le_div' par hn
      generalize ((xs.length - 1 : Nat) : Rat) = n at *
      have hs : z / 2 ≤ s := by
        rw [h7, x4, y4, z4]
        have e1 : sqR (meanR ds) ds / n / 2 = sqR (meanR ds) ds / 2 / n := by grind
        have e2 : sqR (meanR xs) xs / n + sqR (meanR ys) ys / n = (sqR (meanR xs) xs + sqR (meanR ys) ys) / n := by grind
        rw [e1, e2]; exact par2
      have hz0 : 0 < z := by
        rcases Rat.le_iff_lt_or_eq.1 hz with h | h
        · exact h
        · exact absurd h.symm h3
      have d := div_le_div' hs hz0
      rw [h4]
      have e3 : z / 2 / z = Rat.divInt 1 2 := by
        rw [Rat.divInt_eq_div]
        have : ((1 : Int) : Rat) = 1 := rfl
        have : ((2 : Int) : Rat) = 2 := rfl
        grind
      rw [← e3]; exact d
    · cases hd
theorem gains_F (ps qs : List (Int × Int)) (hp : ∀ p ∈ ps, FP p) (hq : ∀ p ∈ qs, FP p) : k_simulatorlaw50_PairsGains.F [.l (ps.map pt), .l (qs.map pt)] = some [.b true] := by
  simp only [k_simulatorlaw50_PairsGains_F, tk_simulatorlaw50_PairsGains, k_pairs_Gain_f, k_frac_Valid_f, k_frac_Cmp_f, k_simulatorlaw50_awake_f, awake50, List.length_map, Go.Proofs.Ytpmmmkdccbdkfaa.T.den, Ex.ev, U1.ev, U2.ev, U3.ev, gam, List.map, List.getD_cons_zero, List.getD_cons_succ, List.length, List.cons_append, List.nil_append, if_true, Sc.int_i, Sc.bool_b, Sc.list_l, Sc.str_s, Nat.reduceEqDiff, if_false, List.getElem?_cons_zero, List.getElem?_cons_succ]
  by_cases h1 : (60 : Int) < ps.length
  · simp only [h1, Int.natCast_nonneg, bne_iff_ne, beq_iff_eq, ne_eq, decide_eq_true_eq, Bool.and_eq_true, Bool.or_eq_true, Bool.not_eq_true', decide_eq_false_iff_not, beq_eq_false_iff_ne, bne_eq_false_iff_eq, not_true_eq_false, not_false_eq_true, if_true, if_false, reduceIte, and_true, true_and, and_false, false_and, or_false, false_or, or_true, true_or, List.getD_cons_zero, List.getD_cons_succ, List.length_cons, List.length_nil, List.cons_append, List.nil_append, Nat.reduceAdd, Nat.reduceEqDiff, reduceCtorEq, Bool.not_true, Bool.not_false, Bool.true_and, Bool.and_true, Bool.false_and, Bool.and_false, Bool.or_true, Bool.true_or, Bool.or_false, Bool.false_or, Bool.false_eq_true, Bool.true_eq_false, Sc.int_i, Sc.bool_b, Sc.list_l, Sc.str_s, Int.reduceEq, Int.reduceLT, Int.reduceLE, Int.reduceNe, decide_true, decide_false, decide_not, eq_self, Classical.not_not, List.getElem?_cons_zero, List.getElem?_cons_succ, beq_self_eq_true, bne_self_eq_false]
  by_cases h2 : (60 : Int) < qs.length
  · simp only [h1, h2, Int.natCast_nonneg, bne_iff_ne, beq_iff_eq, ne_eq, decide_eq_true_eq, Bool.and_eq_true, Bool.or_eq_true, Bool.not_eq_true', decide_eq_false_iff_not, beq_eq_false_iff_ne, bne_eq_false_iff_eq, not_true_eq_false, not_false_eq_true, if_true, if_false, reduceIte, and_true, true_and, and_false, false_and, or_false, false_or, or_true, true_or, List.getD_cons_zero, List.getD_cons_succ, List.length_cons, List.length_nil, List.cons_append, List.nil_append, Nat.reduceAdd, Nat.reduceEqDiff, reduceCtorEq, Bool.not_true, Bool.not_false, Bool.true_and, Bool.and_true, Bool.false_and, Bool.and_false, Bool.or_true, Bool.true_or, Bool.or_false, Bool.false_or, Bool.false_eq_true, Bool.true_eq_false, Sc.int_i, Sc.bool_b, Sc.list_l, Sc.str_s, Int.reduceEq, Int.reduceLT, Int.reduceLE, Int.reduceNe, decide_true, decide_false, decide_not, eq_self, Classical.not_not, List.getElem?_cons_zero, List.getElem?_cons_succ, beq_self_eq_true, bne_self_eq_false]
  have x := fgain_O ps qs hp hq (by omega)
  have y := fgain_O qs ps hq hp (by omega)
  rw [gain_swap] at y
  cases h : gainO ps qs with
  | none =>
    rw [h, enc_none] at x y
    simp only [h1, h2, x, y, Int.natCast_nonneg, bne_iff_ne, beq_iff_eq, ne_eq, decide_eq_true_eq, Bool.and_eq_true, Bool.or_eq_true, Bool.not_eq_true', decide_eq_false_iff_not, beq_eq_false_iff_ne, bne_eq_false_iff_eq, not_true_eq_false, not_false_eq_true, if_true, if_false, reduceIte, and_true, true_and, and_false, false_and, or_false, false_or, or_true, true_or, List.getD_cons_zero, List.getD_cons_succ, List.length_cons, List.length_nil, List.cons_append, List.nil_append, Nat.reduceAdd, Nat.reduceEqDiff, reduceCtorEq, Bool.not_true, Bool.not_false, Bool.true_and, Bool.and_true, Bool.false_and, Bool.and_false, Bool.or_true, Bool.true_or, Bool.or_false, Bool.false_or, Bool.false_eq_true, Bool.true_eq_false, Sc.int_i, Sc.bool_b, Sc.list_l, Sc.str_s, Int.reduceEq, Int.reduceLT, Int.reduceLE, Int.reduceNe, decide_true, decide_false, decide_not, eq_self, Classical.not_not, List.getElem?_cons_zero, List.getElem?_cons_succ, beq_self_eq_true, bne_self_eq_false]
  | some g =>
    rw [h, enc_some] at x y
    obtain ⟨g1, g2⟩ := gain_half h
    obtain ⟨a1, a2⟩ := fit_bounds g2
    have half : fitQ (Rat.divInt 1 2) = true := by decide
    have v := valid_F g.num g.den ⟨by omega, by omega⟩ ⟨by omega, by omega⟩
    have c := cmp_F g.num g.den 1 2 ⟨by omega, by omega⟩ ⟨by omega, by omega⟩ ⟨by omega, by omega⟩ ⟨by omega, by omega⟩
    have u2 : usualQ 1 2 = Rat.divInt 1 2 := by decide
    rw [usual_ok g2, u2] at c
    rw [okF_of g2] at v
    have cn : 0 ≤ cmpQ g (Rat.divInt 1 2) := by
      have : ¬ cmpQ g (Rat.divInt 1 2) < 0 := fun x => absurd (cmpQ_lt.1 x) (Rat.not_lt.2 g1)
      omega
    simp only [h1, h2, x, y, v, c, cn, Bool.and_self, Int.natCast_nonneg, bne_iff_ne, beq_iff_eq, ne_eq, decide_eq_true_eq, Bool.and_eq_true, Bool.or_eq_true, Bool.not_eq_true', decide_eq_false_iff_not, beq_eq_false_iff_ne, bne_eq_false_iff_eq, not_true_eq_false, not_false_eq_true, if_true, if_false, reduceIte, and_true, true_and, and_false, false_and, or_false, false_or, or_true, true_or, List.getD_cons_zero, List.getD_cons_succ, List.length_cons, List.length_nil, List.cons_append, List.nil_append, Nat.reduceAdd, Nat.reduceEqDiff, reduceCtorEq, Bool.not_true, Bool.not_false, Bool.true_and, Bool.and_true, Bool.false_and, Bool.and_false, Bool.or_true, Bool.true_or, Bool.or_false, Bool.false_or, Bool.false_eq_true, Bool.true_eq_false, Sc.int_i, Sc.bool_b, Sc.list_l, Sc.str_s, Int.reduceEq, Int.reduceLT, Int.reduceLE, Int.reduceNe, decide_true, decide_false, decide_not, eq_self, Classical.not_not, List.getElem?_cons_zero, List.getElem?_cons_succ, beq_self_eq_true, bne_self_eq_false]

namespace pairsGains
theorem own : ownKnob Try.prog.godebug = none := by kernel_rfl
theorem laidOut : laidOutB Try.prog = true := by kernel_rfl
set_option maxRecDepth 100000 in
theorem lifted (os : Os) (started : os.Started) (H : Type) (enc : TypeId × Value → H) :
    ReturnsInHanded {} Try.checked os 7 .any (Rows.pairsGainsSpec.pre6 enc Try.prog Try.f7 Rows.pairsGainsRow.domain false) (Rows.pairsGainsSpec.post enc Try.prog Try.f7 false true false false) := by
  refine returnsInHanded_of_change (C := Try.checked) own started (by kernel_rfl) Try.func7
    (ChangeSpec.witness6 (enc := enc) (C := Try.checked) false ⟨#[], #[.slice none 0 0, .slice none 0 0], []⟩ 8 (by kernel_rfl) (by kernel_rfl) (by kernel_rfl) (by kernel_rfl)) ?_
  intro W base args ds gs before hval0 hW hcnd _
  have hval : ∀ (j : Nat) t v, Try.f7.params[j]? = some t → args[j]? = some v → Value.okWide Try.prog W .any base t v := hval0
  have hW' := hW
  obtain ⟨p, q, hA0, hV, rfl, hfz, hnd⟩ := hW
  have hA : DataW.TrodAll enc Try.prog W 0 (fun _ => true) true Try.f7.params.toList args.toList ds p := hA0
  rw [Try.params7] at hA hval
  obtain ⟨v0, vs0, d0, ds0, p0, q0, hargs, rfl, rfl, h0, r0⟩ := trodAll_cons hA
  obtain ⟨v1, vs1, d1, ds1, p1, q1, rfl, rfl, rfl, h1, r1⟩ := trodAll_cons r0
  obtain ⟨rfl, rfl, rfl⟩ := trodAll_nil r1
  obtain rfl : args = #[v0, v1] := by cases args; simp_all
  obtain ⟨rfl, rfl⟩ := trodVars_none hV
  have k0 := h0
  have lt0 : ∀ x ∈ p0, x.block < W.heap.size := by obtain ⟨m, hm⟩ := k0; exact DataW.trod_lt m _ _ _ hm
  have ok0 := hval 0 22 v0 rfl rfl
  have k1 := h1
  have lt1 : ∀ x ∈ p1, x.block < W.heap.size := by obtain ⟨m, hm⟩ := k1; exact DataW.trod_lt m _ _ _ hm
  have ok1 := hval 1 22 v1 rfl rfl
  obtain ⟨ps, i0, _, g0⟩ := open_pairs Try.underlying22 (by kernel_rfl) (by kernel_rfl) ok0 h0
  obtain ⟨qs, i1, _, g1⟩ := open_pairs Try.underlying22 (by kernel_rfl) (by kernel_rfl) ok1 h1
  clear hA0 hval0
  refine (law_call k_simulatorlaw50_PairsGains (Try.call7 _ _) (vs := [v0, v1]) (args2 g0 g1) (gains_F ps qs i0 i1) rfl).mono fun e W' ⟨he, bel⟩ => ?_
  subst he
  exact ⟨_, rfl, _, _, _, [], _, [], hW', trodAll_mk1 (shut_bool Try.underlying4 _), (trodAll_cons_mk (Below.trod laidOut (by kernel_rfl) (of_decide_eq_true (by kernel_rfl)) k0 bel lt0) (trodAll_cons_mk (Below.trod laidOut (by kernel_rfl) (of_decide_eq_true (by kernel_rfl)) k1 bel lt1) trodAll_mk0)), rfl, bel.frame _, fun h => by cases h⟩
theorem over : Rows.pairsGainsRow.holds Try.pinned (OpenSpec.ofChange Rows.pairsGainsSpec) :=
  OpenClaim.holds_of_wide 7 Try.f7 rfl rfl rfl rfl rfl rfl rfl ⟨rfl, rfl, rfl, rfl, rfl⟩ rfl rfl rfl rfl rfl (by kernel_rfl) Try.func7 (by kernel_rfl)
    (of_decide_eq_true (by kernel_rfl)) (by unfold Func.isWrapper; first | (rw [if_pos (by decide +kernel)]; kernel_rfl) | (rw [if_neg (by decide +kernel)]; exact ⟨rfl, rfl⟩))
    (fun os started H enc _ => lifted os started H enc)
theorem proved : Rows.PairsGainsSaid := over
end pairsGains

end Go.Proofs.Ytpmmmkdccbdkfaa
