/-
  Fractions: what Cmp returns.
-/
import Derived.Test.YtchnhfnnlkncdaaDoorFrCm
namespace Go.Proofs.YtchnhfnnlkncdaaDoor
set_option linter.unusedSimpArgs false

theorem cmp_F (a b c d : Int) (ha : I64 a) (hb : I64 b) (hc : I64 c) (hd : I64 d) : k_frac_Cmp.F [.i a, .i b, .i c, .i d] = some [.i (cmpQ (usualQ a b) (usualQ c d))] := by
  simp only [k_frac_Cmp_F, tk_frac_Cmp, k_frac_Valid_f, k_frac_size_f, k_frac_times_f, k_frac_signed_f, valid_F a b ha hb, valid_F c d hc hd, size_F a ha, size_F c hc, size_F 0 i64_0, Go.Proofs.YtchnhfnnlkncdaaDoor.T.den, Ex.ev, U1.ev, U2.ev, U3.ev, gam, List.map, List.getD_cons_zero, List.getD_cons_succ, List.length, List.cons_append, List.nil_append, if_true, Sc.int_i, Sc.bool_b, Sc.list_l, Sc.str_s, Nat.reduceEqDiff, if_false, List.getElem?_cons_zero, List.getElem?_cons_succ]
  have z0 : (Int.natAbs 0 : Nat) = 0 := rfl
  have fa := usual_fit a b
  have fc := usual_fit c d
  have core := cmp_core fa fc
  have ends := cmp_val fa fc
  obtain ⟨a1, a2⟩ := fit_abs fa
  obtain ⟨b1, b2⟩ := fit_abs fc
  have key : ∀ (q r : Rat), fitQ q = true → fitQ r = true → k_frac_times.F [.i (q.num.natAbs : Int), .i (r.den : Int)] = some [.i (hiW (q.num.natAbs * r.den)), .i (loW (q.num.natAbs * r.den))] := fun q r hq hr => by
    obtain ⟨a1, a2⟩ := fit_abs hq
    obtain ⟨b1, b2⟩ := fit_abs hr
    exact times_F _ _ (by omega) (by omega)
  have u1 : ∀ (q : Rat), fitQ q = true → IntKind.u64.wrap (q.den : Int) = q.den := fun q hq => by
    have := fit_bounds hq
    exact wrU (by omega) (by omega)
  have t1 := key _ _ fa fc
  have t2 := key _ _ fc fa
  have sg := signed_F (decide ((usualQ a b).num < 0)) _ (decide (0 ≤ (usualQ c d).num)) _ core.1
  have w1 := u1 _ fa
  have w2 := u1 _ fc
  have beq := cmp_zero_beq (both (decide ((usualQ a b).num < 0)) ((usualQ a b).num.natAbs * (usualQ c d).den) (decide (0 ≤ (usualQ c d).num)) ((usualQ c d).num.natAbs * (usualQ a b).den)).2
  have va : (okF a b = false ∧ usualQ a b = 0) ∨ (okF a b = true ∧ a = (usualQ a b).num ∧ b = (usualQ a b).den) := by
    cases h : okF a b
    · exact .inl ⟨rfl, by unfold usualQ; rw [h]; rfl⟩
    · obtain ⟨q, rfl, rfl, hq⟩ := okF_q h
      rw [usual_ok hq]; exact .inr ⟨rfl, rfl, rfl⟩
  have vc : (okF c d = false ∧ usualQ c d = 0) ∨ (okF c d = true ∧ c = (usualQ c d).num ∧ d = (usualQ c d).den) := by
    cases h : okF c d
    · exact .inl ⟨rfl, by unfold usualQ; rw [h]; rfl⟩
    · obtain ⟨q, rfl, rfl, hq⟩ := okF_q h
      rw [usual_ok hq]; exact .inr ⟨rfl, rfl, rfl⟩
  have zn : (0 : Rat).num = 0 := rfl
  have zd : (0 : Rat).den = 1 := rfl
  generalize usualQ a b = q at *
  generalize usualQ c d = r at *
  have d0 : decide ((0 : Int) < 0) = false := rfl
  have d1 : decide ((0 : Int) ≤ 0) = true := rfl
  have c0 : ((0 : Nat) : Int) = 0 := rfl
  have c1 : ((1 : Nat) : Int) = 1 := rfl
  rcases va with ⟨oa, rfl⟩ | ⟨oa, rfl, rfl⟩ <;> rcases vc with ⟨oc, rfl⟩ | ⟨oc, rfl, rfl⟩ <;>
    simp only [zn, zd, z0, d0, d1, c0, c1] at t1 t2 sg beq ends w1 w2 ⊢ <;>
    rw [← ends] <;>
    simp only [oa, oc, t1, t2, sg, w1, w2, z0, c0, beq, Int.natCast_nonneg, bne_iff_ne, beq_iff_eq, ne_eq, decide_eq_true_eq, Bool.and_eq_true, Bool.or_eq_true, Bool.not_eq_true', decide_eq_false_iff_not, beq_eq_false_iff_ne, bne_eq_false_iff_eq, not_true_eq_false, not_false_eq_true, if_true, if_false, reduceIte, and_true, true_and, and_false, false_and, or_false, false_or, or_true, true_or, List.getD_cons_zero, List.getD_cons_succ, List.length_cons, List.length_nil, List.cons_append, List.nil_append, Nat.reduceAdd, Nat.reduceEqDiff, reduceCtorEq, Bool.not_true, Bool.not_false, Bool.true_and, Bool.and_true, Bool.false_and, Bool.and_false, Bool.or_true, Bool.true_or, Bool.or_false, Bool.false_or, Bool.false_eq_true, Bool.true_eq_false, Sc.int_i, Sc.bool_b, Sc.list_l, Sc.str_s, Int.reduceEq, Int.reduceLT, Int.reduceLE, Int.reduceNe, decide_true, decide_false, decide_not, eq_self, Classical.not_not, List.getElem?_cons_zero, List.getElem?_cons_succ, beq_self_eq_true, bne_self_eq_false]
end Go.Proofs.YtchnhfnnlkncdaaDoor
