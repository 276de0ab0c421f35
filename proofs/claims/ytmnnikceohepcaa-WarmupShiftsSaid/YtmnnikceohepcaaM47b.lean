/-
  Chapter 47: what Detect, Cut, Batched and their references return.
-/
import Derived.Test.YtmnnikceohepcaaM47
namespace Go.Proofs.Ytmnnikceohepcaa
set_option linter.unusedSimpArgs false

/-- The best of the first ones. -/
def best (f : Nat → Rat) : Nat → Nat
  | 0 => 0
  | k + 1 => if f (k + 1) < f (best f k) then k + 1 else best f k
theorem best_le (f : Nat → Rat) : ∀ k, best f k ≤ k
  | 0 => Nat.le_refl _
  | k + 1 => by have := best_le f k; unfold best; split <;> omega
theorem best_least (f : Nat → Rat) : ∀ k j, j ≤ k → f (best f k) ≤ f j
  | 0, j, h => by obtain rfl : j = 0 := by omega
                  exact Rat.le_refl
  | k + 1, j, h => by
    unfold best
    split
    · rename_i hlt
      rcases Nat.lt_or_ge k j with h' | h'
      · obtain rfl : j = k + 1 := by omega
        exact Rat.le_refl
      · exact Rat.le_trans (Rat.le_of_lt hlt) (best_least f k j h')
    · rename_i hlt
      rcases Nat.lt_or_ge k j with h' | h'
      · obtain rfl : j = k + 1 := by omega
        exact Rat.not_lt.1 hlt
      · exact best_least f k j h'
theorem best_first (f : Nat → Rat) : ∀ k j, j < best f k → f (best f k) < f j
  | 0, j, h => absurd h (Nat.not_lt_zero _)
  | k + 1, j, h => by
    unfold best at h ⊢
    split
    · rename_i hlt
      rw [if_pos hlt] at h
      have := best_least f k j (by omega)
      exact Rat.not_le.1 fun hh => absurd (Rat.le_trans this hh) (Rat.not_le.2 hlt)
    · rename_i hlt
      rw [if_neg hlt] at h
      exact best_first f k j h
def okAll (xs : List Int) : Prop := xs.length ≤ 1000 ∧ xs.all (val4 10000) = true ∧ 0 < xs.length
instance (xs : List Int) : Decidable (okAll xs) := by unfold okAll; exact inferInstance
def detL (xs : List Int) : List Sc := if okAll xs then [.i (best (scQ xs) (xs.length / 2) : Nat), .b true] else [.i 0, .b false]
theorem detL_out {xs : List Int} (h : ¬ okAll xs) : detL xs = [.i 0, .b false] := if_neg h
theorem detL_in {xs : List Int} (h : okAll xs) : detL xs = [.i (best (scQ xs) (xs.length / 2) : Nat), .b true] := if_pos h
theorem score_nat {xs : List Int} (h : okAll xs) {k : Nat} (hk : k < xs.length) : scoreL xs k = [.i (scQ xs k).num, .i (scQ xs k).den, .b true] := by
  rw [scoreL_in ⟨h.1, h.2.1, by omega, by omega⟩, Int.toNat_natCast]
theorem score_zero {xs : List Int} (h : ¬ okAll xs) : scoreL xs 0 = [.i 0, .i 0, .b false] := by
  rw [scoreL_out (fun g => h ⟨g.1, g.2.1, by have := g.2.2.2; omega⟩)]; rfl
theorem quo2 (n : Nat) (h : n ≤ 1000) : IntKind.i64.wrap (Int.tdiv (n : Int) 2) = ((n / 2 : Nat) : Int) := by
  have e : Int.tdiv (n : Int) 2 = ((n / 2 : Nat) : Int) := rfl
  rw [e, wrI (by omega) (by omega)]
theorem detect_F (xs : List Int) : k_warmup_Detect.F [.l (xs.map .i)] = some (detL xs) := by
  have s0 := score_F xs 0
  simp only [k_warmup_Detect_F, tk_warmup_Detect, k_warmup_Score_f, k_frac_Cmp_f, List.length_map, Go.Proofs.Ytmnnikceohepcaa.T.den, Ex.ev, U1.ev, U2.ev, U3.ev, gam, List.map, List.getD_cons_zero, List.getD_cons_succ, List.length, List.cons_append, List.nil_append, if_true, Sc.int_i, Sc.bool_b, Sc.list_l, Sc.str_s, Nat.reduceEqDiff, if_false, List.getElem?_cons_zero, List.getElem?_cons_succ]
  by_cases h : okAll xs
  · have z := score_nat h (k := 0) h.2.2
    have c0 : ((0 : Nat) : Int) = 0 := rfl
    rw [c0] at z
    rw [z] at s0
    rw [detL_in h]
    have q2 := quo2 xs.length h.1
    simp only [s0, q2, Int.natCast_nonneg, bne_iff_ne, beq_iff_eq, ne_eq, decide_eq_true_eq, Bool.and_eq_true, Bool.or_eq_true, Bool.not_eq_true', decide_eq_false_iff_not, beq_eq_false_iff_ne, bne_eq_false_iff_eq, not_true_eq_false, not_false_eq_true, if_true, if_false, reduceIte, and_true, true_and, and_false, false_and, or_false, false_or, or_true, true_or, List.getD_cons_zero, List.getD_cons_succ, List.length_cons, List.length_nil, List.cons_append, List.nil_append, Nat.reduceAdd, Nat.reduceEqDiff, reduceCtorEq, Bool.not_true, Bool.not_false, Bool.true_and, Bool.and_true, Bool.false_and, Bool.and_false, Bool.or_true, Bool.true_or, Bool.or_false, Bool.false_or, Bool.false_eq_true, Bool.true_eq_false, Sc.int_i, Sc.bool_b, Sc.list_l, Sc.str_s, Int.reduceEq, Int.reduceLT, Int.reduceLE, Int.reduceNe, decide_true, decide_false, decide_not, eq_self, Classical.not_not, List.getElem?_cons_zero, List.getElem?_cons_succ, beq_self_eq_true, bne_self_eq_false]
    have conv : ([.i 0, .i 1, .i (scQ xs 0).num, .i (scQ xs 0).den] : List Sc) = [.i (best (scQ xs) 0 : Nat), .i ((0 + 1 : Nat) : Int), .i (scQ xs (best (scQ xs) 0)).num, .i (scQ xs (best (scQ xs) 0)).den] := rfl
    rw [conv]
    refine loop_rounds (S := Nat) (fun k => [.i (best (scQ xs) k : Nat), .i ((k + 1 : Nat) : Int), .i (scQ xs (best (scQ xs) k)).num, .i (scQ xs (best (scQ xs) k)).den]) (fun _ => some [.i (best (scQ xs) (xs.length / 2) : Nat), .b true]) (fun k => k ≤ xs.length / 2) (fun k => xs.length / 2 - k) ?_ 0 (by omega) (by have := h.1; omega)
    intro k rec hk hrec
    by_cases hlt : k + 1 ≤ xs.length / 2
    · have hr := hrec (k + 1) hlt (by omega)
      have hl : ((k + 1 : Nat) : Int) ≤ ((xs.length / 2 : Nat) : Int) := by omega
      have sk := score_F xs ((k + 1 : Nat) : Int)
      rw [score_nat h (by omega)] at sk
      have f1 := score_fit h.2.1 h.1 (show k + 1 < xs.length by omega)
      have f2 := score_fit h.2.1 h.1 (show best (scQ xs) k < xs.length by have := best_le (scQ xs) k; omega)
      obtain ⟨a1, a2⟩ := fit_bounds f1
      obtain ⟨b1, b2⟩ := fit_bounds f2
      have cm := cmp_F (scQ xs (k + 1)).num (scQ xs (k + 1)).den (scQ xs (best (scQ xs) k)).num (scQ xs (best (scQ xs) k)).den ⟨by omega, by omega⟩ ⟨by omega, by omega⟩ ⟨by omega, by omega⟩ ⟨by omega, by omega⟩
      rw [usual_ok f1, usual_ok f2] at cm
      have w : IntKind.i64.wrap (((k + 1 : Nat) : Int) + 1) = ((k + 1 + 1 : Nat) : Int) := by have := h.1; rw [wrI (by omega) (by omega)]; omega
      by_cases hc : scQ xs (k + 1) < scQ xs (best (scQ xs) k)
      · have hc' := cmpQ_lt.2 hc
        have eb : best (scQ xs) (k + 1) = k + 1 := by conv => lhs; unfold best; rw [if_pos hc]
        rw [eb] at hr
        simp only [hl, sk, cm, hc', w, hr, Int.natCast_nonneg, bne_iff_ne, beq_iff_eq, ne_eq, decide_eq_true_eq, Bool.and_eq_true, Bool.or_eq_true, Bool.not_eq_true', decide_eq_false_iff_not, beq_eq_false_iff_ne, bne_eq_false_iff_eq, not_true_eq_false, not_false_eq_true, if_true, if_false, reduceIte, and_true, true_and, and_false, false_and, or_false, false_or, or_true, true_or, List.getD_cons_zero, List.getD_cons_succ, List.length_cons, List.length_nil, List.cons_append, List.nil_append, Nat.reduceAdd, Nat.reduceEqDiff, reduceCtorEq, Bool.not_true, Bool.not_false, Bool.true_and, Bool.and_true, Bool.false_and, Bool.and_false, Bool.or_true, Bool.true_or, Bool.or_false, Bool.false_or, Bool.false_eq_true, Bool.true_eq_false, Sc.int_i, Sc.bool_b, Sc.list_l, Sc.str_s, Int.reduceEq, Int.reduceLT, Int.reduceLE, Int.reduceNe, decide_true, decide_false, decide_not, eq_self, Classical.not_not, List.getElem?_cons_zero, List.getElem?_cons_succ, beq_self_eq_true, bne_self_eq_false]
      · have hc' : ¬ cmpQ (scQ xs (k + 1)) (scQ xs (best (scQ xs) k)) < 0 := fun x => hc (cmpQ_lt.1 x)
        have eb : best (scQ xs) (k + 1) = best (scQ xs) k := by conv => lhs; unfold best; rw [if_neg hc]
        rw [eb] at hr
        simp only [hl, sk, cm, hc', w, hr, Int.natCast_nonneg, bne_iff_ne, beq_iff_eq, ne_eq, decide_eq_true_eq, Bool.and_eq_true, Bool.or_eq_true, Bool.not_eq_true', decide_eq_false_iff_not, beq_eq_false_iff_ne, bne_eq_false_iff_eq, not_true_eq_false, not_false_eq_true, if_true, if_false, reduceIte, and_true, true_and, and_false, false_and, or_false, false_or, or_true, true_or, List.getD_cons_zero, List.getD_cons_succ, List.length_cons, List.length_nil, List.cons_append, List.nil_append, Nat.reduceAdd, Nat.reduceEqDiff, reduceCtorEq, Bool.not_true, Bool.not_false, Bool.true_and, Bool.and_true, Bool.false_and, Bool.and_false, Bool.or_true, Bool.true_or, Bool.or_false, Bool.false_or, Bool.false_eq_true, Bool.true_eq_false, Sc.int_i, Sc.bool_b, Sc.list_l, Sc.str_s, Int.reduceEq, Int.reduceLT, Int.reduceLE, Int.reduceNe, decide_true, decide_false, decide_not, eq_self, Classical.not_not, List.getElem?_cons_zero, List.getElem?_cons_succ, beq_self_eq_true, bne_self_eq_false]
    · have hl : ¬ ((k + 1 : Nat) : Int) ≤ ((xs.length / 2 : Nat) : Int) := by omega
      have e : k = xs.length / 2 := by omega
      subst e
      simp only [hl, Int.natCast_nonneg, bne_iff_ne, beq_iff_eq, ne_eq, decide_eq_true_eq, Bool.and_eq_true, Bool.or_eq_true, Bool.not_eq_true', decide_eq_false_iff_not, beq_eq_false_iff_ne, bne_eq_false_iff_eq, not_true_eq_false, not_false_eq_true, if_true, if_false, reduceIte, and_true, true_and, and_false, false_and, or_false, false_or, or_true, true_or, List.getD_cons_zero, List.getD_cons_succ, List.length_cons, List.length_nil, List.cons_append, List.nil_append, Nat.reduceAdd, Nat.reduceEqDiff, reduceCtorEq, Bool.not_true, Bool.not_false, Bool.true_and, Bool.and_true, Bool.false_and, Bool.and_false, Bool.or_true, Bool.true_or, Bool.or_false, Bool.false_or, Bool.false_eq_true, Bool.true_eq_false, Sc.int_i, Sc.bool_b, Sc.list_l, Sc.str_s, Int.reduceEq, Int.reduceLT, Int.reduceLE, Int.reduceNe, decide_true, decide_false, decide_not, eq_self, Classical.not_not, List.getElem?_cons_zero, List.getElem?_cons_succ, beq_self_eq_true, bne_self_eq_false]
  · rw [score_zero h] at s0
    rw [detL_out h]
    simp only [s0, Int.natCast_nonneg, bne_iff_ne, beq_iff_eq, ne_eq, decide_eq_true_eq, Bool.and_eq_true, Bool.or_eq_true, Bool.not_eq_true', decide_eq_false_iff_not, beq_eq_false_iff_ne, bne_eq_false_iff_eq, not_true_eq_false, not_false_eq_true, if_true, if_false, reduceIte, and_true, true_and, and_false, false_and, or_false, false_or, or_true, true_or, List.getD_cons_zero, List.getD_cons_succ, List.length_cons, List.length_nil, List.cons_append, List.nil_append, Nat.reduceAdd, Nat.reduceEqDiff, reduceCtorEq, Bool.not_true, Bool.not_false, Bool.true_and, Bool.and_true, Bool.false_and, Bool.and_false, Bool.or_true, Bool.true_or, Bool.or_false, Bool.false_or, Bool.false_eq_true, Bool.true_eq_false, Sc.int_i, Sc.bool_b, Sc.list_l, Sc.str_s, Int.reduceEq, Int.reduceLT, Int.reduceLE, Int.reduceNe, decide_true, decide_false, decide_not, eq_self, Classical.not_not, List.getElem?_cons_zero, List.getElem?_cons_succ, beq_self_eq_true, bne_self_eq_false]
theorem rdetect_F (xs : List Int) (hlen : xs.length ≤ 9223372036854775807) : k_simulatorref47_Detect.F [.l (xs.map .i)] = some (detL xs) := by
  have s0 := rscore_F xs 0 hlen
  simp only [k_simulatorref47_Detect_F, tk_simulatorref47_Detect, k_simulatorref47_Score_f, k_simulatorref02_Cmp_f, List.length_map, Go.Proofs.Ytmnnikceohepcaa.T.den, Ex.ev, U1.ev, U2.ev, U3.ev, gam, List.map, List.getD_cons_zero, List.getD_cons_succ, List.length, List.cons_append, List.nil_append, if_true, Sc.int_i, Sc.bool_b, Sc.list_l, Sc.str_s, Nat.reduceEqDiff, if_false, List.getElem?_cons_zero, List.getElem?_cons_succ]
  by_cases h : okAll xs
  · have z := score_nat h (k := 0) h.2.2
    have c0 : ((0 : Nat) : Int) = 0 := rfl
    rw [c0] at z
    rw [z] at s0
    rw [detL_in h]
    have q2 := quo2 xs.length h.1
    simp only [s0, q2, Int.natCast_nonneg, bne_iff_ne, beq_iff_eq, ne_eq, decide_eq_true_eq, Bool.and_eq_true, Bool.or_eq_true, Bool.not_eq_true', decide_eq_false_iff_not, beq_eq_false_iff_ne, bne_eq_false_iff_eq, not_true_eq_false, not_false_eq_true, if_true, if_false, reduceIte, and_true, true_and, and_false, false_and, or_false, false_or, or_true, true_or, List.getD_cons_zero, List.getD_cons_succ, List.length_cons, List.length_nil, List.cons_append, List.nil_append, Nat.reduceAdd, Nat.reduceEqDiff, reduceCtorEq, Bool.not_true, Bool.not_false, Bool.true_and, Bool.and_true, Bool.false_and, Bool.and_false, Bool.or_true, Bool.true_or, Bool.or_false, Bool.false_or, Bool.false_eq_true, Bool.true_eq_false, Sc.int_i, Sc.bool_b, Sc.list_l, Sc.str_s, Int.reduceEq, Int.reduceLT, Int.reduceLE, Int.reduceNe, decide_true, decide_false, decide_not, eq_self, Classical.not_not, List.getElem?_cons_zero, List.getElem?_cons_succ, beq_self_eq_true, bne_self_eq_false]
    have conv : ([.i 0, .i 1, .i (scQ xs 0).num, .i (scQ xs 0).den] : List Sc) = [.i (best (scQ xs) 0 : Nat), .i ((0 + 1 : Nat) : Int), .i (scQ xs (best (scQ xs) 0)).num, .i (scQ xs (best (scQ xs) 0)).den] := rfl
    rw [conv]
    refine loop_rounds (S := Nat) (fun k => [.i (best (scQ xs) k : Nat), .i ((k + 1 : Nat) : Int), .i (scQ xs (best (scQ xs) k)).num, .i (scQ xs (best (scQ xs) k)).den]) (fun _ => some [.i (best (scQ xs) (xs.length / 2) : Nat), .b true]) (fun k => k ≤ xs.length / 2) (fun k => xs.length / 2 - k) ?_ 0 (by omega) (by have := h.1; omega)
    intro k rec hk hrec
    by_cases hlt : k + 1 ≤ xs.length / 2
    · have hr := hrec (k + 1) hlt (by omega)
      have hl : ((k + 1 : Nat) : Int) ≤ ((xs.length / 2 : Nat) : Int) := by omega
      have sk := rscore_F xs ((k + 1 : Nat) : Int) hlen
      rw [score_nat h (by omega)] at sk
      have f1 := score_fit h.2.1 h.1 (show k + 1 < xs.length by omega)
      have f2 := score_fit h.2.1 h.1 (show best (scQ xs) k < xs.length by have := best_le (scQ xs) k; omega)
      obtain ⟨a1, a2⟩ := fit_bounds f1
      obtain ⟨b1, b2⟩ := fit_bounds f2
      have cm := rCmp_F (scQ xs (k + 1)).num (scQ xs (k + 1)).den (scQ xs (best (scQ xs) k)).num (scQ xs (best (scQ xs) k)).den ⟨by omega, by omega⟩ ⟨by omega, by omega⟩ ⟨by omega, by omega⟩ ⟨by omega, by omega⟩
      rw [usual_ok f1, usual_ok f2] at cm
      have w : IntKind.i64.wrap (((k + 1 : Nat) : Int) + 1) = ((k + 1 + 1 : Nat) : Int) := by have := h.1; rw [wrI (by omega) (by omega)]; omega
      by_cases hc : scQ xs (k + 1) < scQ xs (best (scQ xs) k)
      · have hc' := cmpQ_lt.2 hc
        have eb : best (scQ xs) (k + 1) = k + 1 := by conv => lhs; unfold best; rw [if_pos hc]
        rw [eb] at hr
        simp only [hl, sk, cm, hc', w, hr, Int.natCast_nonneg, bne_iff_ne, beq_iff_eq, ne_eq, decide_eq_true_eq, Bool.and_eq_true, Bool.or_eq_true, Bool.not_eq_true', decide_eq_false_iff_not, beq_eq_false_iff_ne, bne_eq_false_iff_eq, not_true_eq_false, not_false_eq_true, if_true, if_false, reduceIte, and_true, true_and, and_false, false_and, or_false, false_or, or_true, true_or, List.getD_cons_zero, List.getD_cons_succ, List.length_cons, List.length_nil, List.cons_append, List.nil_append, Nat.reduceAdd, Nat.reduceEqDiff, reduceCtorEq, Bool.not_true, Bool.not_false, Bool.true_and, Bool.and_true, Bool.false_and, Bool.and_false, Bool.or_true, Bool.true_or, Bool.or_false, Bool.false_or, Bool.false_eq_true, Bool.true_eq_false, Sc.int_i, Sc.bool_b, Sc.list_l, Sc.str_s, Int.reduceEq, Int.reduceLT, Int.reduceLE, Int.reduceNe, decide_true, decide_false, decide_not, eq_self, Classical.not_not, List.getElem?_cons_zero, List.getElem?_cons_succ, beq_self_eq_true, bne_self_eq_false]
      · have hc' : ¬ cmpQ (scQ xs (k + 1)) (scQ xs (best (scQ xs) k)) < 0 := fun x => hc (cmpQ_lt.1 x)
        have eb : best (scQ xs) (k + 1) = best (scQ xs) k := by conv => lhs; unfold best; rw [if_neg hc]
        rw [eb] at hr
        simp only [hl, sk, cm, hc', w, hr, Int.natCast_nonneg, bne_iff_ne, beq_iff_eq, ne_eq, decide_eq_true_eq, Bool.and_eq_true, Bool.or_eq_true, Bool.not_eq_true', decide_eq_false_iff_not, beq_eq_false_iff_ne, bne_eq_false_iff_eq, not_true_eq_false, not_false_eq_true, if_true, if_false, reduceIte, and_true, true_and, and_false, false_and, or_false, false_or, or_true, true_or, List.getD_cons_zero, List.getD_cons_succ, List.length_cons, List.length_nil, List.cons_append, List.nil_append, Nat.reduceAdd, Nat.reduceEqDiff, reduceCtorEq, Bool.not_true, Bool.not_false, Bool.true_and, Bool.and_true, Bool.false_and, Bool.and_false, Bool.or_true, Bool.true_or, Bool.or_false, Bool.false_or, Bool.false_eq_true, Bool.true_eq_false, Sc.int_i, Sc.bool_b, Sc.list_l, Sc.str_s, Int.reduceEq, Int.reduceLT, Int.reduceLE, Int.reduceNe, decide_true, decide_false, decide_not, eq_self, Classical.not_not, List.getElem?_cons_zero, List.getElem?_cons_succ, beq_self_eq_true, bne_self_eq_false]
    · have hl : ¬ ((k + 1 : Nat) : Int) ≤ ((xs.length / 2 : Nat) : Int) := by omega
      have e : k = xs.length / 2 := by omega
      subst e
      simp only [hl, Int.natCast_nonneg, bne_iff_ne, beq_iff_eq, ne_eq, decide_eq_true_eq, Bool.and_eq_true, Bool.or_eq_true, Bool.not_eq_true', decide_eq_false_iff_not, beq_eq_false_iff_ne, bne_eq_false_iff_eq, not_true_eq_false, not_false_eq_true, if_true, if_false, reduceIte, and_true, true_and, and_false, false_and, or_false, false_or, or_true, true_or, List.getD_cons_zero, List.getD_cons_succ, List.length_cons, List.length_nil, List.cons_append, List.nil_append, Nat.reduceAdd, Nat.reduceEqDiff, reduceCtorEq, Bool.not_true, Bool.not_false, Bool.true_and, Bool.and_true, Bool.false_and, Bool.and_false, Bool.or_true, Bool.true_or, Bool.or_false, Bool.false_or, Bool.false_eq_true, Bool.true_eq_false, Sc.int_i, Sc.bool_b, Sc.list_l, Sc.str_s, Int.reduceEq, Int.reduceLT, Int.reduceLE, Int.reduceNe, decide_true, decide_false, decide_not, eq_self, Classical.not_not, List.getElem?_cons_zero, List.getElem?_cons_succ, beq_self_eq_true, bne_self_eq_false]
  · rw [score_zero h] at s0
    rw [detL_out h]
    simp only [s0, Int.natCast_nonneg, bne_iff_ne, beq_iff_eq, ne_eq, decide_eq_true_eq, Bool.and_eq_true, Bool.or_eq_true, Bool.not_eq_true', decide_eq_false_iff_not, beq_eq_false_iff_ne, bne_eq_false_iff_eq, not_true_eq_false, not_false_eq_true, if_true, if_false, reduceIte, and_true, true_and, and_false, false_and, or_false, false_or, or_true, true_or, List.getD_cons_zero, List.getD_cons_succ, List.length_cons, List.length_nil, List.cons_append, List.nil_append, Nat.reduceAdd, Nat.reduceEqDiff, reduceCtorEq, Bool.not_true, Bool.not_false, Bool.true_and, Bool.and_true, Bool.false_and, Bool.and_false, Bool.or_true, Bool.true_or, Bool.or_false, Bool.false_or, Bool.false_eq_true, Bool.true_eq_false, Sc.int_i, Sc.bool_b, Sc.list_l, Sc.str_s, Int.reduceEq, Int.reduceLT, Int.reduceLE, Int.reduceNe, decide_true, decide_false, decide_not, eq_self, Classical.not_not, List.getElem?_cons_zero, List.getElem?_cons_succ, beq_self_eq_true, bne_self_eq_false]
theorem same47_F (L : List Int) (hL : L.length ≤ 8796093022208) : k_simulatorref47_SameInts.F [.l (L.map .i), .l (L.map .i)] = some [.b true] := by
  simp only [k_simulatorref47_SameInts_F, tk_simulatorref47_SameInts, List.length_map, Go.Proofs.Ytmnnikceohepcaa.T.den, Ex.ev, U1.ev, U2.ev, U3.ev, gam, List.map, List.getD_cons_zero, List.getD_cons_succ, List.length, List.cons_append, List.nil_append, if_true, Sc.int_i, Sc.bool_b, Sc.list_l, Sc.str_s, Nat.reduceEqDiff, if_false, List.getElem?_cons_zero, List.getElem?_cons_succ]
  simp only [Int.natCast_nonneg, bne_iff_ne, beq_iff_eq, ne_eq, decide_eq_true_eq, Bool.and_eq_true, Bool.or_eq_true, Bool.not_eq_true', decide_eq_false_iff_not, beq_eq_false_iff_ne, bne_eq_false_iff_eq, not_true_eq_false, not_false_eq_true, if_true, if_false, reduceIte, and_true, true_and, and_false, false_and, or_false, false_or, or_true, true_or, List.getD_cons_zero, List.getD_cons_succ, List.length_cons, List.length_nil, List.cons_append, List.nil_append, Nat.reduceAdd, Nat.reduceEqDiff, reduceCtorEq, Bool.not_true, Bool.not_false, Bool.true_and, Bool.and_true, Bool.false_and, Bool.and_false, Bool.or_true, Bool.true_or, Bool.or_false, Bool.false_or, Bool.false_eq_true, Bool.true_eq_false, Sc.int_i, Sc.bool_b, Sc.list_l, Sc.str_s, Int.reduceEq, Int.reduceLT, Int.reduceLE, Int.reduceNe, decide_true, decide_false, decide_not, eq_self, Classical.not_not, List.getElem?_cons_zero, List.getElem?_cons_succ, beq_self_eq_true, bne_self_eq_false]
  refine loop_rounds (S := Nat) (fun k => [.i k]) (fun _ => some [.b true]) (fun k => k ≤ L.length) (fun k => L.length - k) ?_ 0 (by omega) (by omega)
  intro k rec hk hrec
  by_cases h : k < L.length
  · have hr := hrec (k + 1) (by omega) (by omega)
    have hk : (k : Int) < L.length := by omega
    have hw := succ_w (n := L.length) h (by omega)
    simp only [hk, hw, hr, Int.natCast_nonneg, bne_iff_ne, beq_iff_eq, ne_eq, decide_eq_true_eq, Bool.and_eq_true, Bool.or_eq_true, Bool.not_eq_true', decide_eq_false_iff_not, beq_eq_false_iff_ne, bne_eq_false_iff_eq, not_true_eq_false, not_false_eq_true, if_true, if_false, reduceIte, and_true, true_and, and_false, false_and, or_false, false_or, or_true, true_or, List.getD_cons_zero, List.getD_cons_succ, List.length_cons, List.length_nil, List.cons_append, List.nil_append, Nat.reduceAdd, Nat.reduceEqDiff, reduceCtorEq, Bool.not_true, Bool.not_false, Bool.true_and, Bool.and_true, Bool.false_and, Bool.and_false, Bool.or_true, Bool.true_or, Bool.or_false, Bool.false_or, Bool.false_eq_true, Bool.true_eq_false, Sc.int_i, Sc.bool_b, Sc.list_l, Sc.str_s, Int.reduceEq, Int.reduceLT, Int.reduceLE, Int.reduceNe, decide_true, decide_false, decide_not, eq_self, Classical.not_not, List.getElem?_cons_zero, List.getElem?_cons_succ, beq_self_eq_true, bne_self_eq_false]
  · have hk : ¬ (k : Int) < L.length := by omega
    simp only [hk, Int.natCast_nonneg, bne_iff_ne, beq_iff_eq, ne_eq, decide_eq_true_eq, Bool.and_eq_true, Bool.or_eq_true, Bool.not_eq_true', decide_eq_false_iff_not, beq_eq_false_iff_ne, bne_eq_false_iff_eq, not_true_eq_false, not_false_eq_true, if_true, if_false, reduceIte, and_true, true_and, and_false, false_and, or_false, false_or, or_true, true_or, List.getD_cons_zero, List.getD_cons_succ, List.length_cons, List.length_nil, List.cons_append, List.nil_append, Nat.reduceAdd, Nat.reduceEqDiff, reduceCtorEq, Bool.not_true, Bool.not_false, Bool.true_and, Bool.and_true, Bool.false_and, Bool.and_false, Bool.or_true, Bool.true_or, Bool.or_false, Bool.false_or, Bool.false_eq_true, Bool.true_eq_false, Sc.int_i, Sc.bool_b, Sc.list_l, Sc.str_s, Int.reduceEq, Int.reduceLT, Int.reduceLE, Int.reduceNe, decide_true, decide_false, decide_not, eq_self, Classical.not_not, List.getElem?_cons_zero, List.getElem?_cons_succ, beq_self_eq_true, bne_self_eq_false]
def cutN (xs : List Int) (k : Int) : Nat := min k.toNat xs.length
theorem cut_F (xs : List Int) (k : Int) (hk : I64 k) (hl : xs.length ≤ 8796093022208) : k_warmup_Cut.F [.l (xs.map .i), .i k] = some [.l ((xs.drop (cutN xs k)).map .i)] := by
  simp only [k_warmup_Cut_F, tk_warmup_Cut, List.length_map, Go.Proofs.Ytmnnikceohepcaa.T.den, Ex.ev, U1.ev, U2.ev, U3.ev, gam, List.map, List.getD_cons_zero, List.getD_cons_succ, List.length, List.cons_append, List.nil_append, if_true, Sc.int_i, Sc.bool_b, Sc.list_l, Sc.str_s, Nat.reduceEqDiff, if_false, List.getElem?_cons_zero, List.getElem?_cons_succ]
  obtain ⟨k1, k2⟩ := hk
  have e : (if (if (xs.length : Int) < k then (xs.length : Int) else k) > 0 then (if (xs.length : Int) < k then (xs.length : Int) else k) else 0) = (cutN xs k : Nat) := by
    unfold cutN; split <;> split <;> omega
  have hc : cutN xs k ≤ xs.length := by unfold cutN; omega
  have hc2 : ((cutN xs k : Nat) : Int) ≤ xs.length := by omega
  have w1 : IntKind.i64.wrap ((xs.length : Int) - (cutN xs k : Nat)) = ((xs.length - cutN xs k : Nat) : Int) := by rw [wrI (by omega) (by omega)]; omega
  have w2 : IntKind.i64.wrap (((cutN xs k : Nat) : Int) + ((xs.length - cutN xs k : Nat) : Int)) = (xs.length : Int) := by rw [wrI (by omega) (by omega)]; omega
  simp only [e]
  simp only [hc2, Int.le_refl, w1, w2, Int.toNat_natCast, Int.natCast_nonneg, bne_iff_ne, beq_iff_eq, ne_eq, decide_eq_true_eq, Bool.and_eq_true, Bool.or_eq_true, Bool.not_eq_true', decide_eq_false_iff_not, beq_eq_false_iff_ne, bne_eq_false_iff_eq, not_true_eq_false, not_false_eq_true, if_true, if_false, reduceIte, and_true, true_and, and_false, false_and, or_false, false_or, or_true, true_or, List.getD_cons_zero, List.getD_cons_succ, List.length_cons, List.length_nil, List.cons_append, List.nil_append, Nat.reduceAdd, Nat.reduceEqDiff, reduceCtorEq, Bool.not_true, Bool.not_false, Bool.true_and, Bool.and_true, Bool.false_and, Bool.and_false, Bool.or_true, Bool.true_or, Bool.or_false, Bool.false_or, Bool.false_eq_true, Bool.true_eq_false, Sc.int_i, Sc.bool_b, Sc.list_l, Sc.str_s, Int.reduceEq, Int.reduceLT, Int.reduceLE, Int.reduceNe, decide_true, decide_false, decide_not, eq_self, Classical.not_not, List.getElem?_cons_zero, List.getElem?_cons_succ, beq_self_eq_true, bne_self_eq_false]
  rw [List.take_of_length_le (by simp), List.map_drop]
theorem rcut_F (xs : List Int) (k : Int) (hl : xs.length ≤ 8796093022208) : k_simulatorref47_Cut.F [.l (xs.map .i), .i k] = some [.l ((xs.drop (cutN xs k)).map .i)] := by
  simp only [k_simulatorref47_Cut_F, tk_simulatorref47_Cut, List.length_map, Go.Proofs.Ytmnnikceohepcaa.T.den, Ex.ev, U1.ev, U2.ev, U3.ev, gam, List.map, List.getD_cons_zero, List.getD_cons_succ, List.length, List.cons_append, List.nil_append, if_true, Sc.int_i, Sc.bool_b, Sc.list_l, Sc.str_s, Nat.reduceEqDiff, if_false, List.getElem?_cons_zero, List.getElem?_cons_succ]
  have conv : ([.l [], .i 0] : List Sc) = [.l (((xs.take 0).drop (cutN xs k)).map .i), .i ((0 : Nat) : Int)] := by simp
  rw [conv]
  refine loop_rounds (S := Nat) (fun j => [.l (((xs.take j).drop (cutN xs k)).map .i), .i j]) (fun _ => some [.l ((xs.drop (cutN xs k)).map .i)]) (fun j => j ≤ xs.length) (fun j => xs.length - j) ?_ 0 (by omega) (by omega)
  intro j rec hj hrec
  by_cases h : j < xs.length
  · have hr := hrec (j + 1) (by omega) (by omega)
    have hjl : (j : Int) < xs.length := by omega
    have hi := idx_map Sc.i xs j h
    have hw := succ_w (n := xs.length) h (by omega)
    by_cases hc : k ≤ (j : Int)
    · have hcn : cutN xs k ≤ j := by unfold cutN; omega
      have e : (xs.take (j + 1)).drop (cutN xs k) = (xs.take j).drop (cutN xs k) ++ [xs[j]] := by
        rw [List.take_add_one, List.getElem?_eq_getElem h, List.drop_append_of_le_length (by rw [List.length_take]; omega)]; rfl
      rw [e, List.map_append] at hr
      have hlen : ((((xs.take j).drop (cutN xs k)).map Sc.i ++ [Sc.i xs[j]]).length : Int) ≤ 17592186044416 := by
        simp only [List.length_append, List.length_map, List.length_drop, List.length_take, List.length_cons, List.length_nil]; omega
      simp only [List.map_cons, List.map_nil] at hr
      simp only [hjl, hi, hw, hc, hlen, hr, Int.natCast_nonneg, bne_iff_ne, beq_iff_eq, ne_eq, decide_eq_true_eq, Bool.and_eq_true, Bool.or_eq_true, Bool.not_eq_true', decide_eq_false_iff_not, beq_eq_false_iff_ne, bne_eq_false_iff_eq, not_true_eq_false, not_false_eq_true, if_true, if_false, reduceIte, and_true, true_and, and_false, false_and, or_false, false_or, or_true, true_or, List.getD_cons_zero, List.getD_cons_succ, List.length_cons, List.length_nil, List.cons_append, List.nil_append, Nat.reduceAdd, Nat.reduceEqDiff, reduceCtorEq, Bool.not_true, Bool.not_false, Bool.true_and, Bool.and_true, Bool.false_and, Bool.and_false, Bool.or_true, Bool.true_or, Bool.or_false, Bool.false_or, Bool.false_eq_true, Bool.true_eq_false, Sc.int_i, Sc.bool_b, Sc.list_l, Sc.str_s, Int.reduceEq, Int.reduceLT, Int.reduceLE, Int.reduceNe, decide_true, decide_false, decide_not, eq_self, Classical.not_not, List.getElem?_cons_zero, List.getElem?_cons_succ, beq_self_eq_true, bne_self_eq_false]
    · have hcn : j + 1 ≤ cutN xs k := by unfold cutN; omega
      have e1 : (xs.take (j + 1)).drop (cutN xs k) = [] := List.drop_eq_nil_of_le (by rw [List.length_take]; omega)
      have e2 : (xs.take j).drop (cutN xs k) = [] := List.drop_eq_nil_of_le (by rw [List.length_take]; omega)
      rw [e1] at hr
      rw [e2]
      simp only [hjl, hw, hc, hr, Int.natCast_nonneg, bne_iff_ne, beq_iff_eq, ne_eq, decide_eq_true_eq, Bool.and_eq_true, Bool.or_eq_true, Bool.not_eq_true', decide_eq_false_iff_not, beq_eq_false_iff_ne, bne_eq_false_iff_eq, not_true_eq_false, not_false_eq_true, if_true, if_false, reduceIte, and_true, true_and, and_false, false_and, or_false, false_or, or_true, true_or, List.getD_cons_zero, List.getD_cons_succ, List.length_cons, List.length_nil, List.cons_append, List.nil_append, Nat.reduceAdd, Nat.reduceEqDiff, reduceCtorEq, Bool.not_true, Bool.not_false, Bool.true_and, Bool.and_true, Bool.false_and, Bool.and_false, Bool.or_true, Bool.true_or, Bool.or_false, Bool.false_or, Bool.false_eq_true, Bool.true_eq_false, Sc.int_i, Sc.bool_b, Sc.list_l, Sc.str_s, Int.reduceEq, Int.reduceLT, Int.reduceLE, Int.reduceNe, decide_true, decide_false, decide_not, eq_self, Classical.not_not, List.getElem?_cons_zero, List.getElem?_cons_succ, beq_self_eq_true, bne_self_eq_false]
  · have hjl : ¬ (j : Int) < xs.length := by omega
    have e : j = xs.length := by omega
    subst e
    rw [List.take_length]
    simp only [hjl, Int.natCast_nonneg, bne_iff_ne, beq_iff_eq, ne_eq, decide_eq_true_eq, Bool.and_eq_true, Bool.or_eq_true, Bool.not_eq_true', decide_eq_false_iff_not, beq_eq_false_iff_ne, bne_eq_false_iff_eq, not_true_eq_false, not_false_eq_true, if_true, if_false, reduceIte, and_true, true_and, and_false, false_and, or_false, false_or, or_true, true_or, List.getD_cons_zero, List.getD_cons_succ, List.length_cons, List.length_nil, List.cons_append, List.nil_append, Nat.reduceAdd, Nat.reduceEqDiff, reduceCtorEq, Bool.not_true, Bool.not_false, Bool.true_and, Bool.and_true, Bool.false_and, Bool.and_false, Bool.or_true, Bool.true_or, Bool.or_false, Bool.false_or, Bool.false_eq_true, Bool.true_eq_false, Sc.int_i, Sc.bool_b, Sc.list_l, Sc.str_s, Int.reduceEq, Int.reduceLT, Int.reduceLE, Int.reduceNe, decide_true, decide_false, decide_not, eq_self, Classical.not_not, List.getElem?_cons_zero, List.getElem?_cons_succ, beq_self_eq_true, bne_self_eq_false]
end Go.Proofs.Ytmnnikceohepcaa
