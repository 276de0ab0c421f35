/-
  Chapter 49: what least, Quantile and Of return.
-/
import Derived.Test.YtchnhfnnlkncdaaDoorM49
import Derived.Test.YtchnhfnnlkncdaaDoorRfB
namespace Go.Proofs.YtchnhfnnlkncdaaDoor
set_option linter.unusedSimpArgs false
set_option linter.unusedVariables false

theorem hN_ok (m : Nat) : hN m ≤ 1000000000000 ↔ m ≤ 1000000000000000000000000 := by
  obtain ⟨s1, s2, s3⟩ := hN_spec m
  generalize hN m = h at *
  constructor
  · intro hh
    have := s3 (by omega)
    have := sq_le hh
    omega
  · intro hm
    refine Classical.byContradiction fun hn => ?_
    have := s2 1000000000000 (by omega)
    omega
theorem rleast_F (m : Nat) (hm : m < 340282366920938463463374607431768211456) : k_simulatorref49_least.F [.i (hiW m), .i (loW m)] = some (if m ≤ 1000000000000000000000000 then [.i (hN m : Nat), .b true] else [.i 0, .b false]) := by
  have t0 := rTimes_F 1000000000000 1000000000000 (by omega) (by omega)
  have l0 := less_F (1000000000000 * 1000000000000) m
  have mid_mul : ∀ lo hi : Nat, lo < hi → hi ≤ 1000000000000 → k_simulatorref02_Times.F [.i (((lo + hi) / 2 : Nat) : Int), .i (((lo + hi) / 2 : Nat) : Int)] = some [.i (hiW ((lo + hi) / 2 * ((lo + hi) / 2))), .i (loW ((lo + hi) / 2 * ((lo + hi) / 2)))] := fun lo hi h1 h2 => rTimes_F _ _ (by omega) (by omega)
  have c0 : (((1000000000000 : Nat) : Int)) = 1000000000000 := rfl
  rw [c0] at t0
  simp only [k_simulatorref49_least_F, tk_simulatorref49_least, k_simulatorref02_Times_f, k_simulatorref02_Less_f, t0, l0, Go.Proofs.YtchnhfnnlkncdaaDoor.T.den, Ex.ev, U1.ev, U2.ev, U3.ev, gam, List.map, List.getD_cons_zero, List.getD_cons_succ, List.length, List.cons_append, List.nil_append, if_true, Sc.int_i, Sc.bool_b, Sc.list_l, Sc.str_s, Nat.reduceEqDiff, if_false, List.getElem?_cons_zero, List.getElem?_cons_succ]
  by_cases h : m ≤ 1000000000000000000000000
  · have hd : ¬ 1000000000000 * 1000000000000 < m := by omega
    rw [if_pos h]
    refine (if_neg (by rw [decide_eq_false hd]; simp)).trans ?_
    refine loop_rounds (S := Nat × Nat) (fun s => [.i (s.1 : Int), .i (s.2 : Int)]) (fun _ => some [.i (hN m : Nat), .b true]) (fun s => s.1 ≤ s.2 ∧ s.2 ≤ 1000000000000 ∧ (∀ x, x < s.1 → x * x < m) ∧ m ≤ s.2 * s.2) (fun s => s.2 - s.1) ?_ (0, 1000000000000) ⟨by omega, Nat.le_refl _, fun x h => absurd h (Nat.not_lt_zero _), h⟩ (by simp only; omega)
    rintro ⟨lo, hi⟩ rec ⟨i1, i2, i3, i4⟩ hrec
    simp only at i1 i2 i3 i4 ⊢
    by_cases hlt : lo < hi
    · have hlt' : (lo : Int) < hi := by omega
      have mm := mid_mul lo hi hlt i2
      have a1 : lo ≤ (lo + hi) / 2 := by omega
      have a2 : (lo + hi) / 2 < hi := by omega
      have e1 : IntKind.i64.wrap ((lo : Int) + hi) = ((lo + hi : Nat) : Int) := by rw [wrI (by omega) (by omega)]; omega
      have e2 : IntKind.i64.wrap (Int.tdiv ((lo + hi : Nat) : Int) 2) = (((lo + hi) / 2 : Nat) : Int) := by
        have e : Int.tdiv ((lo + hi : Nat) : Int) 2 = (((lo + hi) / 2 : Nat) : Int) := rfl
        rw [e, wrI (by omega) (by omega)]
      have e3 : IntKind.u64.wrap (((lo + hi) / 2 : Nat) : Int) = (((lo + hi) / 2 : Nat) : Int) := wrU (by omega) (by omega)
      have e4 : IntKind.i64.wrap ((((lo + hi) / 2 : Nat) : Int) + 1) = (((lo + hi) / 2 + 1 : Nat) : Int) := by rw [wrI (by omega) (by omega)]; omega
      have ls := less_F ((lo + hi) / 2 * ((lo + hi) / 2)) m
      generalize (lo + hi) / 2 = mid at *
      by_cases c : mid * mid < m
      · have r := hrec (mid + 1, hi) ⟨by simp only; omega, i2, fun x hx => by
          have := sq_le (show x ≤ mid by simp only at hx; omega)
          omega, i4⟩ (by simp only; omega)
        simp only at r
        rw [decide_eq_true c] at ls
        refine (if_pos (decide_eq_true hlt')).trans ?_
        simp only [List.cons_append, List.nil_append, List.getD_cons_succ, List.getD_cons_zero]
        simp only [int_n, bool_n, e1, e2, e3, mm, ls, List.length_cons, List.length_nil, Nat.reduceAdd, if_true, e4, r, List.cons_append, List.nil_append, List.getD_cons_succ, List.getD_cons_zero]
      · have r := hrec (lo, mid) ⟨a1, by simp only; omega, i3, by simp only; omega⟩ (by simp only; omega)
        simp only at r
        rw [decide_eq_false c] at ls
        refine (if_pos (decide_eq_true hlt')).trans ?_
        simp only [List.cons_append, List.nil_append, List.getD_cons_succ, List.getD_cons_zero]
        simp only [int_n, bool_n, e1, e2, e3, mm, ls, List.length_cons, List.length_nil, Nat.reduceAdd, if_true, if_false, Bool.false_eq_true, r, List.cons_append, List.nil_append, List.getD_cons_succ, List.getD_cons_zero]
    · have e : lo = hi := by omega
      subst e
      have hu := hN_uniq (m := m) (h := lo) (by omega) i3 (fun _ => i4)
      rw [hu]
      have hlt' : ¬ (lo : Int) < lo := by omega
      refine (if_neg (show ¬ decide ((lo : Int) < lo) = true by simp)).trans ?_
      rfl
  · have hd : 1000000000000 * 1000000000000 < m := by omega
    rw [if_neg h]
    exact if_pos (decide_eq_true hd)
theorem rquant_F (n : Int) : k_simulatorref49_Quantile.F [.i n] = some [.i (quantV n).1, .b (quantV n).2] := by
  simp only [k_simulatorref49_Quantile_F, tk_simulatorref49_Quantile, Go.Proofs.YtchnhfnnlkncdaaDoor.T.den, Ex.ev, U1.ev, U2.ev, U3.ev, gam, List.map, List.getD_cons_zero, List.getD_cons_succ, List.length, List.cons_append, List.nil_append, if_true, Sc.int_i, Sc.bool_b, Sc.list_l, Sc.str_s, Nat.reduceEqDiff, if_false, List.getElem?_cons_zero, List.getElem?_cons_succ]
  unfold quantV
  by_cases h1 : n < 1
  · rw [if_pos (show n < 1 ∨ 50 < n from .inl h1)]; simp only [h1, Int.natCast_nonneg, bne_iff_ne, beq_iff_eq, ne_eq, decide_eq_true_eq, Bool.and_eq_true, Bool.or_eq_true, Bool.not_eq_true', decide_eq_false_iff_not, beq_eq_false_iff_ne, bne_eq_false_iff_eq, not_true_eq_false, not_false_eq_true, if_true, if_false, reduceIte, and_true, true_and, and_false, false_and, or_false, false_or, or_true, true_or, List.getD_cons_zero, List.getD_cons_succ, List.length_cons, List.length_nil, List.cons_append, List.nil_append, Nat.reduceAdd, Nat.reduceEqDiff, reduceCtorEq, Bool.not_true, Bool.not_false, Bool.true_and, Bool.and_true, Bool.false_and, Bool.and_false, Bool.or_true, Bool.true_or, Bool.or_false, Bool.false_or, Bool.false_eq_true, Bool.true_eq_false, Sc.int_i, Sc.bool_b, Sc.list_l, Sc.str_s, Int.reduceEq, Int.reduceLT, Int.reduceLE, Int.reduceNe, decide_true, decide_false, decide_not, eq_self, Classical.not_not, List.getElem?_cons_zero, List.getElem?_cons_succ, beq_self_eq_true, bne_self_eq_false]
  by_cases h2 : 50 < n
  · rw [if_pos (show n < 1 ∨ 50 < n from .inr h2)]; simp only [h1, h2, Int.natCast_nonneg, bne_iff_ne, beq_iff_eq, ne_eq, decide_eq_true_eq, Bool.and_eq_true, Bool.or_eq_true, Bool.not_eq_true', decide_eq_false_iff_not, beq_eq_false_iff_ne, bne_eq_false_iff_eq, not_true_eq_false, not_false_eq_true, if_true, if_false, reduceIte, and_true, true_and, and_false, false_and, or_false, false_or, or_true, true_or, List.getD_cons_zero, List.getD_cons_succ, List.length_cons, List.length_nil, List.cons_append, List.nil_append, Nat.reduceAdd, Nat.reduceEqDiff, reduceCtorEq, Bool.not_true, Bool.not_false, Bool.true_and, Bool.and_true, Bool.false_and, Bool.and_false, Bool.or_true, Bool.true_or, Bool.or_false, Bool.false_or, Bool.false_eq_true, Bool.true_eq_false, Sc.int_i, Sc.bool_b, Sc.list_l, Sc.str_s, Int.reduceEq, Int.reduceLT, Int.reduceLE, Int.reduceNe, decide_true, decide_false, decide_not, eq_self, Classical.not_not, List.getElem?_cons_zero, List.getElem?_cons_succ, beq_self_eq_true, bne_self_eq_false]
  rw [if_neg (show ¬ (n < 1 ∨ 50 < n) by omega)]
  by_cases h3 : n ≤ 30
  · rw [if_pos h3]
    obtain ⟨N, rfl⟩ : ∃ N : Nat, n = N := ⟨n.toNat, by omega⟩
    have hN : N = 1 ∨ N = 2 ∨ N = 3 ∨ N = 4 ∨ N = 5 ∨ N = 6 ∨ N = 7 ∨ N = 8 ∨ N = 9 ∨ N = 10 ∨ N = 11 ∨ N = 12 ∨ N = 13 ∨ N = 14 ∨ N = 15 ∨ N = 16 ∨ N = 17 ∨ N = 18 ∨ N = 19 ∨ N = 20 ∨ N = 21 ∨ N = 22 ∨ N = 23 ∨ N = 24 ∨ N = 25 ∨ N = 26 ∨ N = 27 ∨ N = 28 ∨ N = 29 ∨ N = 30 := by omega
    rcases hN with rfl | rfl | rfl | rfl | rfl | rfl | rfl | rfl | rfl | rfl | rfl | rfl | rfl | rfl | rfl | rfl | rfl | rfl | rfl | rfl | rfl | rfl | rfl | rfl | rfl | rfl | rfl | rfl | rfl | rfl <;> rfl
  rw [if_neg h3]
  by_cases h4 : n ≤ 40
  · rw [if_pos h4]; simp only [h1, h2, h3, h4, Int.natCast_nonneg, bne_iff_ne, beq_iff_eq, ne_eq, decide_eq_true_eq, Bool.and_eq_true, Bool.or_eq_true, Bool.not_eq_true', decide_eq_false_iff_not, beq_eq_false_iff_ne, bne_eq_false_iff_eq, not_true_eq_false, not_false_eq_true, if_true, if_false, reduceIte, and_true, true_and, and_false, false_and, or_false, false_or, or_true, true_or, List.getD_cons_zero, List.getD_cons_succ, List.length_cons, List.length_nil, List.cons_append, List.nil_append, Nat.reduceAdd, Nat.reduceEqDiff, reduceCtorEq, Bool.not_true, Bool.not_false, Bool.true_and, Bool.and_true, Bool.false_and, Bool.and_false, Bool.or_true, Bool.true_or, Bool.or_false, Bool.false_or, Bool.false_eq_true, Bool.true_eq_false, Sc.int_i, Sc.bool_b, Sc.list_l, Sc.str_s, Int.reduceEq, Int.reduceLT, Int.reduceLE, Int.reduceNe, decide_true, decide_false, decide_not, eq_self, Classical.not_not, List.getElem?_cons_zero, List.getElem?_cons_succ, beq_self_eq_true, bne_self_eq_false]
  · rw [if_neg h4]; simp only [h1, h2, h3, h4, Int.natCast_nonneg, bne_iff_ne, beq_iff_eq, ne_eq, decide_eq_true_eq, Bool.and_eq_true, Bool.or_eq_true, Bool.not_eq_true', decide_eq_false_iff_not, beq_eq_false_iff_ne, bne_eq_false_iff_eq, not_true_eq_false, not_false_eq_true, if_true, if_false, reduceIte, and_true, true_and, and_false, false_and, or_false, false_or, or_true, true_or, List.getD_cons_zero, List.getD_cons_succ, List.length_cons, List.length_nil, List.cons_append, List.nil_append, Nat.reduceAdd, Nat.reduceEqDiff, reduceCtorEq, Bool.not_true, Bool.not_false, Bool.true_and, Bool.and_true, Bool.false_and, Bool.and_false, Bool.or_true, Bool.true_or, Bool.or_false, Bool.false_or, Bool.false_eq_true, Bool.true_eq_false, Sc.int_i, Sc.bool_b, Sc.list_l, Sc.str_s, Int.reduceEq, Int.reduceLT, Int.reduceLE, Int.reduceNe, decide_true, decide_false, decide_not, eq_self, Classical.not_not, List.getElem?_cons_zero, List.getElem?_cons_succ, beq_self_eq_true, bne_self_eq_false]
theorem quant_ok {n : Int} (h1 : 1 ≤ n) (h2 : n ≤ 50) : ∃ q : Nat, (quantV n).1 = q ∧ 1 ≤ q ∧ q ≤ 12706 := by
  unfold quantV
  rw [if_neg (by omega)]
  by_cases h3 : n ≤ 30
  · rw [if_pos h3]
    have hall : ∀ i, i < 30 → ∃ q : Nat, quantL.getD i 0 = q ∧ 1 ≤ q ∧ q ≤ 12706 := by
      intro i hi
      have hm : quantL.getD i 0 ∈ quantL := by
        rw [List.getD_eq_getElem?_getD, List.getElem?_eq_getElem (show i < quantL.length from hi)]
        exact List.getElem_mem _
      have hb : ∀ x ∈ quantL, 1 ≤ x ∧ x ≤ 12706 := by decide
      have := hb _ hm
      exact ⟨(quantL.getD i 0).toNat, by omega, by omega, by omega⟩
    exact hall (n.toNat - 1) (by omega)
  rw [if_neg h3]
  by_cases h4 : n ≤ 40
  · rw [if_pos h4]; exact ⟨2021, rfl, by omega, by omega⟩
  · rw [if_neg h4]; exact ⟨2009, rfl, by omega, by omega⟩
/-- The half, in thousandths. -/
noncomputable def hOf (n : Nat) (v : Rat) : Nat := hN (cm n (quantV ((n : Int) - 1)).1.toNat v)
noncomputable def ofB (ps : List (Int × Int)) : List Sc := if ps.length < 2 then [.i 0, .i 0, .i 0, .i 0, .i 7] else if 50 < ps.length then [.i 0, .i 0, .i 0, .i 0, .i 6] else match mean50O ps, varO ps with
  | some m, some v => if hOf ps.length v ≤ 1000000000000 then [.i m.num, .i m.den, .i (Rat.divInt (hOf ps.length v) 1000).num, .i (Rat.divInt (hOf ps.length v) 1000).den, .i 0] else [.i 0, .i 0, .i 0, .i 0, .i 2]
  | _, _ => [.i 0, .i 0, .i 0, .i 0, .i 2]
theorem ofB_short {ps : List (Int × Int)} (h : ps.length < 2) : ofB ps = [.i 0, .i 0, .i 0, .i 0, .i 7] := if_pos h
theorem ofB_long {ps : List (Int × Int)} (h : 50 < ps.length) : ofB ps = [.i 0, .i 0, .i 0, .i 0, .i 6] := by unfold ofB; rw [if_neg (by omega), if_pos h]
theorem ofB_in {ps : List (Int × Int)} (h1 : ¬ ps.length < 2) (h2 : ¬ 50 < ps.length) : ofB ps = match mean50O ps, varO ps with
  | some m, some v => if hOf ps.length v ≤ 1000000000000 then [.i m.num, .i m.den, .i (Rat.divInt (hOf ps.length v) 1000).num, .i (Rat.divInt (hOf ps.length v) 1000).den, .i 0] else [.i 0, .i 0, .i 0, .i 0, .i 2]
  | _, _ => [.i 0, .i 0, .i 0, .i 0, .i 2] := by unfold ofB; rw [if_neg h1, if_neg h2]
theorem ofB_some {ps : List (Int × Int)} {m v : Rat} (h1 : ¬ ps.length < 2) (h2 : ¬ 50 < ps.length) (hm : mean50O ps = some m) (hv : varO ps = some v) : ofB ps = if hOf ps.length v ≤ 1000000000000 then [.i m.num, .i m.den, .i (Rat.divInt (hOf ps.length v) 1000).num, .i (Rat.divInt (hOf ps.length v) 1000).den, .i 0] else [.i 0, .i 0, .i 0, .i 0, .i 2] := by
  rw [ofB_in h1 h2, hm, hv]
theorem ofB_none {ps : List (Int × Int)} (h1 : ¬ ps.length < 2) (h2 : ¬ 50 < ps.length) (h : mean50O ps = none ∨ varO ps = none) : ofB ps = [.i 0, .i 0, .i 0, .i 0, .i 2] := by
  rw [ofB_in h1 h2]
  rcases h with h | h
  · rw [h]
  · rw [h]; cases mean50O ps <;> rfl
theorem num_nonneg' {v : Rat} (h : 0 ≤ v) : 0 ≤ v.num := Rat.num_nonneg.2 h
theorem fof49_F (ps : List (Int × Int)) (hps : ∀ p ∈ ps, FP p) (hl : ps.length ≤ 1000000) : k_interval_Of.F [.l (ps.map pt)] = some (ofB ps) := by
  simp only [k_interval_Of_F, tk_interval_Of, k_batch_Mean_f, k_batch_Variance_f, k_interval_Quantile_f, k_interval_half_f, k_frac_Of_f, List.length_map, Go.Proofs.YtchnhfnnlkncdaaDoor.T.den, Ex.ev, U1.ev, U2.ev, U3.ev, gam, List.map, List.getD_cons_zero, List.getD_cons_succ, List.length, List.cons_append, List.nil_append, if_true, Sc.int_i, Sc.bool_b, Sc.list_l, Sc.str_s, Nat.reduceEqDiff, if_false, List.getElem?_cons_zero, List.getElem?_cons_succ]
  by_cases h1 : ps.length < 2
  · have h1' : (ps.length : Int) < 2 := by omega
    rw [ofB_short h1]; simp only [h1', Int.natCast_nonneg, bne_iff_ne, beq_iff_eq, ne_eq, decide_eq_true_eq, Bool.and_eq_true, Bool.or_eq_true, Bool.not_eq_true', decide_eq_false_iff_not, beq_eq_false_iff_ne, bne_eq_false_iff_eq, not_true_eq_false, not_false_eq_true, if_true, if_false, reduceIte, and_true, true_and, and_false, false_and, or_false, false_or, or_true, true_or, List.getD_cons_zero, List.getD_cons_succ, List.length_cons, List.length_nil, List.cons_append, List.nil_append, Nat.reduceAdd, Nat.reduceEqDiff, reduceCtorEq, Bool.not_true, Bool.not_false, Bool.true_and, Bool.and_true, Bool.false_and, Bool.and_false, Bool.or_true, Bool.true_or, Bool.or_false, Bool.false_or, Bool.false_eq_true, Bool.true_eq_false, Sc.int_i, Sc.bool_b, Sc.list_l, Sc.str_s, Int.reduceEq, Int.reduceLT, Int.reduceLE, Int.reduceNe, decide_true, decide_false, decide_not, eq_self, Classical.not_not, List.getElem?_cons_zero, List.getElem?_cons_succ, beq_self_eq_true, bne_self_eq_false]
  have h1' : ¬ (ps.length : Int) < 2 := by omega
  by_cases h2 : 50 < ps.length
  · have h2' : (50 : Int) < ps.length := by omega
    rw [ofB_long h2]; simp only [h1', h2', Int.natCast_nonneg, bne_iff_ne, beq_iff_eq, ne_eq, decide_eq_true_eq, Bool.and_eq_true, Bool.or_eq_true, Bool.not_eq_true', decide_eq_false_iff_not, beq_eq_false_iff_ne, bne_eq_false_iff_eq, not_true_eq_false, not_false_eq_true, if_true, if_false, reduceIte, and_true, true_and, and_false, false_and, or_false, false_or, or_true, true_or, List.getD_cons_zero, List.getD_cons_succ, List.length_cons, List.length_nil, List.cons_append, List.nil_append, Nat.reduceAdd, Nat.reduceEqDiff, reduceCtorEq, Bool.not_true, Bool.not_false, Bool.true_and, Bool.and_true, Bool.false_and, Bool.and_false, Bool.or_true, Bool.true_or, Bool.or_false, Bool.false_or, Bool.false_eq_true, Bool.true_eq_false, Sc.int_i, Sc.bool_b, Sc.list_l, Sc.str_s, Int.reduceEq, Int.reduceLT, Int.reduceLE, Int.reduceNe, decide_true, decide_false, decide_not, eq_self, Classical.not_not, List.getElem?_cons_zero, List.getElem?_cons_succ, beq_self_eq_true, bne_self_eq_false]
  have h2' : ¬ (50 : Int) < ps.length := by omega
  have m := fmean50_O ps hps
  have v := fvar_O ps hps
  cases hm : mean50O ps with
  | none =>
    rw [hm, enc_none] at m
    rw [ofB_none h1 h2 (.inl hm)]
    obtain ⟨x, y, z, e⟩ := enc_form (varO ps)
    rw [e] at v
    simp only [h1', h2', m, v, Int.natCast_nonneg, bne_iff_ne, beq_iff_eq, ne_eq, decide_eq_true_eq, Bool.and_eq_true, Bool.or_eq_true, Bool.not_eq_true', decide_eq_false_iff_not, beq_eq_false_iff_ne, bne_eq_false_iff_eq, not_true_eq_false, not_false_eq_true, if_true, if_false, reduceIte, and_true, true_and, and_false, false_and, or_false, false_or, or_true, true_or, List.getD_cons_zero, List.getD_cons_succ, List.length_cons, List.length_nil, List.cons_append, List.nil_append, Nat.reduceAdd, Nat.reduceEqDiff, reduceCtorEq, Bool.not_true, Bool.not_false, Bool.true_and, Bool.and_true, Bool.false_and, Bool.and_false, Bool.or_true, Bool.true_or, Bool.or_false, Bool.false_or, Bool.false_eq_true, Bool.true_eq_false, Sc.int_i, Sc.bool_b, Sc.list_l, Sc.str_s, Int.reduceEq, Int.reduceLT, Int.reduceLE, Int.reduceNe, decide_true, decide_false, decide_not, eq_self, Classical.not_not, List.getElem?_cons_zero, List.getElem?_cons_succ, beq_self_eq_true, bne_self_eq_false]
  | some mq =>
    rw [hm, enc_some] at m
    cases hv : varO ps with
    | none =>
      rw [hv, enc_none] at v
      rw [ofB_none h1 h2 (.inr hv)]
      simp only [h1', h2', m, v, Int.natCast_nonneg, bne_iff_ne, beq_iff_eq, ne_eq, decide_eq_true_eq, Bool.and_eq_true, Bool.or_eq_true, Bool.not_eq_true', decide_eq_false_iff_not, beq_eq_false_iff_ne, bne_eq_false_iff_eq, not_true_eq_false, not_false_eq_true, if_true, if_false, reduceIte, and_true, true_and, and_false, false_and, or_false, false_or, or_true, true_or, List.getD_cons_zero, List.getD_cons_succ, List.length_cons, List.length_nil, List.cons_append, List.nil_append, Nat.reduceAdd, Nat.reduceEqDiff, reduceCtorEq, Bool.not_true, Bool.not_false, Bool.true_and, Bool.and_true, Bool.false_and, Bool.and_false, Bool.or_true, Bool.true_or, Bool.or_false, Bool.false_or, Bool.false_eq_true, Bool.true_eq_false, Sc.int_i, Sc.bool_b, Sc.list_l, Sc.str_s, Int.reduceEq, Int.reduceLT, Int.reduceLE, Int.reduceNe, decide_true, decide_false, decide_not, eq_self, Classical.not_not, List.getElem?_cons_zero, List.getElem?_cons_succ, beq_self_eq_true, bne_self_eq_false]
    | some vq =>
      rw [hv, enc_some] at v
      rw [ofB_some h1 h2 hm hv]
      have wl : IntKind.i64.wrap ((ps.length : Int) - 1) = (ps.length : Int) - 1 := by rw [wrI (by omega) (by omega)]
      obtain ⟨q, hq, _, hq2⟩ := quant_ok (n := (ps.length : Int) - 1) (by omega) (by omega)
      have qF : k_interval_Quantile.F [.i ((ps.length : Int) - 1)] = some [.i q, .b (quantV ((ps.length : Int) - 1)).2] := by rw [k_interval_Quantile_F, ← hq]; rfl
      have hh := fhalf_F ps.length q vq ⟨by omega, by omega⟩ (by omega) (varO_fit hv) (num_nonneg' (varO_nonneg hv))
      have eh : hN (cm ps.length q vq) = hOf ps.length vq := by unfold hOf; rw [hq, Int.toNat_natCast]
      rw [eh] at hh
      have hb := (hN_spec (cm ps.length q vq)).1
      rw [eh] at hb
      generalize hOf ps.length vq = h at *
      by_cases c : h ≤ 1000000000000
      · rw [if_pos c]
        have c' : (h : Int) ≤ 1000000000000 := by omega
        have o := fOf_F h 1000 ⟨by omega, by omega⟩ ⟨by omega, by omega⟩
        rw [ofQ_fit (by omega) (by unfold maxN; omega) (by unfold maxD; omega)] at o
        rw [decide_eq_true c'] at hh
        simp only [h1', h2', m, v, wl, qF, hh, o, Int.natCast_nonneg, bne_iff_ne, beq_iff_eq, ne_eq, decide_eq_true_eq, Bool.and_eq_true, Bool.or_eq_true, Bool.not_eq_true', decide_eq_false_iff_not, beq_eq_false_iff_ne, bne_eq_false_iff_eq, not_true_eq_false, not_false_eq_true, if_true, if_false, reduceIte, and_true, true_and, and_false, false_and, or_false, false_or, or_true, true_or, List.getD_cons_zero, List.getD_cons_succ, List.length_cons, List.length_nil, List.cons_append, List.nil_append, Nat.reduceAdd, Nat.reduceEqDiff, reduceCtorEq, Bool.not_true, Bool.not_false, Bool.true_and, Bool.and_true, Bool.false_and, Bool.and_false, Bool.or_true, Bool.true_or, Bool.or_false, Bool.false_or, Bool.false_eq_true, Bool.true_eq_false, Sc.int_i, Sc.bool_b, Sc.list_l, Sc.str_s, Int.reduceEq, Int.reduceLT, Int.reduceLE, Int.reduceNe, decide_true, decide_false, decide_not, eq_self, Classical.not_not, List.getElem?_cons_zero, List.getElem?_cons_succ, beq_self_eq_true, bne_self_eq_false]
      · rw [if_neg c]
        have c' : ¬ (h : Int) ≤ 1000000000000 := by omega
        rw [decide_eq_false c'] at hh
        simp only [h1', h2', m, v, wl, qF, hh, Int.natCast_nonneg, bne_iff_ne, beq_iff_eq, ne_eq, decide_eq_true_eq, Bool.and_eq_true, Bool.or_eq_true, Bool.not_eq_true', decide_eq_false_iff_not, beq_eq_false_iff_ne, bne_eq_false_iff_eq, not_true_eq_false, not_false_eq_true, if_true, if_false, reduceIte, and_true, true_and, and_false, false_and, or_false, false_or, or_true, true_or, List.getD_cons_zero, List.getD_cons_succ, List.length_cons, List.length_nil, List.cons_append, List.nil_append, Nat.reduceAdd, Nat.reduceEqDiff, reduceCtorEq, Bool.not_true, Bool.not_false, Bool.true_and, Bool.and_true, Bool.false_and, Bool.and_false, Bool.or_true, Bool.true_or, Bool.or_false, Bool.false_or, Bool.false_eq_true, Bool.true_eq_false, Sc.int_i, Sc.bool_b, Sc.list_l, Sc.str_s, Int.reduceEq, Int.reduceLT, Int.reduceLE, Int.reduceNe, decide_true, decide_false, decide_not, eq_self, Classical.not_not, List.getElem?_cons_zero, List.getElem?_cons_succ, beq_self_eq_true, bne_self_eq_false]
theorem rof49_F (ps : List (Int × Int)) (hps : ∀ p ∈ ps, FP p) (hl : ps.length ≤ 1000000) : k_simulatorref49_Of.F [.l (ps.map pt)] = some (ofB ps) := by
  simp only [k_simulatorref49_Of_F, tk_simulatorref49_Of, k_simulatorref48_Mean_f, k_simulatorref48_Variance_f, k_simulatorref49_Quantile_f, k_simulatorref02_Times_f, k_simulatorref02_Scale_f, k_simulatorref02_Divide_f, k_simulatorref02_Plus_f, k_simulatorref49_least_f, k_simulatorref02_Of_f, List.length_map, Go.Proofs.YtchnhfnnlkncdaaDoor.T.den, Ex.ev, U1.ev, U2.ev, U3.ev, gam, List.map, List.getD_cons_zero, List.getD_cons_succ, List.length, List.cons_append, List.nil_append, if_true, Sc.int_i, Sc.bool_b, Sc.list_l, Sc.str_s, Nat.reduceEqDiff, if_false, List.getElem?_cons_zero, List.getElem?_cons_succ]
  by_cases h1 : ps.length < 2
  · have h1' : (ps.length : Int) < 2 := by omega
    rw [ofB_short h1]; simp only [h1', Int.natCast_nonneg, bne_iff_ne, beq_iff_eq, ne_eq, decide_eq_true_eq, Bool.and_eq_true, Bool.or_eq_true, Bool.not_eq_true', decide_eq_false_iff_not, beq_eq_false_iff_ne, bne_eq_false_iff_eq, not_true_eq_false, not_false_eq_true, if_true, if_false, reduceIte, and_true, true_and, and_false, false_and, or_false, false_or, or_true, true_or, List.getD_cons_zero, List.getD_cons_succ, List.length_cons, List.length_nil, List.cons_append, List.nil_append, Nat.reduceAdd, Nat.reduceEqDiff, reduceCtorEq, Bool.not_true, Bool.not_false, Bool.true_and, Bool.and_true, Bool.false_and, Bool.and_false, Bool.or_true, Bool.true_or, Bool.or_false, Bool.false_or, Bool.false_eq_true, Bool.true_eq_false, Sc.int_i, Sc.bool_b, Sc.list_l, Sc.str_s, Int.reduceEq, Int.reduceLT, Int.reduceLE, Int.reduceNe, decide_true, decide_false, decide_not, eq_self, Classical.not_not, List.getElem?_cons_zero, List.getElem?_cons_succ, beq_self_eq_true, bne_self_eq_false]
  have h1' : ¬ (ps.length : Int) < 2 := by omega
  by_cases h2 : 50 < ps.length
  · have h2' : (50 : Int) < ps.length := by omega
    rw [ofB_long h2]; simp only [h1', h2', Int.natCast_nonneg, bne_iff_ne, beq_iff_eq, ne_eq, decide_eq_true_eq, Bool.and_eq_true, Bool.or_eq_true, Bool.not_eq_true', decide_eq_false_iff_not, beq_eq_false_iff_ne, bne_eq_false_iff_eq, not_true_eq_false, not_false_eq_true, if_true, if_false, reduceIte, and_true, true_and, and_false, false_and, or_false, false_or, or_true, true_or, List.getD_cons_zero, List.getD_cons_succ, List.length_cons, List.length_nil, List.cons_append, List.nil_append, Nat.reduceAdd, Nat.reduceEqDiff, reduceCtorEq, Bool.not_true, Bool.not_false, Bool.true_and, Bool.and_true, Bool.false_and, Bool.and_false, Bool.or_true, Bool.true_or, Bool.or_false, Bool.false_or, Bool.false_eq_true, Bool.true_eq_false, Sc.int_i, Sc.bool_b, Sc.list_l, Sc.str_s, Int.reduceEq, Int.reduceLT, Int.reduceLE, Int.reduceNe, decide_true, decide_false, decide_not, eq_self, Classical.not_not, List.getElem?_cons_zero, List.getElem?_cons_succ, beq_self_eq_true, bne_self_eq_false]
  have h2' : ¬ (50 : Int) < ps.length := by omega
  have m := rmean50_O ps hps
  have v := rvar_O ps hps
  cases hm : mean50O ps with
  | none =>
    rw [hm, enc_none] at m
    rw [ofB_none h1 h2 (.inl hm)]
    obtain ⟨x, y, z, e⟩ := enc_form (varO ps)
    rw [e] at v
    simp only [h1', h2', m, v, Int.natCast_nonneg, bne_iff_ne, beq_iff_eq, ne_eq, decide_eq_true_eq, Bool.and_eq_true, Bool.or_eq_true, Bool.not_eq_true', decide_eq_false_iff_not, beq_eq_false_iff_ne, bne_eq_false_iff_eq, not_true_eq_false, not_false_eq_true, if_true, if_false, reduceIte, and_true, true_and, and_false, false_and, or_false, false_or, or_true, true_or, List.getD_cons_zero, List.getD_cons_succ, List.length_cons, List.length_nil, List.cons_append, List.nil_append, Nat.reduceAdd, Nat.reduceEqDiff, reduceCtorEq, Bool.not_true, Bool.not_false, Bool.true_and, Bool.and_true, Bool.false_and, Bool.and_false, Bool.or_true, Bool.true_or, Bool.or_false, Bool.false_or, Bool.false_eq_true, Bool.true_eq_false, Sc.int_i, Sc.bool_b, Sc.list_l, Sc.str_s, Int.reduceEq, Int.reduceLT, Int.reduceLE, Int.reduceNe, decide_true, decide_false, decide_not, eq_self, Classical.not_not, List.getElem?_cons_zero, List.getElem?_cons_succ, beq_self_eq_true, bne_self_eq_false]
  | some mq =>
    rw [hm, enc_some] at m
    cases hv : varO ps with
    | none =>
      rw [hv, enc_none] at v
      rw [ofB_none h1 h2 (.inr hv)]
      simp only [h1', h2', m, v, Int.natCast_nonneg, bne_iff_ne, beq_iff_eq, ne_eq, decide_eq_true_eq, Bool.and_eq_true, Bool.or_eq_true, Bool.not_eq_true', decide_eq_false_iff_not, beq_eq_false_iff_ne, bne_eq_false_iff_eq, not_true_eq_false, not_false_eq_true, if_true, if_false, reduceIte, and_true, true_and, and_false, false_and, or_false, false_or, or_true, true_or, List.getD_cons_zero, List.getD_cons_succ, List.length_cons, List.length_nil, List.cons_append, List.nil_append, Nat.reduceAdd, Nat.reduceEqDiff, reduceCtorEq, Bool.not_true, Bool.not_false, Bool.true_and, Bool.and_true, Bool.false_and, Bool.and_false, Bool.or_true, Bool.true_or, Bool.or_false, Bool.false_or, Bool.false_eq_true, Bool.true_eq_false, Sc.int_i, Sc.bool_b, Sc.list_l, Sc.str_s, Int.reduceEq, Int.reduceLT, Int.reduceLE, Int.reduceNe, decide_true, decide_false, decide_not, eq_self, Classical.not_not, List.getElem?_cons_zero, List.getElem?_cons_succ, beq_self_eq_true, bne_self_eq_false]
    | some vq =>
      rw [hv, enc_some] at v
      rw [ofB_some h1 h2 hm hv]
      have wl : IntKind.i64.wrap ((ps.length : Int) - 1) = (ps.length : Int) - 1 := by rw [wrI (by omega) (by omega)]
      obtain ⟨q, hq, _, hq2⟩ := quant_ok (n := (ps.length : Int) - 1) (by omega) (by omega)
      have qF := rquant_F ((ps.length : Int) - 1)
      rw [hq] at qF
      obtain ⟨b1, b2, b3, b4⟩ := fit_bounds (varO_fit hv)
      have vn := num_nonneg' (varO_nonneg hv)
      obtain ⟨V, hV⟩ : ∃ V : Nat, vq.num = V := ⟨vq.num.toNat, by omega⟩
      have q2 : q * q ≤ 20000 * 20000 := Nat.mul_le_mul (by omega) (by omega)
      have d1 : 0 < ps.length * vq.den := Nat.mul_pos (by omega) vq.den_pos
      have d2 : ps.length * vq.den ≤ 50 * 1000000000000000 := Nat.mul_le_mul (by omega) (by omega)
      have qv : q * q * V ≤ 400000000 * 4611686018427387904 := Nat.mul_le_mul q2 (by omega)
      have t1 := rTimes_F ps.length vq.den (by omega) (by omega)
      have t2 := rTimes_F q q (by omega) (by omega)
      have sc := rScale_F (q * q) V (by omega) (by omega)
      have dv := divide_F (q * q * V) (ps.length * vq.den) (by omega) d1 (by omega)
      have wv : IntKind.u64.wrap vq.num = V := by rw [hV]; exact wrU (by omega) (by omega)
      have wd : IntKind.u64.wrap (vq.den : Int) = vq.den := wrU (by omega) (by omega)
      have wn : IntKind.u64.wrap (ps.length : Int) = ps.length := wrU (by omega) (by omega)
      have wq : IntKind.u64.wrap (q : Int) = q := wrU (by omega) (by omega)
      have eh : hN (ceilD (q * q * V) (ps.length * vq.den)) = hOf ps.length vq := by unfold hOf cm; rw [hq, Int.toNat_natCast, hV, Int.toNat_natCast]
      have hb := (hN_spec (ceilD (q * q * V) (ps.length * vq.den))).1
      have hok := hN_ok (ceilD (q * q * V) (ps.length * vq.den))
      rw [eh] at hb hok
      have hcd : ceilD (q * q * V) (ps.length * vq.den) ≤ q * q * V + 1 := by
        unfold ceilD
        have := Nat.div_le_self (q * q * V) (ps.length * vq.den)
        split <;> omega
      have ls := rleast_F (ceilD (q * q * V) (ps.length * vq.den)) (by omega)
      rw [eh] at ls
      generalize hOf ps.length vq = h at *
      have z := w_zero (x := q * q * V % (ps.length * vq.den))
      have pl := plus_F (q * q * V / (ps.length * vq.den)) 1 (by
        have := Nat.div_le_self (q * q * V) (ps.length * vq.den)
        omega)
      have hl1 : hiW 1 = 0 ∧ loW 1 = 1 := ⟨rfl, rfl⟩
      rw [hl1.1, hl1.2] at pl
      have o : h ≤ 1000000000000 → k_simulatorref02_Of.F [.i (h : Int), .i 1000] = some [.i (Rat.divInt h 1000).num, .i (Rat.divInt h 1000).den, .b true] := fun c => by
        have o := rOf_F h 1000 ⟨by omega, by omega⟩ ⟨by omega, by omega⟩
        rw [ofQ_fit (by omega) (by unfold maxN; omega) (by unfold maxD; omega)] at o
        exact o
      have cy : q * q * V % (ps.length * vq.den) = 0 → q * q * V / (ps.length * vq.den) = ceilD (q * q * V) (ps.length * vq.den) := fun h => (if_pos h).symm
      have cn : ¬ q * q * V % (ps.length * vq.den) = 0 → q * q * V / (ps.length * vq.den) + 1 = ceilD (q * q * V) (ps.length * vq.den) := fun h => (if_neg h).symm
      generalize ceilD (q * q * V) (ps.length * vq.den) = C at *
      by_cases hr : q * q * V % (ps.length * vq.den) = 0
      · have hz := z.2 hr
        have eC := cy hr
        rw [eC] at dv
        by_cases c : h ≤ 1000000000000
        · rw [if_pos c]
          rw [if_pos (hok.1 c)] at ls
          have o := o c
          simp only [h1', h2', m, v, wl, qF, wv, wd, wn, wq, t1, t2, sc, dv, hz.1, hz.2, ls, o, Int.natCast_nonneg, bne_iff_ne, beq_iff_eq, ne_eq, decide_eq_true_eq, Bool.and_eq_true, Bool.or_eq_true, Bool.not_eq_true', decide_eq_false_iff_not, beq_eq_false_iff_ne, bne_eq_false_iff_eq, not_true_eq_false, not_false_eq_true, if_true, if_false, reduceIte, and_true, true_and, and_false, false_and, or_false, false_or, or_true, true_or, List.getD_cons_zero, List.getD_cons_succ, List.length_cons, List.length_nil, List.cons_append, List.nil_append, Nat.reduceAdd, Nat.reduceEqDiff, reduceCtorEq, Bool.not_true, Bool.not_false, Bool.true_and, Bool.and_true, Bool.false_and, Bool.and_false, Bool.or_true, Bool.true_or, Bool.or_false, Bool.false_or, Bool.false_eq_true, Bool.true_eq_false, Sc.int_i, Sc.bool_b, Sc.list_l, Sc.str_s, Int.reduceEq, Int.reduceLT, Int.reduceLE, Int.reduceNe, decide_true, decide_false, decide_not, eq_self, Classical.not_not, List.getElem?_cons_zero, List.getElem?_cons_succ, beq_self_eq_true, bne_self_eq_false]
        · rw [if_neg c]
          rw [if_neg (fun h => c (hok.2 h))] at ls
          simp only [h1', h2', m, v, wl, qF, wv, wd, wn, wq, t1, t2, sc, dv, hz.1, hz.2, ls, Int.natCast_nonneg, bne_iff_ne, beq_iff_eq, ne_eq, decide_eq_true_eq, Bool.and_eq_true, Bool.or_eq_true, Bool.not_eq_true', decide_eq_false_iff_not, beq_eq_false_iff_ne, bne_eq_false_iff_eq, not_true_eq_false, not_false_eq_true, if_true, if_false, reduceIte, and_true, true_and, and_false, false_and, or_false, false_or, or_true, true_or, List.getD_cons_zero, List.getD_cons_succ, List.length_cons, List.length_nil, List.cons_append, List.nil_append, Nat.reduceAdd, Nat.reduceEqDiff, reduceCtorEq, Bool.not_true, Bool.not_false, Bool.true_and, Bool.and_true, Bool.false_and, Bool.and_false, Bool.or_true, Bool.true_or, Bool.or_false, Bool.false_or, Bool.false_eq_true, Bool.true_eq_false, Sc.int_i, Sc.bool_b, Sc.list_l, Sc.str_s, Int.reduceEq, Int.reduceLT, Int.reduceLE, Int.reduceNe, decide_true, decide_false, decide_not, eq_self, Classical.not_not, List.getElem?_cons_zero, List.getElem?_cons_succ, beq_self_eq_true, bne_self_eq_false]
      · have hz : ((hiW (q * q * V % (ps.length * vq.den)) == 0) && (loW (q * q * V % (ps.length * vq.den)) == 0)) = false := by
          rw [Bool.and_eq_false_iff, beq_eq_false_iff_ne, beq_eq_false_iff_ne]
          refine Classical.byContradiction fun hc => hr (z.1 ?_)
          simp only [ne_eq, not_or, Classical.not_not] at hc
          exact hc
        have eC := cn hr
        rw [eC] at pl
        by_cases c : h ≤ 1000000000000
        · rw [if_pos c]
          rw [if_pos (hok.1 c)] at ls
          have o := o c
          simp only [h1', h2', m, v, wl, qF, wv, wd, wn, wq, t1, t2, sc, dv, hz, pl, ls, o, Int.natCast_nonneg, bne_iff_ne, beq_iff_eq, ne_eq, decide_eq_true_eq, Bool.and_eq_true, Bool.or_eq_true, Bool.not_eq_true', decide_eq_false_iff_not, beq_eq_false_iff_ne, bne_eq_false_iff_eq, not_true_eq_false, not_false_eq_true, if_true, if_false, reduceIte, and_true, true_and, and_false, false_and, or_false, false_or, or_true, true_or, List.getD_cons_zero, List.getD_cons_succ, List.length_cons, List.length_nil, List.cons_append, List.nil_append, Nat.reduceAdd, Nat.reduceEqDiff, reduceCtorEq, Bool.not_true, Bool.not_false, Bool.true_and, Bool.and_true, Bool.false_and, Bool.and_false, Bool.or_true, Bool.true_or, Bool.or_false, Bool.false_or, Bool.false_eq_true, Bool.true_eq_false, Sc.int_i, Sc.bool_b, Sc.list_l, Sc.str_s, Int.reduceEq, Int.reduceLT, Int.reduceLE, Int.reduceNe, decide_true, decide_false, decide_not, eq_self, Classical.not_not, List.getElem?_cons_zero, List.getElem?_cons_succ, beq_self_eq_true, bne_self_eq_false]
        · rw [if_neg c]
          rw [if_neg (fun h => c (hok.2 h))] at ls
          simp only [h1', h2', m, v, wl, qF, wv, wd, wn, wq, t1, t2, sc, dv, hz, pl, ls, Int.natCast_nonneg, bne_iff_ne, beq_iff_eq, ne_eq, decide_eq_true_eq, Bool.and_eq_true, Bool.or_eq_true, Bool.not_eq_true', decide_eq_false_iff_not, beq_eq_false_iff_ne, bne_eq_false_iff_eq, not_true_eq_false, not_false_eq_true, if_true, if_false, reduceIte, and_true, true_and, and_false, false_and, or_false, false_or, or_true, true_or, List.getD_cons_zero, List.getD_cons_succ, List.length_cons, List.length_nil, List.cons_append, List.nil_append, Nat.reduceAdd, Nat.reduceEqDiff, reduceCtorEq, Bool.not_true, Bool.not_false, Bool.true_and, Bool.and_true, Bool.false_and, Bool.and_false, Bool.or_true, Bool.true_or, Bool.or_false, Bool.false_or, Bool.false_eq_true, Bool.true_eq_false, Sc.int_i, Sc.bool_b, Sc.list_l, Sc.str_s, Int.reduceEq, Int.reduceLT, Int.reduceLE, Int.reduceNe, decide_true, decide_false, decide_not, eq_self, Classical.not_not, List.getElem?_cons_zero, List.getElem?_cons_succ, beq_self_eq_true, bne_self_eq_false]
end Go.Proofs.YtchnhfnnlkncdaaDoor
