/-
  Chapter 48: what Size and its reference return.
-/
import Derived.Test.YtgekeolponbifaaM48
namespace Go.Proofs.Ytgekeolponbifaa
set_option linter.unusedSimpArgs false
set_option linter.unusedVariables false

def smallB (xs : List Int) (k : Nat) : Bool := match lagO ((mnL xs k).map pr) with
  | some q => decide (q ≤ Rat.divInt 1 5)
  | none => false
def goodX (xs : List Int) : Prop := xs.length ≤ 1000 ∧ xs.all (val4 10000) = true
instance (xs : List Int) : Decidable (goodX xs) := by unfold goodX; exact inferInstance
def sizeA (xs : List Int) : Nat → Option Nat
  | 0 => none
  | n + 1 => if xs.length / (101 - (n + 1)) < 5 then none else if smallB xs (101 - (n + 1)) = true then some (101 - (n + 1)) else sizeA xs n
theorem sizeA_succ (xs : List Int) (n : Nat) : sizeA xs (n + 1) = if xs.length / (101 - (n + 1)) < 5 then none else if smallB xs (101 - (n + 1)) = true then some (101 - (n + 1)) else sizeA xs n := rfl
def sizeO (xs : List Int) : Option Nat := if goodX xs then sizeA xs 100 else none
def encS : Option Nat → List Sc
  | some k => [.i (k : Int), .b true]
  | none => [.i 0, .b false]
theorem usual_fifth : usualQ 1 5 = Rat.divInt 1 5 := by decide
theorem fsize_F (xs : List Int) (hl : xs.length ≤ 8796093022208) : k_batch_Size.F [.l (xs.map .i)] = some (encS (sizeO xs)) := by
  simp only [k_batch_Size_F, tk_batch_Size, k_batch_Means_f, k_batch_Lag_f, k_frac_Cmp_f, List.length_map, Go.Proofs.Ytgekeolponbifaa.T.den, Ex.ev, U1.ev, U2.ev, U3.ev, gam, List.map, List.getD_cons_zero, List.getD_cons_succ, List.length, List.cons_append, List.nil_append, if_true, Sc.int_i, Sc.bool_b, Sc.list_l, Sc.str_s, Nat.reduceEqDiff, if_false, List.getElem?_cons_zero, List.getElem?_cons_succ]
  have conv : ([.i 1] : List Sc) = [.i ((101 - 100 : Nat) : Int)] := rfl
  rw [conv]
  unfold sizeO
  refine (loop_rounds (S := Nat) (fun n => [.i ((101 - n : Nat) : Int)]) (fun n => some (encS (if goodX xs then sizeA xs n else none))) (fun n => n ≤ 100) (fun n => n) ?_ 100 (Nat.le_refl _) (by omega)).trans (by rfl)
  intro n rec hn hrec
  cases n with
  | zero =>
    have c : ¬ ((101 - 0 : Nat) : Int) ≤ 100 := by omega
    have e : (if goodX xs then sizeA xs 0 else none) = none := by split <;> rfl
    rw [e]
    simp only [c, encS, Int.natCast_nonneg, bne_iff_ne, beq_iff_eq, ne_eq, decide_eq_true_eq, Bool.and_eq_true, Bool.or_eq_true, Bool.not_eq_true', decide_eq_false_iff_not, beq_eq_false_iff_ne, bne_eq_false_iff_eq, not_true_eq_false, not_false_eq_true, if_true, if_false, reduceIte, and_true, true_and, and_false, false_and, or_false, false_or, or_true, true_or, List.getD_cons_zero, List.getD_cons_succ, List.length_cons, List.length_nil, List.cons_append, List.nil_append, Nat.reduceAdd, Nat.reduceEqDiff, reduceCtorEq, Bool.not_true, Bool.not_false, Bool.true_and, Bool.and_true, Bool.false_and, Bool.and_false, Bool.or_true, Bool.true_or, Bool.or_false, Bool.false_or, Bool.false_eq_true, Bool.true_eq_false, Sc.int_i, Sc.bool_b, Sc.list_l, Sc.str_s, Int.reduceEq, Int.reduceLT, Int.reduceLE, Int.reduceNe, decide_true, decide_false, decide_not, eq_self, Classical.not_not, List.getElem?_cons_zero, List.getElem?_cons_succ, beq_self_eq_true, bne_self_eq_false]
  | succ n =>
    have c : ((101 - (n + 1) : Nat) : Int) ≤ 100 := by omega
    have m := fmeans_F xs ((101 - (n + 1) : Nat) : Int) hl
    have hr := hrec n (by omega) (by omega)
    have wk : IntKind.i64.wrap (((101 - (n + 1) : Nat) : Int) + 1) = ((101 - n : Nat) : Int) := by rw [wrI (by omega) (by omega)]; omega
    by_cases hg : goodX xs
    · rw [if_pos hg] at hr ⊢
      have hk : ¬ (((101 - (n + 1) : Nat) : Int) < 1 ∨ 100 < ((101 - (n + 1) : Nat) : Int)) := by omega
      rw [meansL_mid (Nat.not_lt.2 hg.1) hk, if_pos hg.2, Int.toNat_natCast] at m
      rw [sizeA_succ]
      generalize hK : 101 - (n + 1) = K at *
      have ml : (mnL xs K).length = xs.length / K := mnL_len xs K
      have lg := flag_O ((mnL xs K).map pr) (fun p hp => by
        obtain ⟨q, hq, rfl⟩ := List.mem_map.1 hp; exact FP_pr (mnL_fit hg.2 (by omega) (by omega) q hq))
      rw [← map_pt_pr] at lg
      unfold smallB
      by_cases h5 : xs.length / K < 5
      · have h5' : ((xs.length / K : Nat) : Int) < 5 := by omega
        rw [if_pos h5]
        simp only [c, m, List.length_map, ml, h5', encS, Int.natCast_nonneg, bne_iff_ne, beq_iff_eq, ne_eq, decide_eq_true_eq, Bool.and_eq_true, Bool.or_eq_true, Bool.not_eq_true', decide_eq_false_iff_not, beq_eq_false_iff_ne, bne_eq_false_iff_eq, not_true_eq_false, not_false_eq_true, if_true, if_false, reduceIte, and_true, true_and, and_false, false_and, or_false, false_or, or_true, true_or, List.getD_cons_zero, List.getD_cons_succ, List.length_cons, List.length_nil, List.cons_append, List.nil_append, Nat.reduceAdd, Nat.reduceEqDiff, reduceCtorEq, Bool.not_true, Bool.not_false, Bool.true_and, Bool.and_true, Bool.false_and, Bool.and_false, Bool.or_true, Bool.true_or, Bool.or_false, Bool.false_or, Bool.false_eq_true, Bool.true_eq_false, Sc.int_i, Sc.bool_b, Sc.list_l, Sc.str_s, Int.reduceEq, Int.reduceLT, Int.reduceLE, Int.reduceNe, decide_true, decide_false, decide_not, eq_self, Classical.not_not, List.getElem?_cons_zero, List.getElem?_cons_succ, beq_self_eq_true, bne_self_eq_false]
      · have h5' : ¬ ((xs.length / K : Nat) : Int) < 5 := by omega
        rw [if_neg h5]
        cases hq : lagO ((mnL xs K).map pr) with
        | none =>
          rw [hq, enc_none] at lg
          simp only [c, m, List.length_map, ml, h5', lg, wk, hr, Int.natCast_nonneg, bne_iff_ne, beq_iff_eq, ne_eq, decide_eq_true_eq, Bool.and_eq_true, Bool.or_eq_true, Bool.not_eq_true', decide_eq_false_iff_not, beq_eq_false_iff_ne, bne_eq_false_iff_eq, not_true_eq_false, not_false_eq_true, if_true, if_false, reduceIte, and_true, true_and, and_false, false_and, or_false, false_or, or_true, true_or, List.getD_cons_zero, List.getD_cons_succ, List.length_cons, List.length_nil, List.cons_append, List.nil_append, Nat.reduceAdd, Nat.reduceEqDiff, reduceCtorEq, Bool.not_true, Bool.not_false, Bool.true_and, Bool.and_true, Bool.false_and, Bool.and_false, Bool.or_true, Bool.true_or, Bool.or_false, Bool.false_or, Bool.false_eq_true, Bool.true_eq_false, Sc.int_i, Sc.bool_b, Sc.list_l, Sc.str_s, Int.reduceEq, Int.reduceLT, Int.reduceLE, Int.reduceNe, decide_true, decide_false, decide_not, eq_self, Classical.not_not, List.getElem?_cons_zero, List.getElem?_cons_succ, beq_self_eq_true, bne_self_eq_false]
        | some q =>
          rw [hq, enc_some] at lg
          have fq := lagO_fit hq
          obtain ⟨a1, a2⟩ := fit_bounds fq
          have cm := cmp_F q.num q.den 1 5 ⟨by omega, by omega⟩ ⟨by omega, by omega⟩ ⟨by omega, by omega⟩ ⟨by omega, by omega⟩
          rw [usual_ok fq, usual_fifth] at cm
          by_cases hle : q ≤ Rat.divInt 1 5
          · have hc := cmpQ_le.2 hle
            simp only [c, m, List.length_map, ml, h5', lg, cm, hc, hle, encS, Int.natCast_nonneg, bne_iff_ne, beq_iff_eq, ne_eq, decide_eq_true_eq, Bool.and_eq_true, Bool.or_eq_true, Bool.not_eq_true', decide_eq_false_iff_not, beq_eq_false_iff_ne, bne_eq_false_iff_eq, not_true_eq_false, not_false_eq_true, if_true, if_false, reduceIte, and_true, true_and, and_false, false_and, or_false, false_or, or_true, true_or, List.getD_cons_zero, List.getD_cons_succ, List.length_cons, List.length_nil, List.cons_append, List.nil_append, Nat.reduceAdd, Nat.reduceEqDiff, reduceCtorEq, Bool.not_true, Bool.not_false, Bool.true_and, Bool.and_true, Bool.false_and, Bool.and_false, Bool.or_true, Bool.true_or, Bool.or_false, Bool.false_or, Bool.false_eq_true, Bool.true_eq_false, Sc.int_i, Sc.bool_b, Sc.list_l, Sc.str_s, Int.reduceEq, Int.reduceLT, Int.reduceLE, Int.reduceNe, decide_true, decide_false, decide_not, eq_self, Classical.not_not, List.getElem?_cons_zero, List.getElem?_cons_succ, beq_self_eq_true, bne_self_eq_false]
          · have hc : ¬ cmpQ q (Rat.divInt 1 5) ≤ 0 := fun h => hle (cmpQ_le.1 h)
            simp only [c, m, List.length_map, ml, h5', lg, cm, hc, hle, wk, hr, Int.natCast_nonneg, bne_iff_ne, beq_iff_eq, ne_eq, decide_eq_true_eq, Bool.and_eq_true, Bool.or_eq_true, Bool.not_eq_true', decide_eq_false_iff_not, beq_eq_false_iff_ne, bne_eq_false_iff_eq, not_true_eq_false, not_false_eq_true, if_true, if_false, reduceIte, and_true, true_and, and_false, false_and, or_false, false_or, or_true, true_or, List.getD_cons_zero, List.getD_cons_succ, List.length_cons, List.length_nil, List.cons_append, List.nil_append, Nat.reduceAdd, Nat.reduceEqDiff, reduceCtorEq, Bool.not_true, Bool.not_false, Bool.true_and, Bool.and_true, Bool.false_and, Bool.and_false, Bool.or_true, Bool.true_or, Bool.or_false, Bool.false_or, Bool.false_eq_true, Bool.true_eq_false, Sc.int_i, Sc.bool_b, Sc.list_l, Sc.str_s, Int.reduceEq, Int.reduceLT, Int.reduceLE, Int.reduceNe, decide_true, decide_false, decide_not, eq_self, Classical.not_not, List.getElem?_cons_zero, List.getElem?_cons_succ, beq_self_eq_true, bne_self_eq_false]
    · rw [if_neg hg]
      have hk : ¬ (((101 - (n + 1) : Nat) : Int) < 1 ∨ 100 < ((101 - (n + 1) : Nat) : Int)) := by omega
      by_cases h1 : 1000 < xs.length
      · rw [meansL_long h1] at m
        simp only [c, m, encS, Int.natCast_nonneg, bne_iff_ne, beq_iff_eq, ne_eq, decide_eq_true_eq, Bool.and_eq_true, Bool.or_eq_true, Bool.not_eq_true', decide_eq_false_iff_not, beq_eq_false_iff_ne, bne_eq_false_iff_eq, not_true_eq_false, not_false_eq_true, if_true, if_false, reduceIte, and_true, true_and, and_false, false_and, or_false, false_or, or_true, true_or, List.getD_cons_zero, List.getD_cons_succ, List.length_cons, List.length_nil, List.cons_append, List.nil_append, Nat.reduceAdd, Nat.reduceEqDiff, reduceCtorEq, Bool.not_true, Bool.not_false, Bool.true_and, Bool.and_true, Bool.false_and, Bool.and_false, Bool.or_true, Bool.true_or, Bool.or_false, Bool.false_or, Bool.false_eq_true, Bool.true_eq_false, Sc.int_i, Sc.bool_b, Sc.list_l, Sc.str_s, Int.reduceEq, Int.reduceLT, Int.reduceLE, Int.reduceNe, decide_true, decide_false, decide_not, eq_self, Classical.not_not, List.getElem?_cons_zero, List.getElem?_cons_succ, beq_self_eq_true, bne_self_eq_false]
      · rw [meansL_mid h1 hk, if_neg (fun h => hg ⟨Nat.le_of_not_lt h1, h⟩)] at m
        simp only [c, m, encS, Int.natCast_nonneg, bne_iff_ne, beq_iff_eq, ne_eq, decide_eq_true_eq, Bool.and_eq_true, Bool.or_eq_true, Bool.not_eq_true', decide_eq_false_iff_not, beq_eq_false_iff_ne, bne_eq_false_iff_eq, not_true_eq_false, not_false_eq_true, if_true, if_false, reduceIte, and_true, true_and, and_false, false_and, or_false, false_or, or_true, true_or, List.getD_cons_zero, List.getD_cons_succ, List.length_cons, List.length_nil, List.cons_append, List.nil_append, Nat.reduceAdd, Nat.reduceEqDiff, reduceCtorEq, Bool.not_true, Bool.not_false, Bool.true_and, Bool.and_true, Bool.false_and, Bool.and_false, Bool.or_true, Bool.true_or, Bool.or_false, Bool.false_or, Bool.false_eq_true, Bool.true_eq_false, Sc.int_i, Sc.bool_b, Sc.list_l, Sc.str_s, Int.reduceEq, Int.reduceLT, Int.reduceLE, Int.reduceNe, decide_true, decide_false, decide_not, eq_self, Classical.not_not, List.getElem?_cons_zero, List.getElem?_cons_succ, beq_self_eq_true, bne_self_eq_false]
theorem rsize_F (xs : List Int) (hl : xs.length ≤ 8796093022208) : k_simulatorref48_Size.F [.l (xs.map .i)] = some (encS (sizeO xs)) := by
  simp only [k_simulatorref48_Size_F, tk_simulatorref48_Size, k_simulatorref48_Means_f, k_simulatorref48_Lag_f, k_simulatorref02_Cmp_f, List.length_map, Go.Proofs.Ytgekeolponbifaa.T.den, Ex.ev, U1.ev, U2.ev, U3.ev, gam, List.map, List.getD_cons_zero, List.getD_cons_succ, List.length, List.cons_append, List.nil_append, if_true, Sc.int_i, Sc.bool_b, Sc.list_l, Sc.str_s, Nat.reduceEqDiff, if_false, List.getElem?_cons_zero, List.getElem?_cons_succ]
  have conv : ([.i 1] : List Sc) = [.i ((101 - 100 : Nat) : Int)] := rfl
  rw [conv]
  unfold sizeO
  refine (loop_rounds (S := Nat) (fun n => [.i ((101 - n : Nat) : Int)]) (fun n => some (encS (if goodX xs then sizeA xs n else none))) (fun n => n ≤ 100) (fun n => n) ?_ 100 (Nat.le_refl _) (by omega)).trans (by rfl)
  intro n rec hn hrec
  cases n with
  | zero =>
    have c : ¬ ((101 - 0 : Nat) : Int) ≤ 100 := by omega
    have e : (if goodX xs then sizeA xs 0 else none) = none := by split <;> rfl
    rw [e]
    simp only [c, encS, Int.natCast_nonneg, bne_iff_ne, beq_iff_eq, ne_eq, decide_eq_true_eq, Bool.and_eq_true, Bool.or_eq_true, Bool.not_eq_true', decide_eq_false_iff_not, beq_eq_false_iff_ne, bne_eq_false_iff_eq, not_true_eq_false, not_false_eq_true, if_true, if_false, reduceIte, and_true, true_and, and_false, false_and, or_false, false_or, or_true, true_or, List.getD_cons_zero, List.getD_cons_succ, List.length_cons, List.length_nil, List.cons_append, List.nil_append, Nat.reduceAdd, Nat.reduceEqDiff, reduceCtorEq, Bool.not_true, Bool.not_false, Bool.true_and, Bool.and_true, Bool.false_and, Bool.and_false, Bool.or_true, Bool.true_or, Bool.or_false, Bool.false_or, Bool.false_eq_true, Bool.true_eq_false, Sc.int_i, Sc.bool_b, Sc.list_l, Sc.str_s, Int.reduceEq, Int.reduceLT, Int.reduceLE, Int.reduceNe, decide_true, decide_false, decide_not, eq_self, Classical.not_not, List.getElem?_cons_zero, List.getElem?_cons_succ, beq_self_eq_true, bne_self_eq_false]
  | succ n =>
    have c : ((101 - (n + 1) : Nat) : Int) ≤ 100 := by omega
    have m := rmeans_F xs ((101 - (n + 1) : Nat) : Int) hl
    have hr := hrec n (by omega) (by omega)
    have wk : IntKind.i64.wrap (((101 - (n + 1) : Nat) : Int) + 1) = ((101 - n : Nat) : Int) := by rw [wrI (by omega) (by omega)]; omega
    by_cases hg : goodX xs
    · rw [if_pos hg] at hr ⊢
      have hk : ¬ (((101 - (n + 1) : Nat) : Int) < 1 ∨ 100 < ((101 - (n + 1) : Nat) : Int)) := by omega
      rw [meansL_mid (Nat.not_lt.2 hg.1) hk, if_pos hg.2, Int.toNat_natCast] at m
      rw [sizeA_succ]
      generalize hK : 101 - (n + 1) = K at *
      have ml : (mnL xs K).length = xs.length / K := mnL_len xs K
      have lg := rlag_O ((mnL xs K).map pr) (fun p hp => by
        obtain ⟨q, hq, rfl⟩ := List.mem_map.1 hp; exact FP_pr (mnL_fit hg.2 (by omega) (by omega) q hq))
      rw [← map_pt_pr] at lg
      unfold smallB
      by_cases h5 : xs.length / K < 5
      · have h5' : ((xs.length / K : Nat) : Int) < 5 := by omega
        rw [if_pos h5]
        simp only [c, m, List.length_map, ml, h5', encS, Int.natCast_nonneg, bne_iff_ne, beq_iff_eq, ne_eq, decide_eq_true_eq, Bool.and_eq_true, Bool.or_eq_true, Bool.not_eq_true', decide_eq_false_iff_not, beq_eq_false_iff_ne, bne_eq_false_iff_eq, not_true_eq_false, not_false_eq_true, if_true, if_false, reduceIte, and_true, true_and, and_false, false_and, or_false, false_or, or_true, true_or, List.getD_cons_zero, List.getD_cons_succ, List.length_cons, List.length_nil, List.cons_append, List.nil_append, Nat.reduceAdd, Nat.reduceEqDiff, reduceCtorEq, Bool.not_true, Bool.not_false, Bool.true_and, Bool.and_true, Bool.false_and, Bool.and_false, Bool.or_true, Bool.true_or, Bool.or_false, Bool.false_or, Bool.false_eq_true, Bool.true_eq_false, Sc.int_i, Sc.bool_b, Sc.list_l, Sc.str_s, Int.reduceEq, Int.reduceLT, Int.reduceLE, Int.reduceNe, decide_true, decide_false, decide_not, eq_self, Classical.not_not, List.getElem?_cons_zero, List.getElem?_cons_succ, beq_self_eq_true, bne_self_eq_false]
      · have h5' : ¬ ((xs.length / K : Nat) : Int) < 5 := by omega
        rw [if_neg h5]
        cases hq : lagO ((mnL xs K).map pr) with
        | none =>
          rw [hq, enc_none] at lg
          simp only [c, m, List.length_map, ml, h5', lg, wk, hr, Int.natCast_nonneg, bne_iff_ne, beq_iff_eq, ne_eq, decide_eq_true_eq, Bool.and_eq_true, Bool.or_eq_true, Bool.not_eq_true', decide_eq_false_iff_not, beq_eq_false_iff_ne, bne_eq_false_iff_eq, not_true_eq_false, not_false_eq_true, if_true, if_false, reduceIte, and_true, true_and, and_false, false_and, or_false, false_or, or_true, true_or, List.getD_cons_zero, List.getD_cons_succ, List.length_cons, List.length_nil, List.cons_append, List.nil_append, Nat.reduceAdd, Nat.reduceEqDiff, reduceCtorEq, Bool.not_true, Bool.not_false, Bool.true_and, Bool.and_true, Bool.false_and, Bool.and_false, Bool.or_true, Bool.true_or, Bool.or_false, Bool.false_or, Bool.false_eq_true, Bool.true_eq_false, Sc.int_i, Sc.bool_b, Sc.list_l, Sc.str_s, Int.reduceEq, Int.reduceLT, Int.reduceLE, Int.reduceNe, decide_true, decide_false, decide_not, eq_self, Classical.not_not, List.getElem?_cons_zero, List.getElem?_cons_succ, beq_self_eq_true, bne_self_eq_false]
        | some q =>
          rw [hq, enc_some] at lg
          have fq := lagO_fit hq
          obtain ⟨a1, a2⟩ := fit_bounds fq
          have cm := rCmp_F q.num q.den 1 5 ⟨by omega, by omega⟩ ⟨by omega, by omega⟩ ⟨by omega, by omega⟩ ⟨by omega, by omega⟩
          rw [usual_ok fq, usual_fifth] at cm
          by_cases hle : q ≤ Rat.divInt 1 5
          · have hc := cmpQ_le.2 hle
            simp only [c, m, List.length_map, ml, h5', lg, cm, hc, hle, encS, Int.natCast_nonneg, bne_iff_ne, beq_iff_eq, ne_eq, decide_eq_true_eq, Bool.and_eq_true, Bool.or_eq_true, Bool.not_eq_true', decide_eq_false_iff_not, beq_eq_false_iff_ne, bne_eq_false_iff_eq, not_true_eq_false, not_false_eq_true, if_true, if_false, reduceIte, and_true, true_and, and_false, false_and, or_false, false_or, or_true, true_or, List.getD_cons_zero, List.getD_cons_succ, List.length_cons, List.length_nil, List.cons_append, List.nil_append, Nat.reduceAdd, Nat.reduceEqDiff, reduceCtorEq, Bool.not_true, Bool.not_false, Bool.true_and, Bool.and_true, Bool.false_and, Bool.and_false, Bool.or_true, Bool.true_or, Bool.or_false, Bool.false_or, Bool.false_eq_true, Bool.true_eq_false, Sc.int_i, Sc.bool_b, Sc.list_l, Sc.str_s, Int.reduceEq, Int.reduceLT, Int.reduceLE, Int.reduceNe, decide_true, decide_false, decide_not, eq_self, Classical.not_not, List.getElem?_cons_zero, List.getElem?_cons_succ, beq_self_eq_true, bne_self_eq_false]
          · have hc : ¬ cmpQ q (Rat.divInt 1 5) ≤ 0 := fun h => hle (cmpQ_le.1 h)
            simp only [c, m, List.length_map, ml, h5', lg, cm, hc, hle, wk, hr, Int.natCast_nonneg, bne_iff_ne, beq_iff_eq, ne_eq, decide_eq_true_eq, Bool.and_eq_true, Bool.or_eq_true, Bool.not_eq_true', decide_eq_false_iff_not, beq_eq_false_iff_ne, bne_eq_false_iff_eq, not_true_eq_false, not_false_eq_true, if_true, if_false, reduceIte, and_true, true_and, and_false, false_and, or_false, false_or, or_true, true_or, List.getD_cons_zero, List.getD_cons_succ, List.length_cons, List.length_nil, List.cons_append, List.nil_append, Nat.reduceAdd, Nat.reduceEqDiff, reduceCtorEq, Bool.not_true, Bool.not_false, Bool.true_and, Bool.and_true, Bool.false_and, Bool.and_false, Bool.or_true, Bool.true_or, Bool.or_false, Bool.false_or, Bool.false_eq_true, Bool.true_eq_false, Sc.int_i, Sc.bool_b, Sc.list_l, Sc.str_s, Int.reduceEq, Int.reduceLT, Int.reduceLE, Int.reduceNe, decide_true, decide_false, decide_not, eq_self, Classical.not_not, List.getElem?_cons_zero, List.getElem?_cons_succ, beq_self_eq_true, bne_self_eq_false]
    · rw [if_neg hg]
      have hk : ¬ (((101 - (n + 1) : Nat) : Int) < 1 ∨ 100 < ((101 - (n + 1) : Nat) : Int)) := by omega
      by_cases h1 : 1000 < xs.length
      · rw [meansL_long h1] at m
        simp only [c, m, encS, Int.natCast_nonneg, bne_iff_ne, beq_iff_eq, ne_eq, decide_eq_true_eq, Bool.and_eq_true, Bool.or_eq_true, Bool.not_eq_true', decide_eq_false_iff_not, beq_eq_false_iff_ne, bne_eq_false_iff_eq, not_true_eq_false, not_false_eq_true, if_true, if_false, reduceIte, and_true, true_and, and_false, false_and, or_false, false_or, or_true, true_or, List.getD_cons_zero, List.getD_cons_succ, List.length_cons, List.length_nil, List.cons_append, List.nil_append, Nat.reduceAdd, Nat.reduceEqDiff, reduceCtorEq, Bool.not_true, Bool.not_false, Bool.true_and, Bool.and_true, Bool.false_and, Bool.and_false, Bool.or_true, Bool.true_or, Bool.or_false, Bool.false_or, Bool.false_eq_true, Bool.true_eq_false, Sc.int_i, Sc.bool_b, Sc.list_l, Sc.str_s, Int.reduceEq, Int.reduceLT, Int.reduceLE, Int.reduceNe, decide_true, decide_false, decide_not, eq_self, Classical.not_not, List.getElem?_cons_zero, List.getElem?_cons_succ, beq_self_eq_true, bne_self_eq_false]
      · rw [meansL_mid h1 hk, if_neg (fun h => hg ⟨Nat.le_of_not_lt h1, h⟩)] at m
        simp only [c, m, encS, Int.natCast_nonneg, bne_iff_ne, beq_iff_eq, ne_eq, decide_eq_true_eq, Bool.and_eq_true, Bool.or_eq_true, Bool.not_eq_true', decide_eq_false_iff_not, beq_eq_false_iff_ne, bne_eq_false_iff_eq, not_true_eq_false, not_false_eq_true, if_true, if_false, reduceIte, and_true, true_and, and_false, false_and, or_false, false_or, or_true, true_or, List.getD_cons_zero, List.getD_cons_succ, List.length_cons, List.length_nil, List.cons_append, List.nil_append, Nat.reduceAdd, Nat.reduceEqDiff, reduceCtorEq, Bool.not_true, Bool.not_false, Bool.true_and, Bool.and_true, Bool.false_and, Bool.and_false, Bool.or_true, Bool.true_or, Bool.or_false, Bool.false_or, Bool.false_eq_true, Bool.true_eq_false, Sc.int_i, Sc.bool_b, Sc.list_l, Sc.str_s, Int.reduceEq, Int.reduceLT, Int.reduceLE, Int.reduceNe, decide_true, decide_false, decide_not, eq_self, Classical.not_not, List.getElem?_cons_zero, List.getElem?_cons_succ, beq_self_eq_true, bne_self_eq_false]
theorem sizeA_some {xs : List Int} : ∀ {n k : Nat}, n ≤ 100 → sizeA xs n = some k → 101 - n ≤ k ∧ k ≤ 100 ∧ 5 ≤ xs.length / k ∧ smallB xs k = true ∧ ∀ j, 101 - n ≤ j → j < k → smallB xs j = false
  | 0, k, _, h => by cases h
  | n + 1, k, hn, h => by
    rw [sizeA_succ] at h
    split at h
    · cases h
    · rename_i h5
      split at h
      · rename_i hs
        cases h
        exact ⟨Nat.le_refl _, by omega, by omega, hs, fun j h1 h2 => by omega⟩
      · rename_i hs
        obtain ⟨a, b, c, d, e⟩ := sizeA_some (by omega) h
        refine ⟨by omega, b, c, d, fun j h1 h2 => ?_⟩
        by_cases hj : j = 101 - (n + 1)
        · subst hj; simpa using hs
        · exact e j (by omega) h2
theorem sizeA_none {xs : List Int} : ∀ {n : Nat}, n ≤ 100 → sizeA xs n = none → ∀ j, 101 - n ≤ j → j ≤ 100 → smallB xs j = false ∨ xs.length / j < 5
  | 0, _, _, j, h1, h2 => by omega
  | n + 1, hn, h, j, h1, h2 => by
    rw [sizeA_succ] at h
    split at h
    · rename_i h5
      refine .inr (Nat.lt_of_le_of_lt ?_ h5)
      exact Nat.div_le_div_left h1 (by omega)
    · split at h
      · cases h
      · rename_i hs
        by_cases hj : j = 101 - (n + 1)
        · subst hj; exact .inl (by simpa using hs)
        · exact sizeA_none (by omega) h j (by omega) h2
end Go.Proofs.Ytgekeolponbifaa
