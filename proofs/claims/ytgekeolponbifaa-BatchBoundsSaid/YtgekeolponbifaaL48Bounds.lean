/-
  BatchBounds: Mean is from the least to the greatest element, Variance is not negative, and 0 exactly if all elements are equal, and Lag is from -1 to 1. No condition.
-/
import Derived.Test.YtgekeolponbifaaRows
import Derived.Test.YtgekeolponbifaaOpnR
import Derived.Test.YtgekeolponbifaaA48
import Derived.Test.YtgekeolponbifaaM48b
import Derived.Test.YtgekeolponbifaaSam
namespace Go.Proofs.Ytgekeolponbifaa
open Go.ChangeShapes Go.WideShapes Go.ChangeAt Go.RowKit
set_option linter.unusedSimpArgs false

def eqP (p q : Int × Int) : Bool := p.1 == q.1 && p.2 == q.2
theorem eqP_iff {p q : Int × Int} : eqP p q = true ↔ p = q := by
  unfold eqP; rw [Bool.and_eq_true, beq_iff_eq, beq_iff_eq]; exact ⟨fun h => Prod.ext h.1 h.2, fun h => by rw [h]; exact ⟨rfl, rfl⟩⟩
def abB (M : Rat) (p : Int × Int) : Bool := decide (0 ≤ cmpQ (usualQ p.1 p.2) M)
def beB (M : Rat) (p : Int × Int) : Bool := decide (cmpQ (usualQ p.1 p.2) M ≤ 0)
theorem any_take_succ {α : Type} (p : α → Bool) (l : List α) (k : Nat) (h : k < l.length) : (l.take (k + 1)).any p = ((l.take k).any p || p l[k]) := by
  rw [List.take_add_one, List.getElem?_eq_getElem h, List.any_append]; simp
theorem bounds_loop {g : (List Sc → Option (List Sc)) → List Sc → Option (List Sc)} (ps : List (Int × Int)) (M : Rat) (R : Option (List Sc)) (hl : ps.length ≤ 100)
    (h1 : ∀ (k : Nat) rec (e a b : Bool) (h : k < ps.length), ((k : Int) < ps.length) → ((0 : Int) < ps.length) → (ps.map pt).getD ((k : Int)).toNat (.i 0) = .l [.i ps[k].1, .i ps[k].2] → (ps.map pt).getD ((0 : Int)).toNat (.i 0) = .l [.i (ps.getD 0 (0, 0)).1, .i (ps.getD 0 (0, 0)).2] →
      IntKind.i64.wrap ((k : Int) + 1) = ((k + 1 : Nat) : Int) → g rec [.b e, .b a, .b b, .i k] = rec [.b (e && eqP ps[k] (ps.getD 0 (0, 0))), .b (a || abB M ps[k]), .b (b || beB M ps[k]), .i ((k + 1 : Nat) : Int)])
    (h2 : ∀ rec, g rec [.b (ps.all fun p => eqP p (ps.getD 0 (0, 0))), .b (ps.any (abB M)), .b (ps.any (beB M)), .i (ps.length : Int)] = R) : loopN g rounds [.b true, .b false, .b false, .i 0] = R := by
  have h := loop_rounds (g := g) (S := Nat) (fun j => [.b ((ps.take j).all fun p => eqP p (ps.getD 0 (0, 0))), .b ((ps.take j).any (abB M)), .b ((ps.take j).any (beB M)), .i (j : Int)]) (fun _ => R) (fun j => j ≤ ps.length) (fun j => ps.length - j) (by
    intro j rec hj hrec
    by_cases hlt : j < ps.length
    · have hr := hrec (j + 1) (by omega) (by omega)
      try simp only at hr ⊢
      rw [all_take_succ _ ps j hlt, any_take_succ _ ps j hlt, any_take_succ _ ps j hlt] at hr
      have hi0 : (ps.map pt).getD ((0 : Int)).toNat (.i 0) = .l [.i (ps.getD 0 (0, 0)).1, .i (ps.getD 0 (0, 0)).2] := by
        have := idx_map pt ps 0 (by omega)
        rw [show ((0 : Int)).toNat = (((0 : Nat) : Int)).toNat from rfl, this]
        have e : ps.getD 0 (0, 0) = ps[0] := by rw [List.getD_eq_getElem?_getD, List.getElem?_eq_getElem (by omega)]; rfl
        rw [e]; rfl
      rw [h1 j rec _ _ _ hlt (by omega) (by omega) (idx_map pt ps j hlt) hi0 (succ_w (n := ps.length) hlt (by omega))]
      exact hr
    · have e : j = ps.length := by omega
      subst e
      simp only [List.take_length]
      exact h2 rec) 0 (by omega) (by omega)
  simpa using h
theorem usual_one : usualQ 1 1 = 1 := by decide
theorem usual_mone : usualQ (-1) 1 = -1 := by decide
theorem usual_zero : usualQ 0 1 = 0 := by decide
theorem mean_any {ps : List (Int × Int)} {m : Rat} (h : mean50O ps = some m) : ps.any (abB m) = true ∧ ps.any (beB m) = true := by
  obtain ⟨qs, h1, h2, h3, h4⟩ := mean50O_val h
  obtain ⟨a, ha, ha2⟩ := mean_above h3
  obtain ⟨b, hb, hb2⟩ := mean_below h3
  rw [List.any_eq_true, List.any_eq_true]
  refine ⟨⟨pr a, by rw [h1]; exact List.mem_map_of_mem ha, ?_⟩, ⟨pr b, by rw [h1]; exact List.mem_map_of_mem hb, ?_⟩⟩
  · unfold abB pr; rw [usual_ok (h2 a ha), decide_eq_true_eq]
    have : ¬ cmpQ a m < 0 := fun x => absurd (cmpQ_lt.1 x) (Rat.not_lt.2 (by rw [h4]; exact ha2))
    omega
  · unfold beB pr; rw [usual_ok (h2 b hb), decide_eq_true_eq]
    exact cmpQ_le.2 (by rw [h4]; exact hb2)
theorem bounds_F (ps : List (Int × Int)) (hp : ∀ p ∈ ps, FP p) : k_simulatorlaw48_BatchBounds.F [.l (ps.map pt)] = some [.b true] := by
  simp only [k_simulatorlaw48_BatchBounds_F, tk_simulatorlaw48_BatchBounds, k_batch_Mean_f, k_batch_Variance_f, k_batch_Lag_f, k_simulatorref02_Cmp_f, k_simulatorlaw48_awake_f, awake48, List.length_map, Go.Proofs.Ytgekeolponbifaa.T.den, Ex.ev, U1.ev, U2.ev, U3.ev, gam, List.map, List.getD_cons_zero, List.getD_cons_succ, List.length, List.cons_append, List.nil_append, if_true, Sc.int_i, Sc.bool_b, Sc.list_l, Sc.str_s, Nat.reduceEqDiff, if_false, List.getElem?_cons_zero, List.getElem?_cons_succ]
  by_cases h1 : (100 : Int) < ps.length
  · simp only [h1, Int.natCast_nonneg, bne_iff_ne, beq_iff_eq, ne_eq, decide_eq_true_eq, Bool.and_eq_true, Bool.or_eq_true, Bool.not_eq_true', decide_eq_false_iff_not, beq_eq_false_iff_ne, bne_eq_false_iff_eq, not_true_eq_false, not_false_eq_true, if_true, if_false, reduceIte, and_true, true_and, and_false, false_and, or_false, false_or, or_true, true_or, List.getD_cons_zero, List.getD_cons_succ, List.length_cons, List.length_nil, List.cons_append, List.nil_append, Nat.reduceAdd, Nat.reduceEqDiff, reduceCtorEq, Bool.not_true, Bool.not_false, Bool.true_and, Bool.and_true, Bool.false_and, Bool.and_false, Bool.or_true, Bool.true_or, Bool.or_false, Bool.false_or, Bool.false_eq_true, Bool.true_eq_false, Sc.int_i, Sc.bool_b, Sc.list_l, Sc.str_s, Int.reduceEq, Int.reduceLT, Int.reduceLE, Int.reduceNe, decide_true, decide_false, decide_not, eq_self, Classical.not_not, List.getElem?_cons_zero, List.getElem?_cons_succ, beq_self_eq_true, bne_self_eq_false]
  have m := fmean50_O ps hp
  have v := fvar_O ps hp
  have g := flag_O ps hp
  obtain ⟨x1, x2, x3, em⟩ := enc_form (mean50O ps)
  obtain ⟨y1, y2, y3, ev⟩ := enc_form (varO ps)
  obtain ⟨z1, z2, z3, eg⟩ := enc_form (lagO ps)
  have IX : I64 x1 ∧ I64 x2 := by
    cases h : mean50O ps with
    | none => rw [h] at em; cases em; exact ⟨⟨by omega, by omega⟩, ⟨by omega, by omega⟩⟩
    | some q => rw [h] at em; cases em; exact fit_i64 (mean50O_fit h)
  have hm : x3 = true → ps.any (abB (usualQ x1 x2)) = true ∧ ps.any (beB (usualQ x1 x2)) = true := by
    intro h3
    cases h : mean50O ps with
    | none => rw [h] at em; cases em; cases h3
    | some q => rw [h] at em; cases em; rw [usual_ok (mean50O_fit h)]; exact mean_any h
  have hv : y3 = true → ¬ cmpQ (usualQ y1 y2) 0 < 0 ∧ (y1 == 0) = (ps.all fun p => eqP p (ps.getD 0 (0, 0))) ∧ I64 y1 ∧ I64 y2 := by
    intro h3
    cases h : varO ps with
    | none => rw [h] at ev; cases ev; cases h3
    | some q =>
      rw [h] at ev; cases ev; rw [usual_ok (varO_fit h)]
      refine ⟨fun x => absurd (cmpQ_lt.1 x) (Rat.not_lt.2 (varO_nonneg h)), ?_, fit_i64 (varO_fit h)⟩
      rw [Bool.eq_iff_iff, beq_iff_eq, List.all_eq_true, Rat.num_eq_zero, varO_zero h]
      exact ⟨fun hh p hp => eqP_iff.2 (hh p hp), fun hh p hp => eqP_iff.1 (hh p hp)⟩
  have hg : z3 = true → cmpQ (usualQ z1 z2) 1 ≤ 0 ∧ 0 ≤ cmpQ (usualQ z1 z2) (-1) ∧ I64 z1 ∧ I64 z2 := by
    intro h3
    cases h : lagO ps with
    | none => rw [h] at eg; cases eg; cases h3
    | some q =>
      rw [h] at eg; cases eg; rw [usual_ok (lagO_fit h)]
      obtain ⟨a, b⟩ := lagO_val h
      refine ⟨cmpQ_le.2 b, ?_, fit_i64 (lagO_fit h)⟩
      have : ¬ cmpQ q (-1) < 0 := fun x => absurd (cmpQ_lt.1 x) (Rat.not_lt.2 a)
      omega
  rw [em] at m
  rw [ev] at v
  rw [eg] at g
  simp only [h1, m, v, g, Int.natCast_nonneg, bne_iff_ne, beq_iff_eq, ne_eq, decide_eq_true_eq, Bool.and_eq_true, Bool.or_eq_true, Bool.not_eq_true', decide_eq_false_iff_not, beq_eq_false_iff_ne, bne_eq_false_iff_eq, not_true_eq_false, not_false_eq_true, if_true, if_false, reduceIte, and_true, true_and, and_false, false_and, or_false, false_or, or_true, true_or, List.getD_cons_zero, List.getD_cons_succ, List.length_cons, List.length_nil, List.cons_append, List.nil_append, Nat.reduceAdd, Nat.reduceEqDiff, reduceCtorEq, Bool.not_true, Bool.not_false, Bool.true_and, Bool.and_true, Bool.false_and, Bool.and_false, Bool.or_true, Bool.true_or, Bool.or_false, Bool.false_or, Bool.false_eq_true, Bool.true_eq_false, Sc.int_i, Sc.bool_b, Sc.list_l, Sc.str_s, Int.reduceEq, Int.reduceLT, Int.reduceLE, Int.reduceNe, decide_true, decide_false, decide_not, eq_self, Classical.not_not, List.getElem?_cons_zero, List.getElem?_cons_succ, beq_self_eq_true, bne_self_eq_false]
  refine bounds_loop ps (usualQ x1 x2) _ (by omega) ?_ ?_
  · intro k rec e a b h k1 k2 i1 i2 hw
    have cm := rCmp_F ps[k].1 ps[k].2 x1 x2 (hp _ (List.getElem_mem h)).1 (hp _ (List.getElem_mem h)).2 IX.1 IX.2
    unfold eqP abB beB
    cases e <;> cases a <;> cases b <;> simp only [k1, k2, i1, i2, hw, cm, Int.natCast_nonneg, bne_iff_ne, beq_iff_eq, ne_eq, decide_eq_true_eq, Bool.and_eq_true, Bool.or_eq_true, Bool.not_eq_true', decide_eq_false_iff_not, beq_eq_false_iff_ne, bne_eq_false_iff_eq, not_true_eq_false, not_false_eq_true, if_true, if_false, reduceIte, and_true, true_and, and_false, false_and, or_false, false_or, or_true, true_or, List.getD_cons_zero, List.getD_cons_succ, List.length_cons, List.length_nil, List.cons_append, List.nil_append, Nat.reduceAdd, Nat.reduceEqDiff, reduceCtorEq, Bool.not_true, Bool.not_false, Bool.true_and, Bool.and_true, Bool.false_and, Bool.and_false, Bool.or_true, Bool.true_or, Bool.or_false, Bool.false_or, Bool.false_eq_true, Bool.true_eq_false, Sc.int_i, Sc.bool_b, Sc.list_l, Sc.str_s, Int.reduceEq, Int.reduceLT, Int.reduceLE, Int.reduceNe, decide_true, decide_false, decide_not, eq_self, Classical.not_not, List.getElem?_cons_zero, List.getElem?_cons_succ, beq_self_eq_true, bne_self_eq_false]
  · intro rec
    have c0 := fun (h : y3 = true) => rCmp_F y1 y2 0 1 (hv h).2.2.1 (hv h).2.2.2 ⟨by omega, by omega⟩ ⟨by omega, by omega⟩
    have c1 := fun (h : z3 = true) => rCmp_F z1 z2 1 1 (hg h).2.2.1 (hg h).2.2.2 ⟨by omega, by omega⟩ ⟨by omega, by omega⟩
    have c2 := fun (h : z3 = true) => rCmp_F z1 z2 (-1) 1 (hg h).2.2.1 (hg h).2.2.2 ⟨by omega, by omega⟩ ⟨by omega, by omega⟩
    rw [usual_zero] at c0
    rw [usual_one] at c1
    rw [usual_mone] at c2
    generalize (ps.all fun p => eqP p (ps.getD 0 (0, 0))) = E at *
    generalize ps.any (abB (usualQ x1 x2)) = AB at *
    generalize ps.any (beB (usualQ x1 x2)) = BE at *
    cases x3
    · cases y3
      · cases z3
        · simp only [Int.lt_irrefl, Int.natCast_nonneg, bne_iff_ne, beq_iff_eq, ne_eq, decide_eq_true_eq, Bool.and_eq_true, Bool.or_eq_true, Bool.not_eq_true', decide_eq_false_iff_not, beq_eq_false_iff_ne, bne_eq_false_iff_eq, not_true_eq_false, not_false_eq_true, if_true, if_false, reduceIte, and_true, true_and, and_false, false_and, or_false, false_or, or_true, true_or, List.getD_cons_zero, List.getD_cons_succ, List.length_cons, List.length_nil, List.cons_append, List.nil_append, Nat.reduceAdd, Nat.reduceEqDiff, reduceCtorEq, Bool.not_true, Bool.not_false, Bool.true_and, Bool.and_true, Bool.false_and, Bool.and_false, Bool.or_true, Bool.true_or, Bool.or_false, Bool.false_or, Bool.false_eq_true, Bool.true_eq_false, Sc.int_i, Sc.bool_b, Sc.list_l, Sc.str_s, Int.reduceEq, Int.reduceLT, Int.reduceLE, Int.reduceNe, decide_true, decide_false, decide_not, eq_self, Classical.not_not, List.getElem?_cons_zero, List.getElem?_cons_succ, beq_self_eq_true, bne_self_eq_false]
        · obtain ⟨g1, g2, _⟩ := hg rfl
          simp only [Int.lt_irrefl, c1 rfl, c2 rfl, g1, g2, Int.natCast_nonneg, bne_iff_ne, beq_iff_eq, ne_eq, decide_eq_true_eq, Bool.and_eq_true, Bool.or_eq_true, Bool.not_eq_true', decide_eq_false_iff_not, beq_eq_false_iff_ne, bne_eq_false_iff_eq, not_true_eq_false, not_false_eq_true, if_true, if_false, reduceIte, and_true, true_and, and_false, false_and, or_false, false_or, or_true, true_or, List.getD_cons_zero, List.getD_cons_succ, List.length_cons, List.length_nil, List.cons_append, List.nil_append, Nat.reduceAdd, Nat.reduceEqDiff, reduceCtorEq, Bool.not_true, Bool.not_false, Bool.true_and, Bool.and_true, Bool.false_and, Bool.and_false, Bool.or_true, Bool.true_or, Bool.or_false, Bool.false_or, Bool.false_eq_true, Bool.true_eq_false, Sc.int_i, Sc.bool_b, Sc.list_l, Sc.str_s, Int.reduceEq, Int.reduceLT, Int.reduceLE, Int.reduceNe, decide_true, decide_false, decide_not, eq_self, Classical.not_not, List.getElem?_cons_zero, List.getElem?_cons_succ, beq_self_eq_true, bne_self_eq_false]
      · obtain ⟨v1, v2, _⟩ := hv rfl
        cases z3
        · simp only [Int.lt_irrefl, c0 rfl, v1, v2, Int.natCast_nonneg, bne_iff_ne, beq_iff_eq, ne_eq, decide_eq_true_eq, Bool.and_eq_true, Bool.or_eq_true, Bool.not_eq_true', decide_eq_false_iff_not, beq_eq_false_iff_ne, bne_eq_false_iff_eq, not_true_eq_false, not_false_eq_true, if_true, if_false, reduceIte, and_true, true_and, and_false, false_and, or_false, false_or, or_true, true_or, List.getD_cons_zero, List.getD_cons_succ, List.length_cons, List.length_nil, List.cons_append, List.nil_append, Nat.reduceAdd, Nat.reduceEqDiff, reduceCtorEq, Bool.not_true, Bool.not_false, Bool.true_and, Bool.and_true, Bool.false_and, Bool.and_false, Bool.or_true, Bool.true_or, Bool.or_false, Bool.false_or, Bool.false_eq_true, Bool.true_eq_false, Sc.int_i, Sc.bool_b, Sc.list_l, Sc.str_s, Int.reduceEq, Int.reduceLT, Int.reduceLE, Int.reduceNe, decide_true, decide_false, decide_not, eq_self, Classical.not_not, List.getElem?_cons_zero, List.getElem?_cons_succ, beq_self_eq_true, bne_self_eq_false]
        · obtain ⟨g1, g2, _⟩ := hg rfl
          simp only [Int.lt_irrefl, c0 rfl, v1, v2, c1 rfl, c2 rfl, g1, g2, Int.natCast_nonneg, bne_iff_ne, beq_iff_eq, ne_eq, decide_eq_true_eq, Bool.and_eq_true, Bool.or_eq_true, Bool.not_eq_true', decide_eq_false_iff_not, beq_eq_false_iff_ne, bne_eq_false_iff_eq, not_true_eq_false, not_false_eq_true, if_true, if_false, reduceIte, and_true, true_and, and_false, false_and, or_false, false_or, or_true, true_or, List.getD_cons_zero, List.getD_cons_succ, List.length_cons, List.length_nil, List.cons_append, List.nil_append, Nat.reduceAdd, Nat.reduceEqDiff, reduceCtorEq, Bool.not_true, Bool.not_false, Bool.true_and, Bool.and_true, Bool.false_and, Bool.and_false, Bool.or_true, Bool.true_or, Bool.or_false, Bool.false_or, Bool.false_eq_true, Bool.true_eq_false, Sc.int_i, Sc.bool_b, Sc.list_l, Sc.str_s, Int.reduceEq, Int.reduceLT, Int.reduceLE, Int.reduceNe, decide_true, decide_false, decide_not, eq_self, Classical.not_not, List.getElem?_cons_zero, List.getElem?_cons_succ, beq_self_eq_true, bne_self_eq_false]
    · obtain ⟨m1, m2⟩ := hm rfl
      cases y3
      · cases z3
        · simp only [Int.lt_irrefl, m1, m2, Int.natCast_nonneg, bne_iff_ne, beq_iff_eq, ne_eq, decide_eq_true_eq, Bool.and_eq_true, Bool.or_eq_true, Bool.not_eq_true', decide_eq_false_iff_not, beq_eq_false_iff_ne, bne_eq_false_iff_eq, not_true_eq_false, not_false_eq_true, if_true, if_false, reduceIte, and_true, true_and, and_false, false_and, or_false, false_or, or_true, true_or, List.getD_cons_zero, List.getD_cons_succ, List.length_cons, List.length_nil, List.cons_append, List.nil_append, Nat.reduceAdd, Nat.reduceEqDiff, reduceCtorEq, Bool.not_true, Bool.not_false, Bool.true_and, Bool.and_true, Bool.false_and, Bool.and_false, Bool.or_true, Bool.true_or, Bool.or_false, Bool.false_or, Bool.false_eq_true, Bool.true_eq_false, Sc.int_i, Sc.bool_b, Sc.list_l, Sc.str_s, Int.reduceEq, Int.reduceLT, Int.reduceLE, Int.reduceNe, decide_true, decide_false, decide_not, eq_self, Classical.not_not, List.getElem?_cons_zero, List.getElem?_cons_succ, beq_self_eq_true, bne_self_eq_false]
        · obtain ⟨g1, g2, _⟩ := hg rfl
          simp only [Int.lt_irrefl, m1, m2, c1 rfl, c2 rfl, g1, g2, Int.natCast_nonneg, bne_iff_ne, beq_iff_eq, ne_eq, decide_eq_true_eq, Bool.and_eq_true, Bool.or_eq_true, Bool.not_eq_true', decide_eq_false_iff_not, beq_eq_false_iff_ne, bne_eq_false_iff_eq, not_true_eq_false, not_false_eq_true, if_true, if_false, reduceIte, and_true, true_and, and_false, false_and, or_false, false_or, or_true, true_or, List.getD_cons_zero, List.getD_cons_succ, List.length_cons, List.length_nil, List.cons_append, List.nil_append, Nat.reduceAdd, Nat.reduceEqDiff, reduceCtorEq, Bool.not_true, Bool.not_false, Bool.true_and, Bool.and_true, Bool.false_and, Bool.and_false, Bool.or_true, Bool.true_or, Bool.or_false, Bool.false_or, Bool.false_eq_true, Bool.true_eq_false, Sc.int_i, Sc.bool_b, Sc.list_l, Sc.str_s, Int.reduceEq, Int.reduceLT, Int.reduceLE, Int.reduceNe, decide_true, decide_false, decide_not, eq_self, Classical.not_not, List.getElem?_cons_zero, List.getElem?_cons_succ, beq_self_eq_true, bne_self_eq_false]
      · obtain ⟨v1, v2, _⟩ := hv rfl
        cases z3
        · simp only [Int.lt_irrefl, m1, m2, c0 rfl, v1, v2, Int.natCast_nonneg, bne_iff_ne, beq_iff_eq, ne_eq, decide_eq_true_eq, Bool.and_eq_true, Bool.or_eq_true, Bool.not_eq_true', decide_eq_false_iff_not, beq_eq_false_iff_ne, bne_eq_false_iff_eq, not_true_eq_false, not_false_eq_true, if_true, if_false, reduceIte, and_true, true_and, and_false, false_and, or_false, false_or, or_true, true_or, List.getD_cons_zero, List.getD_cons_succ, List.length_cons, List.length_nil, List.cons_append, List.nil_append, Nat.reduceAdd, Nat.reduceEqDiff, reduceCtorEq, Bool.not_true, Bool.not_false, Bool.true_and, Bool.and_true, Bool.false_and, Bool.and_false, Bool.or_true, Bool.true_or, Bool.or_false, Bool.false_or, Bool.false_eq_true, Bool.true_eq_false, Sc.int_i, Sc.bool_b, Sc.list_l, Sc.str_s, Int.reduceEq, Int.reduceLT, Int.reduceLE, Int.reduceNe, decide_true, decide_false, decide_not, eq_self, Classical.not_not, List.getElem?_cons_zero, List.getElem?_cons_succ, beq_self_eq_true, bne_self_eq_false]
        · obtain ⟨g1, g2, _⟩ := hg rfl
          simp only [Int.lt_irrefl, m1, m2, c0 rfl, v1, v2, c1 rfl, c2 rfl, g1, g2, Int.natCast_nonneg, bne_iff_ne, beq_iff_eq, ne_eq, decide_eq_true_eq, Bool.and_eq_true, Bool.or_eq_true, Bool.not_eq_true', decide_eq_false_iff_not, beq_eq_false_iff_ne, bne_eq_false_iff_eq, not_true_eq_false, not_false_eq_true, if_true, if_false, reduceIte, and_true, true_and, and_false, false_and, or_false, false_or, or_true, true_or, List.getD_cons_zero, List.getD_cons_succ, List.length_cons, List.length_nil, List.cons_append, List.nil_append, Nat.reduceAdd, Nat.reduceEqDiff, reduceCtorEq, Bool.not_true, Bool.not_false, Bool.true_and, Bool.and_true, Bool.false_and, Bool.and_false, Bool.or_true, Bool.true_or, Bool.or_false, Bool.false_or, Bool.false_eq_true, Bool.true_eq_false, Sc.int_i, Sc.bool_b, Sc.list_l, Sc.str_s, Int.reduceEq, Int.reduceLT, Int.reduceLE, Int.reduceNe, decide_true, decide_false, decide_not, eq_self, Classical.not_not, List.getElem?_cons_zero, List.getElem?_cons_succ, beq_self_eq_true, bne_self_eq_false]

namespace batchBounds
theorem own : ownKnob Try.prog.godebug = none := by kernel_rfl
theorem laidOut : laidOutB Try.prog = true := by kernel_rfl
set_option maxRecDepth 100000 in
theorem lifted (os : Os) (started : os.Started) (H : Type) (enc : TypeId × Value → H) :
    ReturnsInHanded {} Try.checked os 7 .any (Rows.batchBoundsSpec.pre6 enc Try.prog Try.f7 Rows.batchBoundsRow.domain false) (Rows.batchBoundsSpec.post enc Try.prog Try.f7 false true false false) := by
  refine returnsInHanded_of_change (C := Try.checked) own started (by kernel_rfl) Try.func7
    (ChangeSpec.witness6 (enc := enc) (C := Try.checked) false ⟨#[], #[.slice none 0 0], []⟩ 8 (by kernel_rfl) (by kernel_rfl) (by kernel_rfl) (by kernel_rfl)) ?_
  intro W base args ds gs before hval0 hW hcnd _
  have hval : ∀ (j : Nat) t v, Try.f7.params[j]? = some t → args[j]? = some v → Value.okWide Try.prog W .any base t v := hval0
  have hW' := hW
  obtain ⟨p, q, hA0, hV, rfl, hfz, hnd⟩ := hW
  have hA : DataW.TrodAll enc Try.prog W 0 (fun _ => true) true Try.f7.params.toList args.toList ds p := hA0
  rw [Try.params7] at hA hval
  obtain ⟨v0, vs0, d0, ds0, p0, q0, hargs, rfl, rfl, h0, r0⟩ := trodAll_cons hA
  obtain ⟨rfl, rfl, rfl⟩ := trodAll_nil r0
  obtain rfl : args = #[v0] := by cases args; simp_all
  obtain ⟨rfl, rfl⟩ := trodVars_none hV
  have k0 := h0
  have lt0 : ∀ x ∈ p0, x.block < W.heap.size := by obtain ⟨m, hm⟩ := k0; exact DataW.trod_lt m _ _ _ hm
  have ok0 := hval 0 24 v0 rfl rfl
  obtain ⟨ps, i0, _, g0⟩ := open_pairs Try.underlying24 (by kernel_rfl) (by kernel_rfl) ok0 h0
  clear hA0 hval0
  refine (law_call k_simulatorlaw48_BatchBounds (Try.call7 _ _) (vs := [v0]) (args1 g0) (bounds_F ps i0) rfl).mono fun e W' ⟨he, bel⟩ => ?_
  subst he
  exact ⟨_, rfl, _, _, _, [], _, [], hW', trodAll_mk1 (shut_bool Try.underlying4 _), (trodAll_cons_mk (Below.trod laidOut (by kernel_rfl) (of_decide_eq_true (by kernel_rfl)) k0 bel lt0) trodAll_mk0), rfl, bel.frame _, fun h => by cases h⟩
theorem over : Rows.batchBoundsRow.holds Try.pinned (OpenSpec.ofChange Rows.batchBoundsSpec) :=
  OpenClaim.holds_of_wide 7 Try.f7 rfl rfl rfl rfl rfl rfl rfl ⟨rfl, rfl, rfl, rfl, rfl⟩ rfl rfl rfl rfl rfl (by kernel_rfl) Try.func7 (by kernel_rfl)
    (of_decide_eq_true (by kernel_rfl)) (by unfold Func.isWrapper; first | (rw [if_pos (by decide +kernel)]; kernel_rfl) | (rw [if_neg (by decide +kernel)]; exact ⟨rfl, rfl⟩))
    (fun os started H enc _ => lifted os started H enc)
theorem proved : Rows.BatchBoundsSaid := over
end batchBounds

end Go.Proofs.Ytgekeolponbifaa
