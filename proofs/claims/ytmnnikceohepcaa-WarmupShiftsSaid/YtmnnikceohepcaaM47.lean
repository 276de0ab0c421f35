/-
  Chapter 47: what Score, Detect and their references return.
-/
import Derived.Test.YtmnnikceohepcaaK47
import Derived.Test.YtmnnikceohepcaaLp
import Derived.Test.YtmnnikceohepcaaFq
import Derived.Test.YtmnnikceohepcaaFrO
import Derived.Test.YtmnnikceohepcaaFrCmp
import Derived.Test.YtmnnikceohepcaaRfC
namespace Go.Proofs.Ytmnnikceohepcaa
set_option linter.unusedSimpArgs false

def val4 (B x : Int) : Bool := decide (-B ≤ x) && decide (x ≤ B)
theorem val4_true {B x : Int} : val4 B x = true ↔ -B ≤ x ∧ x ≤ B := by simp [val4]
theorem outside_F (x B : Int) (hB : 0 ≤ B) (hB2 : B < 9223372036854775808) : k_warmup_outside.F [.i x, .i B] = some [.b (!val4 B x)] := by
  simp only [k_warmup_outside_F, tk_warmup_outside, Go.Proofs.Ytmnnikceohepcaa.T.den, Ex.ev, U1.ev, U2.ev, U3.ev, gam, List.map, List.getD_cons_zero, List.getD_cons_succ, List.length, List.cons_append, List.nil_append, if_true, Sc.int_i, Sc.bool_b, Sc.list_l, Sc.str_s, Nat.reduceEqDiff, if_false, List.getElem?_cons_zero, List.getElem?_cons_succ]
  have w : IntKind.i64.wrap (0 - B) = -B := by rw [wrI (by omega) (by omega)]; omega
  rw [w]
  unfold val4
  by_cases h1 : x < -B
  · have : ¬ -B ≤ x := by omega
    simp only [h1, this, Int.natCast_nonneg, bne_iff_ne, beq_iff_eq, ne_eq, decide_eq_true_eq, Bool.and_eq_true, Bool.or_eq_true, Bool.not_eq_true', decide_eq_false_iff_not, beq_eq_false_iff_ne, bne_eq_false_iff_eq, not_true_eq_false, not_false_eq_true, if_true, if_false, reduceIte, and_true, true_and, and_false, false_and, or_false, false_or, or_true, true_or, List.getD_cons_zero, List.getD_cons_succ, List.length_cons, List.length_nil, List.cons_append, List.nil_append, Nat.reduceAdd, Nat.reduceEqDiff, reduceCtorEq, Bool.not_true, Bool.not_false, Bool.true_and, Bool.and_true, Bool.false_and, Bool.and_false, Bool.or_true, Bool.true_or, Bool.or_false, Bool.false_or, Bool.false_eq_true, Bool.true_eq_false, Sc.int_i, Sc.bool_b, Sc.list_l, Sc.str_s, Int.reduceEq, Int.reduceLT, Int.reduceLE, Int.reduceNe, decide_true, decide_false, decide_not, eq_self, Classical.not_not, List.getElem?_cons_zero, List.getElem?_cons_succ, beq_self_eq_true, bne_self_eq_false]
  · have h1' : -B ≤ x := by omega
    by_cases h2 : B < x
    · have : ¬ x ≤ B := by omega
      simp only [h1, h1', h2, this, Int.natCast_nonneg, bne_iff_ne, beq_iff_eq, ne_eq, decide_eq_true_eq, Bool.and_eq_true, Bool.or_eq_true, Bool.not_eq_true', decide_eq_false_iff_not, beq_eq_false_iff_ne, bne_eq_false_iff_eq, not_true_eq_false, not_false_eq_true, if_true, if_false, reduceIte, and_true, true_and, and_false, false_and, or_false, false_or, or_true, true_or, List.getD_cons_zero, List.getD_cons_succ, List.length_cons, List.length_nil, List.cons_append, List.nil_append, Nat.reduceAdd, Nat.reduceEqDiff, reduceCtorEq, Bool.not_true, Bool.not_false, Bool.true_and, Bool.and_true, Bool.false_and, Bool.and_false, Bool.or_true, Bool.true_or, Bool.or_false, Bool.false_or, Bool.false_eq_true, Bool.true_eq_false, Sc.int_i, Sc.bool_b, Sc.list_l, Sc.str_s, Int.reduceEq, Int.reduceLT, Int.reduceLE, Int.reduceNe, decide_true, decide_false, decide_not, eq_self, Classical.not_not, List.getElem?_cons_zero, List.getElem?_cons_succ, beq_self_eq_true, bne_self_eq_false]
    · have : x ≤ B := by omega
      simp only [h1, h1', h2, this, Int.natCast_nonneg, bne_iff_ne, beq_iff_eq, ne_eq, decide_eq_true_eq, Bool.and_eq_true, Bool.or_eq_true, Bool.not_eq_true', decide_eq_false_iff_not, beq_eq_false_iff_ne, bne_eq_false_iff_eq, not_true_eq_false, not_false_eq_true, if_true, if_false, reduceIte, and_true, true_and, and_false, false_and, or_false, false_or, or_true, true_or, List.getD_cons_zero, List.getD_cons_succ, List.length_cons, List.length_nil, List.cons_append, List.nil_append, Nat.reduceAdd, Nat.reduceEqDiff, reduceCtorEq, Bool.not_true, Bool.not_false, Bool.true_and, Bool.and_true, Bool.false_and, Bool.and_false, Bool.or_true, Bool.true_or, Bool.or_false, Bool.false_or, Bool.false_eq_true, Bool.true_eq_false, Sc.int_i, Sc.bool_b, Sc.list_l, Sc.str_s, Int.reduceEq, Int.reduceLT, Int.reduceLE, Int.reduceNe, decide_true, decide_false, decide_not, eq_self, Classical.not_not, List.getElem?_cons_zero, List.getElem?_cons_succ, beq_self_eq_true, bne_self_eq_false]
/-- A loop that looks for a first bad element. -/
theorem find_loop {g : (List Sc → Option (List Sc)) → List Sc → Option (List Sc)} (xs : List Int) (p : Int → Bool) (bad good : Option (List Sc)) (hlen : xs.length < 340282366920938463463374607431768211456)
    (h1 : ∀ (k : Nat) rec (h : k < xs.length), p xs[k] = true → g rec [.i k] = rec [.i ((k + 1 : Nat) : Int)])
    (h2 : ∀ (k : Nat) rec (h : k < xs.length), p xs[k] = false → g rec [.i k] = bad)
    (h3 : ∀ rec, xs.all p = true → g rec [.i (xs.length : Int)] = good) : loopN g rounds [.i 0] = if xs.all p = true then good else bad := by
  refine (loop_rounds (S := Nat) (fun k => [.i k]) (fun k => if (xs.drop k).all p = true then good else bad) (fun k => k ≤ xs.length ∧ (xs.take k).all p = true) (fun k => xs.length - k) ?_ 0 ⟨by omega, rfl⟩ (by omega)).trans (by rw [List.drop_zero])
  rintro k rec ⟨hk, hall⟩ hrec
  by_cases h : k < xs.length
  · rw [List.drop_eq_getElem_cons h, List.all_cons]
    cases hp : p xs[k]
    · rw [h2 k rec h hp]; simp
    · have ha : (xs.take (k + 1)).all p = true := by rw [all_take_succ p xs k h, hall, hp]; rfl
      rw [h1 k rec h hp, hrec (k + 1) ⟨by omega, ha⟩ (by omega)]; simp
  · have e : k = xs.length := by omega
    subst e
    rw [List.take_length] at hall
    rw [h3 rec hall]; simp
theorem sumI_take {ys : List Int} {j : Nat} (h : j < ys.length) : sumI (ys.take (j + 1)) = sumI (ys.take j) + ys[j] := by
  rw [List.take_add_one, List.getElem?_eq_getElem h, sumI_append]; simp [sumI]
theorem sumQ_take {ys : List Int} {j : Nat} (h : j < ys.length) : sumQ (ys.take (j + 1)) = sumQ (ys.take j) + ys[j] * ys[j] := by
  rw [List.take_add_one, List.getElem?_eq_getElem h, sumQ_append]; simp [sumQ]
theorem sum_loop {g : (List Sc → Option (List Sc)) → List Sc → Option (List Sc)} (ys : List Int) (c : Nat) (R : Option (List Sc)) (hlen : ys.length < 340282366920938463463374607431768211456)
    (h1 : ∀ (j : Nat) rec (h : j < ys.length), g rec [.i (sumI (ys.take j)), .i (sumQ (ys.take j)), .i ((c + j : Nat) : Int)] = rec [.i (sumI (ys.take j) + ys[j]), .i (sumQ (ys.take j) + ys[j] * ys[j]), .i ((c + j + 1 : Nat) : Int)])
    (h2 : ∀ rec, g rec [.i (sumI ys), .i (sumQ ys), .i ((c + ys.length : Nat) : Int)] = R) : loopN g rounds [.i 0, .i 0, .i (c : Int)] = R := by
  have h := loop_rounds (g := g) (S := Nat) (fun j => [.i (sumI (ys.take j)), .i (sumQ (ys.take j)), .i ((c + j : Nat) : Int)]) (fun _ => R) (fun j => j ≤ ys.length) (fun j => ys.length - j) (by
    intro j rec hj hrec
    by_cases hl : j < ys.length
    · have := hrec (j + 1) (by omega) (by omega)
      try simp only at this ⊢
      rw [sumI_take hl, sumQ_take hl] at this
      rw [h1 j rec hl]; exact this
    · have e : j = ys.length := by omega
      subst e
      have := h2 rec
      simp only [List.take_length]
      exact this) 0 (by omega) (by omega)
  simpa [sumI, sumQ] using h
def mq (ys : List Int) : Int := (ys.length : Int) * ys.length * ys.length
def scQ (xs : List Int) (k : Nat) : Rat := Rat.divInt (varN (xs.drop k)) (mq (xs.drop k))
def good4 (xs : List Int) (k : Int) : Prop := xs.length ≤ 1000 ∧ xs.all (val4 10000) = true ∧ 0 ≤ k ∧ k < xs.length
instance (xs : List Int) (k : Int) : Decidable (good4 xs k) := by unfold good4; exact inferInstance
def scoreL (xs : List Int) (k : Int) : List Sc := if good4 xs k then [.i (scQ xs k.toNat).num, .i (scQ xs k.toNat).den, .b true] else noQ
theorem scoreL_out {xs : List Int} {k : Int} (h : ¬ good4 xs k) : scoreL xs k = noQ := if_neg h
theorem scoreL_in {xs : List Int} {k : Int} (h : good4 xs k) : scoreL xs k = [.i (scQ xs k.toNat).num, .i (scQ xs k.toNat).den, .b true] := if_pos h
theorem all_mem {xs : List Int} {B : Int} (h : xs.all (val4 B) = true) : ∀ x ∈ xs, -B ≤ x ∧ x ≤ B := fun x hx => val4_true.1 (List.all_eq_true.1 h x hx)
theorem sums_in {xs : List Int} (h : xs.all (val4 10000) = true) (hl : xs.length ≤ 1000) (k : Nat) (j : Nat) : -10000000 ≤ sumI ((xs.drop k).take j) ∧ sumI ((xs.drop k).take j) ≤ 10000000 ∧ 0 ≤ sumQ ((xs.drop k).take j) ∧ sumQ ((xs.drop k).take j) ≤ 100000000000 := by
  obtain ⟨a, b, c, d⟩ := sum_bound (B := 10000) (by omega) ((xs.drop k).take j) (fun x hx => all_mem h x (List.mem_of_mem_drop (List.mem_of_mem_take hx)))
  have : ((xs.drop k).take j).length ≤ 1000 := by rw [List.length_take, List.length_drop]; omega
  omega
theorem score_ends {xs : List Int} (h : xs.all (val4 10000) = true) (hl : xs.length ≤ 1000) {k : Nat} (hk : k < xs.length) :
    let m : Int := xs.length - k
    IntKind.i64.wrap (xs.length - (k : Int)) = m ∧ IntKind.i64.wrap (IntKind.i64.wrap (m * sumQ (xs.drop k)) - IntKind.i64.wrap (sumI (xs.drop k) * sumI (xs.drop k))) = varN (xs.drop k) ∧
    IntKind.i64.wrap (IntKind.i64.wrap (m * m) * m) = mq (xs.drop k) ∧ 0 ≤ varN (xs.drop k) ∧ varN (xs.drop k) ≤ 100000000000000 ∧ 1 ≤ mq (xs.drop k) ∧ mq (xs.drop k) ≤ 1000000000 := by
  intro m
  have hb := sums_in h hl k (xs.drop k).length
  rw [List.take_length] at hb
  obtain ⟨b1, b2, b3, b4⟩ := hb
  have hm : ((xs.drop k).length : Int) = m := by rw [List.length_drop]; omega
  have hv := varN_nonneg (xs.drop k)
  unfold varN at hv ⊢
  unfold mq
  rw [hm] at hv ⊢
  have m1 : 1 ≤ m := by omega
  have m2 : m ≤ 1000 := by omega
  have e1 : 0 ≤ m * sumQ (xs.drop k) := Int.mul_nonneg (by omega) b3
  have e2 : m * sumQ (xs.drop k) ≤ 1000 * 100000000000 := Int.mul_le_mul m2 b4 b3 (by omega)
  have e3 : 0 ≤ sumI (xs.drop k) * sumI (xs.drop k) := sq_pos _
  have e4 : 1 ≤ m * m := by have := Int.mul_le_mul m1 m1 (by omega) (by omega); omega
  have e5 : m * m ≤ 1000 * 1000 := Int.mul_le_mul m2 m2 (by omega) (by omega)
  have e6 : 1 ≤ m * m * m := by have := Int.mul_le_mul e4 m1 (by omega) (by omega); omega
  have e7 : m * m * m ≤ 1000 * 1000 * 1000 := Int.mul_le_mul e5 m2 (by omega) (by omega)
  refine ⟨wrI (by omega) (by omega), ?_, ?_, hv, by omega, e6, by omega⟩
  · rw [wrI (z := m * sumQ (xs.drop k)) (by omega) (by omega), wrI (z := sumI (xs.drop k) * sumI (xs.drop k)) (by omega) (by omega), wrI (by omega) (by omega)]
  · rw [wrI (z := m * m) (by omega) (by omega), wrI (by omega) (by omega)]
theorem score_fit {xs : List Int} (h : xs.all (val4 10000) = true) (hl : xs.length ≤ 1000) {k : Nat} (hk : k < xs.length) : fitQ (scQ xs k) = true := by
  obtain ⟨_, _, _, v1, v2, q1, q2⟩ := score_ends h hl hk
  exact fit_small (by omega) (by unfold maxN; omega) (by unfold maxD; omega)
theorem score_F (xs : List Int) (k : Int) : k_warmup_Score.F [.l (xs.map .i), .i k] = some (scoreL xs k) := by
  simp only [k_warmup_Score_F, tk_warmup_Score, k_warmup_outside_f, k_frac_Of_f, List.length_map, Go.Proofs.Ytmnnikceohepcaa.T.den, Ex.ev, U1.ev, U2.ev, U3.ev, gam, List.map, List.getD_cons_zero, List.getD_cons_succ, List.length, List.cons_append, List.nil_append, if_true, Sc.int_i, Sc.bool_b, Sc.list_l, Sc.str_s, Nat.reduceEqDiff, if_false, List.getElem?_cons_zero, List.getElem?_cons_succ]
  by_cases h1 : 1000 < xs.length
  · have h1' : (1000 : Int) < xs.length := by omega
    rw [scoreL_out (fun h => by unfold good4 at h; omega)]
    simp only [h1', noQ, Int.natCast_nonneg, bne_iff_ne, beq_iff_eq, ne_eq, decide_eq_true_eq, Bool.and_eq_true, Bool.or_eq_true, Bool.not_eq_true', decide_eq_false_iff_not, beq_eq_false_iff_ne, bne_eq_false_iff_eq, not_true_eq_false, not_false_eq_true, if_true, if_false, reduceIte, and_true, true_and, and_false, false_and, or_false, false_or, or_true, true_or, List.getD_cons_zero, List.getD_cons_succ, List.length_cons, List.length_nil, List.cons_append, List.nil_append, Nat.reduceAdd, Nat.reduceEqDiff, reduceCtorEq, Bool.not_true, Bool.not_false, Bool.true_and, Bool.and_true, Bool.false_and, Bool.and_false, Bool.or_true, Bool.true_or, Bool.or_false, Bool.false_or, Bool.false_eq_true, Bool.true_eq_false, Sc.int_i, Sc.bool_b, Sc.list_l, Sc.str_s, Int.reduceEq, Int.reduceLT, Int.reduceLE, Int.reduceNe, decide_true, decide_false, decide_not, eq_self, Classical.not_not, List.getElem?_cons_zero, List.getElem?_cons_succ, beq_self_eq_true, bne_self_eq_false]
  have h1' : ¬ (1000 : Int) < xs.length := by omega
  by_cases h2 : k < 0
  · rw [scoreL_out (fun h => by unfold good4 at h; omega)]
    simp only [h1', h2, noQ, Int.natCast_nonneg, bne_iff_ne, beq_iff_eq, ne_eq, decide_eq_true_eq, Bool.and_eq_true, Bool.or_eq_true, Bool.not_eq_true', decide_eq_false_iff_not, beq_eq_false_iff_ne, bne_eq_false_iff_eq, not_true_eq_false, not_false_eq_true, if_true, if_false, reduceIte, and_true, true_and, and_false, false_and, or_false, false_or, or_true, true_or, List.getD_cons_zero, List.getD_cons_succ, List.length_cons, List.length_nil, List.cons_append, List.nil_append, Nat.reduceAdd, Nat.reduceEqDiff, reduceCtorEq, Bool.not_true, Bool.not_false, Bool.true_and, Bool.and_true, Bool.false_and, Bool.and_false, Bool.or_true, Bool.true_or, Bool.or_false, Bool.false_or, Bool.false_eq_true, Bool.true_eq_false, Sc.int_i, Sc.bool_b, Sc.list_l, Sc.str_s, Int.reduceEq, Int.reduceLT, Int.reduceLE, Int.reduceNe, decide_true, decide_false, decide_not, eq_self, Classical.not_not, List.getElem?_cons_zero, List.getElem?_cons_succ, beq_self_eq_true, bne_self_eq_false]
  by_cases h3 : (xs.length : Int) ≤ k
  · rw [scoreL_out (fun h => by unfold good4 at h; omega)]
    simp only [h1', h2, h3, noQ, Int.natCast_nonneg, bne_iff_ne, beq_iff_eq, ne_eq, decide_eq_true_eq, Bool.and_eq_true, Bool.or_eq_true, Bool.not_eq_true', decide_eq_false_iff_not, beq_eq_false_iff_ne, bne_eq_false_iff_eq, not_true_eq_false, not_false_eq_true, if_true, if_false, reduceIte, and_true, true_and, and_false, false_and, or_false, false_or, or_true, true_or, List.getD_cons_zero, List.getD_cons_succ, List.length_cons, List.length_nil, List.cons_append, List.nil_append, Nat.reduceAdd, Nat.reduceEqDiff, reduceCtorEq, Bool.not_true, Bool.not_false, Bool.true_and, Bool.and_true, Bool.false_and, Bool.and_false, Bool.or_true, Bool.true_or, Bool.or_false, Bool.false_or, Bool.false_eq_true, Bool.true_eq_false, Sc.int_i, Sc.bool_b, Sc.list_l, Sc.str_s, Int.reduceEq, Int.reduceLT, Int.reduceLE, Int.reduceNe, decide_true, decide_false, decide_not, eq_self, Classical.not_not, List.getElem?_cons_zero, List.getElem?_cons_succ, beq_self_eq_true, bne_self_eq_false]
  simp only [h1', h2, h3, Int.natCast_nonneg, bne_iff_ne, beq_iff_eq, ne_eq, decide_eq_true_eq, Bool.and_eq_true, Bool.or_eq_true, Bool.not_eq_true', decide_eq_false_iff_not, beq_eq_false_iff_ne, bne_eq_false_iff_eq, not_true_eq_false, not_false_eq_true, if_true, if_false, reduceIte, and_true, true_and, and_false, false_and, or_false, false_or, or_true, true_or, List.getD_cons_zero, List.getD_cons_succ, List.length_cons, List.length_nil, List.cons_append, List.nil_append, Nat.reduceAdd, Nat.reduceEqDiff, reduceCtorEq, Bool.not_true, Bool.not_false, Bool.true_and, Bool.and_true, Bool.false_and, Bool.and_false, Bool.or_true, Bool.true_or, Bool.or_false, Bool.false_or, Bool.false_eq_true, Bool.true_eq_false, Sc.int_i, Sc.bool_b, Sc.list_l, Sc.str_s, Int.reduceEq, Int.reduceLT, Int.reduceLE, Int.reduceNe, decide_true, decide_false, decide_not, eq_self, Classical.not_not, List.getElem?_cons_zero, List.getElem?_cons_succ, beq_self_eq_true, bne_self_eq_false]
  refine (find_loop xs (val4 10000) (some noQ) (some [.i (scQ xs k.toNat).num, .i (scQ xs k.toNat).den, .b true]) (by omega) ?_ ?_ ?_).trans ?_
  · intro i rec h hp
    have hi := idx_map Sc.i xs i h
    have hil : (i : Int) < xs.length := by omega
    have hw := succ_w (n := xs.length) h (by omega)
    have o := outside_F xs[i] 10000 (by omega) (by omega)
    rw [hp] at o
    simp only [hi, hil, hw, o, Int.natCast_nonneg, bne_iff_ne, beq_iff_eq, ne_eq, decide_eq_true_eq, Bool.and_eq_true, Bool.or_eq_true, Bool.not_eq_true', decide_eq_false_iff_not, beq_eq_false_iff_ne, bne_eq_false_iff_eq, not_true_eq_false, not_false_eq_true, if_true, if_false, reduceIte, and_true, true_and, and_false, false_and, or_false, false_or, or_true, true_or, List.getD_cons_zero, List.getD_cons_succ, List.length_cons, List.length_nil, List.cons_append, List.nil_append, Nat.reduceAdd, Nat.reduceEqDiff, reduceCtorEq, Bool.not_true, Bool.not_false, Bool.true_and, Bool.and_true, Bool.false_and, Bool.and_false, Bool.or_true, Bool.true_or, Bool.or_false, Bool.false_or, Bool.false_eq_true, Bool.true_eq_false, Sc.int_i, Sc.bool_b, Sc.list_l, Sc.str_s, Int.reduceEq, Int.reduceLT, Int.reduceLE, Int.reduceNe, decide_true, decide_false, decide_not, eq_self, Classical.not_not, List.getElem?_cons_zero, List.getElem?_cons_succ, beq_self_eq_true, bne_self_eq_false]
  · intro i rec h hp
    have hi := idx_map Sc.i xs i h
    have hil : (i : Int) < xs.length := by omega
    have o := outside_F xs[i] 10000 (by omega) (by omega)
    rw [hp] at o
    simp only [hi, hil, o, noQ, Int.natCast_nonneg, bne_iff_ne, beq_iff_eq, ne_eq, decide_eq_true_eq, Bool.and_eq_true, Bool.or_eq_true, Bool.not_eq_true', decide_eq_false_iff_not, beq_eq_false_iff_ne, bne_eq_false_iff_eq, not_true_eq_false, not_false_eq_true, if_true, if_false, reduceIte, and_true, true_and, and_false, false_and, or_false, false_or, or_true, true_or, List.getD_cons_zero, List.getD_cons_succ, List.length_cons, List.length_nil, List.cons_append, List.nil_append, Nat.reduceAdd, Nat.reduceEqDiff, reduceCtorEq, Bool.not_true, Bool.not_false, Bool.true_and, Bool.and_true, Bool.false_and, Bool.and_false, Bool.or_true, Bool.true_or, Bool.or_false, Bool.false_or, Bool.false_eq_true, Bool.true_eq_false, Sc.int_i, Sc.bool_b, Sc.list_l, Sc.str_s, Int.reduceEq, Int.reduceLT, Int.reduceLE, Int.reduceNe, decide_true, decide_false, decide_not, eq_self, Classical.not_not, List.getElem?_cons_zero, List.getElem?_cons_succ, beq_self_eq_true, bne_self_eq_false]
  · intro rec hall
    obtain ⟨K, rfl⟩ : ∃ K : Nat, k = K := ⟨k.toNat, by omega⟩
    have hK : K < xs.length := by omega
    obtain ⟨w1, w2, w3, v1, v2, q1, q2⟩ := score_ends hall (by omega) hK
    have hf := score_fit hall (by omega) hK
    unfold scQ at hf
    have of := fOf_F (varN (xs.drop K)) (mq (xs.drop K)) ⟨by omega, by omega⟩ ⟨by omega, by omega⟩
    rw [ofQ, if_neg (by omega), outQ_yes hf] at of
    have hK0 : (0 : Int) ≤ K := by omega
    have hK1 : (K : Int) ≤ xs.length := by omega
    simp only [Int.lt_irrefl, hK0, hK1, Int.le_refl, w1, Int.natCast_nonneg, bne_iff_ne, beq_iff_eq, ne_eq, decide_eq_true_eq, Bool.and_eq_true, Bool.or_eq_true, Bool.not_eq_true', decide_eq_false_iff_not, beq_eq_false_iff_ne, bne_eq_false_iff_eq, not_true_eq_false, not_false_eq_true, if_true, if_false, reduceIte, and_true, true_and, and_false, false_and, or_false, false_or, or_true, true_or, List.getD_cons_zero, List.getD_cons_succ, List.length_cons, List.length_nil, List.cons_append, List.nil_append, Nat.reduceAdd, Nat.reduceEqDiff, reduceCtorEq, Bool.not_true, Bool.not_false, Bool.true_and, Bool.and_true, Bool.false_and, Bool.and_false, Bool.or_true, Bool.true_or, Bool.or_false, Bool.false_or, Bool.false_eq_true, Bool.true_eq_false, Sc.int_i, Sc.bool_b, Sc.list_l, Sc.str_s, Int.reduceEq, Int.reduceLT, Int.reduceLE, Int.reduceNe, decide_true, decide_false, decide_not, eq_self, Classical.not_not, List.getElem?_cons_zero, List.getElem?_cons_succ, beq_self_eq_true, bne_self_eq_false]
    refine sum_loop (xs.drop K) 0 _ (by rw [List.length_drop]; omega) ?_ ?_
    · intro j rec2 hj
      rw [List.length_drop] at hj
      have hjl : ((0 + j : Nat) : Int) < (xs.length : Int) - K := by omega
      have wj : IntKind.i64.wrap ((K : Int) + ((0 + j : Nat) : Int)) = ((K + j : Nat) : Int) := by rw [wrI (by omega) (by omega)]; omega
      have hi := idx_map Sc.i xs (K + j) (by omega)
      have hd : (xs.drop K)[j]'(by rw [List.length_drop]; exact hj) = xs[K + j] := by rw [List.getElem_drop]
      rw [hd]
      have hm := all_mem hall xs[K + j] (List.getElem_mem ..)
      obtain ⟨b1, b2, b3, b4⟩ := sums_in hall (by omega) K j
      have sqb := sq_pos xs[K + j]
      have sqc : xs[K + j] * xs[K + j] ≤ 10000 * 10000 := by
        have h : (xs[K + j] * xs[K + j]).natAbs ≤ 10000 * 10000 := by rw [Int.natAbs_mul]; exact Nat.mul_le_mul (by omega) (by omega)
        omega
      have x1 : IntKind.i64.wrap (sumI ((xs.drop K).take j) + xs[K + j]) = sumI ((xs.drop K).take j) + xs[K + j] := wrI (by omega) (by omega)
      have x2 : IntKind.i64.wrap (xs[K + j] * xs[K + j]) = xs[K + j] * xs[K + j] := wrI (by omega) (by omega)
      have x3 : IntKind.i64.wrap (sumQ ((xs.drop K).take j) + xs[K + j] * xs[K + j]) = sumQ ((xs.drop K).take j) + xs[K + j] * xs[K + j] := wrI (by omega) (by omega)
      have x4 : IntKind.i64.wrap (((0 + j : Nat) : Int) + 1) = ((0 + j + 1 : Nat) : Int) := by rw [wrI (by omega) (by omega)]; omega
      simp only [hjl, wj, hi, x1, x2, x3, x4, Int.natCast_nonneg, bne_iff_ne, beq_iff_eq, ne_eq, decide_eq_true_eq, Bool.and_eq_true, Bool.or_eq_true, Bool.not_eq_true', decide_eq_false_iff_not, beq_eq_false_iff_ne, bne_eq_false_iff_eq, not_true_eq_false, not_false_eq_true, if_true, if_false, reduceIte, and_true, true_and, and_false, false_and, or_false, false_or, or_true, true_or, List.getD_cons_zero, List.getD_cons_succ, List.length_cons, List.length_nil, List.cons_append, List.nil_append, Nat.reduceAdd, Nat.reduceEqDiff, reduceCtorEq, Bool.not_true, Bool.not_false, Bool.true_and, Bool.and_true, Bool.false_and, Bool.and_false, Bool.or_true, Bool.true_or, Bool.or_false, Bool.false_or, Bool.false_eq_true, Bool.true_eq_false, Sc.int_i, Sc.bool_b, Sc.list_l, Sc.str_s, Int.reduceEq, Int.reduceLT, Int.reduceLE, Int.reduceNe, decide_true, decide_false, decide_not, eq_self, Classical.not_not, List.getElem?_cons_zero, List.getElem?_cons_succ, beq_self_eq_true, bne_self_eq_false]
    · intro rec2
      have hnl : ¬ ((0 + (xs.drop K).length : Nat) : Int) < (xs.length : Int) - K := by rw [List.length_drop]; omega
      unfold scQ
      simp only [hnl, w2, w3, of, Int.toNat_natCast, Int.natCast_nonneg, bne_iff_ne, beq_iff_eq, ne_eq, decide_eq_true_eq, Bool.and_eq_true, Bool.or_eq_true, Bool.not_eq_true', decide_eq_false_iff_not, beq_eq_false_iff_ne, bne_eq_false_iff_eq, not_true_eq_false, not_false_eq_true, if_true, if_false, reduceIte, and_true, true_and, and_false, false_and, or_false, false_or, or_true, true_or, List.getD_cons_zero, List.getD_cons_succ, List.length_cons, List.length_nil, List.cons_append, List.nil_append, Nat.reduceAdd, Nat.reduceEqDiff, reduceCtorEq, Bool.not_true, Bool.not_false, Bool.true_and, Bool.and_true, Bool.false_and, Bool.and_false, Bool.or_true, Bool.true_or, Bool.or_false, Bool.false_or, Bool.false_eq_true, Bool.true_eq_false, Sc.int_i, Sc.bool_b, Sc.list_l, Sc.str_s, Int.reduceEq, Int.reduceLT, Int.reduceLE, Int.reduceNe, decide_true, decide_false, decide_not, eq_self, Classical.not_not, List.getElem?_cons_zero, List.getElem?_cons_succ, beq_self_eq_true, bne_self_eq_false]
  · by_cases hg : xs.all (val4 10000) = true
    · rw [if_pos hg, scoreL_in ⟨by omega, hg, by omega, by omega⟩]
    · rw [if_neg hg, scoreL_out (fun h => hg h.2.1)]
theorem valid47_F (xs : List Int) (hl : xs.length ≤ 9223372036854775807) : k_simulatorref47_valid.F [.l (xs.map .i)] = some [.b (decide (xs.length ≤ 1000) && xs.all (val4 10000))] := by
  simp only [k_simulatorref47_valid_F, tk_simulatorref47_valid, List.length_map, Go.Proofs.Ytmnnikceohepcaa.T.den, Ex.ev, U1.ev, U2.ev, U3.ev, gam, List.map, List.getD_cons_zero, List.getD_cons_succ, List.length, List.cons_append, List.nil_append, if_true, Sc.int_i, Sc.bool_b, Sc.list_l, Sc.str_s, Nat.reduceEqDiff, if_false, List.getElem?_cons_zero, List.getElem?_cons_succ]
  by_cases h1 : 1000 < xs.length
  · have h1' : (1000 : Int) < xs.length := by omega
    rw [decide_eq_false (by omega : ¬ xs.length ≤ 1000)]
    simp only [h1', Int.natCast_nonneg, bne_iff_ne, beq_iff_eq, ne_eq, decide_eq_true_eq, Bool.and_eq_true, Bool.or_eq_true, Bool.not_eq_true', decide_eq_false_iff_not, beq_eq_false_iff_ne, bne_eq_false_iff_eq, not_true_eq_false, not_false_eq_true, if_true, if_false, reduceIte, and_true, true_and, and_false, false_and, or_false, false_or, or_true, true_or, List.getD_cons_zero, List.getD_cons_succ, List.length_cons, List.length_nil, List.cons_append, List.nil_append, Nat.reduceAdd, Nat.reduceEqDiff, reduceCtorEq, Bool.not_true, Bool.not_false, Bool.true_and, Bool.and_true, Bool.false_and, Bool.and_false, Bool.or_true, Bool.true_or, Bool.or_false, Bool.false_or, Bool.false_eq_true, Bool.true_eq_false, Sc.int_i, Sc.bool_b, Sc.list_l, Sc.str_s, Int.reduceEq, Int.reduceLT, Int.reduceLE, Int.reduceNe, decide_true, decide_false, decide_not, eq_self, Classical.not_not, List.getElem?_cons_zero, List.getElem?_cons_succ, beq_self_eq_true, bne_self_eq_false]
  have h1' : ¬ (1000 : Int) < xs.length := by omega
  rw [decide_eq_true (by omega : xs.length ≤ 1000)]
  simp only [h1', Int.natCast_nonneg, bne_iff_ne, beq_iff_eq, ne_eq, decide_eq_true_eq, Bool.and_eq_true, Bool.or_eq_true, Bool.not_eq_true', decide_eq_false_iff_not, beq_eq_false_iff_ne, bne_eq_false_iff_eq, not_true_eq_false, not_false_eq_true, if_true, if_false, reduceIte, and_true, true_and, and_false, false_and, or_false, false_or, or_true, true_or, List.getD_cons_zero, List.getD_cons_succ, List.length_cons, List.length_nil, List.cons_append, List.nil_append, Nat.reduceAdd, Nat.reduceEqDiff, reduceCtorEq, Bool.not_true, Bool.not_false, Bool.true_and, Bool.and_true, Bool.false_and, Bool.and_false, Bool.or_true, Bool.true_or, Bool.or_false, Bool.false_or, Bool.false_eq_true, Bool.true_eq_false, Sc.int_i, Sc.bool_b, Sc.list_l, Sc.str_s, Int.reduceEq, Int.reduceLT, Int.reduceLE, Int.reduceNe, decide_true, decide_false, decide_not, eq_self, Classical.not_not, List.getElem?_cons_zero, List.getElem?_cons_succ, beq_self_eq_true, bne_self_eq_false]
  refine (find_loop xs (val4 10000) (some [.b false]) (some [.b true]) (by omega) ?_ ?_ ?_).trans ?_
  · intro i rec h hp
    have hi := idx_map Sc.i xs i h
    have hil : (i : Int) < xs.length := by omega
    have hw := succ_w (n := xs.length) h (by omega)
    have hv := val4_true.1 hp
    have c1 : ¬ xs[i] < -10000 := by omega
    have c2 : ¬ 10000 < xs[i] := by omega
    simp only [hi, hil, hw, c1, c2, Int.natCast_nonneg, bne_iff_ne, beq_iff_eq, ne_eq, decide_eq_true_eq, Bool.and_eq_true, Bool.or_eq_true, Bool.not_eq_true', decide_eq_false_iff_not, beq_eq_false_iff_ne, bne_eq_false_iff_eq, not_true_eq_false, not_false_eq_true, if_true, if_false, reduceIte, and_true, true_and, and_false, false_and, or_false, false_or, or_true, true_or, List.getD_cons_zero, List.getD_cons_succ, List.length_cons, List.length_nil, List.cons_append, List.nil_append, Nat.reduceAdd, Nat.reduceEqDiff, reduceCtorEq, Bool.not_true, Bool.not_false, Bool.true_and, Bool.and_true, Bool.false_and, Bool.and_false, Bool.or_true, Bool.true_or, Bool.or_false, Bool.false_or, Bool.false_eq_true, Bool.true_eq_false, Sc.int_i, Sc.bool_b, Sc.list_l, Sc.str_s, Int.reduceEq, Int.reduceLT, Int.reduceLE, Int.reduceNe, decide_true, decide_false, decide_not, eq_self, Classical.not_not, List.getElem?_cons_zero, List.getElem?_cons_succ, beq_self_eq_true, bne_self_eq_false]
  · intro i rec h hp
    have hi := idx_map Sc.i xs i h
    have hil : (i : Int) < xs.length := by omega
    have hv : ¬ (-10000 ≤ xs[i] ∧ xs[i] ≤ 10000) := fun h => by rw [val4_true.2 h] at hp; cases hp
    by_cases c1 : xs[i] < -10000
    · simp only [hi, hil, c1, Int.natCast_nonneg, bne_iff_ne, beq_iff_eq, ne_eq, decide_eq_true_eq, Bool.and_eq_true, Bool.or_eq_true, Bool.not_eq_true', decide_eq_false_iff_not, beq_eq_false_iff_ne, bne_eq_false_iff_eq, not_true_eq_false, not_false_eq_true, if_true, if_false, reduceIte, and_true, true_and, and_false, false_and, or_false, false_or, or_true, true_or, List.getD_cons_zero, List.getD_cons_succ, List.length_cons, List.length_nil, List.cons_append, List.nil_append, Nat.reduceAdd, Nat.reduceEqDiff, reduceCtorEq, Bool.not_true, Bool.not_false, Bool.true_and, Bool.and_true, Bool.false_and, Bool.and_false, Bool.or_true, Bool.true_or, Bool.or_false, Bool.false_or, Bool.false_eq_true, Bool.true_eq_false, Sc.int_i, Sc.bool_b, Sc.list_l, Sc.str_s, Int.reduceEq, Int.reduceLT, Int.reduceLE, Int.reduceNe, decide_true, decide_false, decide_not, eq_self, Classical.not_not, List.getElem?_cons_zero, List.getElem?_cons_succ, beq_self_eq_true, bne_self_eq_false]
    · have c2 : 10000 < xs[i] := by omega
      simp only [hi, hil, c1, c2, Int.natCast_nonneg, bne_iff_ne, beq_iff_eq, ne_eq, decide_eq_true_eq, Bool.and_eq_true, Bool.or_eq_true, Bool.not_eq_true', decide_eq_false_iff_not, beq_eq_false_iff_ne, bne_eq_false_iff_eq, not_true_eq_false, not_false_eq_true, if_true, if_false, reduceIte, and_true, true_and, and_false, false_and, or_false, false_or, or_true, true_or, List.getD_cons_zero, List.getD_cons_succ, List.length_cons, List.length_nil, List.cons_append, List.nil_append, Nat.reduceAdd, Nat.reduceEqDiff, reduceCtorEq, Bool.not_true, Bool.not_false, Bool.true_and, Bool.and_true, Bool.false_and, Bool.and_false, Bool.or_true, Bool.true_or, Bool.or_false, Bool.false_or, Bool.false_eq_true, Bool.true_eq_false, Sc.int_i, Sc.bool_b, Sc.list_l, Sc.str_s, Int.reduceEq, Int.reduceLT, Int.reduceLE, Int.reduceNe, decide_true, decide_false, decide_not, eq_self, Classical.not_not, List.getElem?_cons_zero, List.getElem?_cons_succ, beq_self_eq_true, bne_self_eq_false]
  · intro rec _
    simp only [Int.lt_irrefl, Int.natCast_nonneg, bne_iff_ne, beq_iff_eq, ne_eq, decide_eq_true_eq, Bool.and_eq_true, Bool.or_eq_true, Bool.not_eq_true', decide_eq_false_iff_not, beq_eq_false_iff_ne, bne_eq_false_iff_eq, not_true_eq_false, not_false_eq_true, if_true, if_false, reduceIte, and_true, true_and, and_false, false_and, or_false, false_or, or_true, true_or, List.getD_cons_zero, List.getD_cons_succ, List.length_cons, List.length_nil, List.cons_append, List.nil_append, Nat.reduceAdd, Nat.reduceEqDiff, reduceCtorEq, Bool.not_true, Bool.not_false, Bool.true_and, Bool.and_true, Bool.false_and, Bool.and_false, Bool.or_true, Bool.true_or, Bool.or_false, Bool.false_or, Bool.false_eq_true, Bool.true_eq_false, Sc.int_i, Sc.bool_b, Sc.list_l, Sc.str_s, Int.reduceEq, Int.reduceLT, Int.reduceLE, Int.reduceNe, decide_true, decide_false, decide_not, eq_self, Classical.not_not, List.getElem?_cons_zero, List.getElem?_cons_succ, beq_self_eq_true, bne_self_eq_false]
  · cases xs.all (val4 10000) <;> rfl
theorem rscore_F (xs : List Int) (k : Int) (hl : xs.length ≤ 9223372036854775807) : k_simulatorref47_Score.F [.l (xs.map .i), .i k] = some (scoreL xs k) := by
  simp only [k_simulatorref47_Score_F, tk_simulatorref47_Score, k_simulatorref47_valid_f, k_simulatorref02_Of_f, List.length_map, valid47_F xs hl, Go.Proofs.Ytmnnikceohepcaa.T.den, Ex.ev, U1.ev, U2.ev, U3.ev, gam, List.map, List.getD_cons_zero, List.getD_cons_succ, List.length, List.cons_append, List.nil_append, if_true, Sc.int_i, Sc.bool_b, Sc.list_l, Sc.str_s, Nat.reduceEqDiff, if_false, List.getElem?_cons_zero, List.getElem?_cons_succ]
  by_cases h1 : 1000 < xs.length
  · rw [scoreL_out (fun h => by unfold good4 at h; omega), decide_eq_false (by omega : ¬ xs.length ≤ 1000)]
    simp only [noQ, Int.natCast_nonneg, bne_iff_ne, beq_iff_eq, ne_eq, decide_eq_true_eq, Bool.and_eq_true, Bool.or_eq_true, Bool.not_eq_true', decide_eq_false_iff_not, beq_eq_false_iff_ne, bne_eq_false_iff_eq, not_true_eq_false, not_false_eq_true, if_true, if_false, reduceIte, and_true, true_and, and_false, false_and, or_false, false_or, or_true, true_or, List.getD_cons_zero, List.getD_cons_succ, List.length_cons, List.length_nil, List.cons_append, List.nil_append, Nat.reduceAdd, Nat.reduceEqDiff, reduceCtorEq, Bool.not_true, Bool.not_false, Bool.true_and, Bool.and_true, Bool.false_and, Bool.and_false, Bool.or_true, Bool.true_or, Bool.or_false, Bool.false_or, Bool.false_eq_true, Bool.true_eq_false, Sc.int_i, Sc.bool_b, Sc.list_l, Sc.str_s, Int.reduceEq, Int.reduceLT, Int.reduceLE, Int.reduceNe, decide_true, decide_false, decide_not, eq_self, Classical.not_not, List.getElem?_cons_zero, List.getElem?_cons_succ, beq_self_eq_true, bne_self_eq_false]
  rw [decide_eq_true (by omega : xs.length ≤ 1000)]
  cases hall : xs.all (val4 10000)
  · rw [scoreL_out (fun h => by have := h.2.1; rw [hall] at this; cases this)]
    simp only [noQ, Int.natCast_nonneg, bne_iff_ne, beq_iff_eq, ne_eq, decide_eq_true_eq, Bool.and_eq_true, Bool.or_eq_true, Bool.not_eq_true', decide_eq_false_iff_not, beq_eq_false_iff_ne, bne_eq_false_iff_eq, not_true_eq_false, not_false_eq_true, if_true, if_false, reduceIte, and_true, true_and, and_false, false_and, or_false, false_or, or_true, true_or, List.getD_cons_zero, List.getD_cons_succ, List.length_cons, List.length_nil, List.cons_append, List.nil_append, Nat.reduceAdd, Nat.reduceEqDiff, reduceCtorEq, Bool.not_true, Bool.not_false, Bool.true_and, Bool.and_true, Bool.false_and, Bool.and_false, Bool.or_true, Bool.true_or, Bool.or_false, Bool.false_or, Bool.false_eq_true, Bool.true_eq_false, Sc.int_i, Sc.bool_b, Sc.list_l, Sc.str_s, Int.reduceEq, Int.reduceLT, Int.reduceLE, Int.reduceNe, decide_true, decide_false, decide_not, eq_self, Classical.not_not, List.getElem?_cons_zero, List.getElem?_cons_succ, beq_self_eq_true, bne_self_eq_false]
  by_cases h2 : k < 0
  · rw [scoreL_out (fun h => by unfold good4 at h; omega)]
    simp only [h2, noQ, Int.natCast_nonneg, bne_iff_ne, beq_iff_eq, ne_eq, decide_eq_true_eq, Bool.and_eq_true, Bool.or_eq_true, Bool.not_eq_true', decide_eq_false_iff_not, beq_eq_false_iff_ne, bne_eq_false_iff_eq, not_true_eq_false, not_false_eq_true, if_true, if_false, reduceIte, and_true, true_and, and_false, false_and, or_false, false_or, or_true, true_or, List.getD_cons_zero, List.getD_cons_succ, List.length_cons, List.length_nil, List.cons_append, List.nil_append, Nat.reduceAdd, Nat.reduceEqDiff, reduceCtorEq, Bool.not_true, Bool.not_false, Bool.true_and, Bool.and_true, Bool.false_and, Bool.and_false, Bool.or_true, Bool.true_or, Bool.or_false, Bool.false_or, Bool.false_eq_true, Bool.true_eq_false, Sc.int_i, Sc.bool_b, Sc.list_l, Sc.str_s, Int.reduceEq, Int.reduceLT, Int.reduceLE, Int.reduceNe, decide_true, decide_false, decide_not, eq_self, Classical.not_not, List.getElem?_cons_zero, List.getElem?_cons_succ, beq_self_eq_true, bne_self_eq_false]
  by_cases h3 : (xs.length : Int) ≤ k
  · rw [scoreL_out (fun h => by unfold good4 at h; omega)]
    simp only [h2, h3, noQ, Int.natCast_nonneg, bne_iff_ne, beq_iff_eq, ne_eq, decide_eq_true_eq, Bool.and_eq_true, Bool.or_eq_true, Bool.not_eq_true', decide_eq_false_iff_not, beq_eq_false_iff_ne, bne_eq_false_iff_eq, not_true_eq_false, not_false_eq_true, if_true, if_false, reduceIte, and_true, true_and, and_false, false_and, or_false, false_or, or_true, true_or, List.getD_cons_zero, List.getD_cons_succ, List.length_cons, List.length_nil, List.cons_append, List.nil_append, Nat.reduceAdd, Nat.reduceEqDiff, reduceCtorEq, Bool.not_true, Bool.not_false, Bool.true_and, Bool.and_true, Bool.false_and, Bool.and_false, Bool.or_true, Bool.true_or, Bool.or_false, Bool.false_or, Bool.false_eq_true, Bool.true_eq_false, Sc.int_i, Sc.bool_b, Sc.list_l, Sc.str_s, Int.reduceEq, Int.reduceLT, Int.reduceLE, Int.reduceNe, decide_true, decide_false, decide_not, eq_self, Classical.not_not, List.getElem?_cons_zero, List.getElem?_cons_succ, beq_self_eq_true, bne_self_eq_false]
  rw [scoreL_in ⟨by omega, hall, by omega, by omega⟩]
  simp only [h2, h3, Int.natCast_nonneg, bne_iff_ne, beq_iff_eq, ne_eq, decide_eq_true_eq, Bool.and_eq_true, Bool.or_eq_true, Bool.not_eq_true', decide_eq_false_iff_not, beq_eq_false_iff_ne, bne_eq_false_iff_eq, not_true_eq_false, not_false_eq_true, if_true, if_false, reduceIte, and_true, true_and, and_false, false_and, or_false, false_or, or_true, true_or, List.getD_cons_zero, List.getD_cons_succ, List.length_cons, List.length_nil, List.cons_append, List.nil_append, Nat.reduceAdd, Nat.reduceEqDiff, reduceCtorEq, Bool.not_true, Bool.not_false, Bool.true_and, Bool.and_true, Bool.false_and, Bool.and_false, Bool.or_true, Bool.true_or, Bool.or_false, Bool.false_or, Bool.false_eq_true, Bool.true_eq_false, Sc.int_i, Sc.bool_b, Sc.list_l, Sc.str_s, Int.reduceEq, Int.reduceLT, Int.reduceLE, Int.reduceNe, decide_true, decide_false, decide_not, eq_self, Classical.not_not, List.getElem?_cons_zero, List.getElem?_cons_succ, beq_self_eq_true, bne_self_eq_false]
  obtain ⟨K, rfl⟩ : ∃ K : Nat, k = K := ⟨k.toNat, by omega⟩
  have hK : K < xs.length := by omega
  obtain ⟨w1, w2, w3, v1, v2, q1, q2⟩ := score_ends hall (by omega) hK
  have hf := score_fit hall (by omega) hK
  unfold scQ at hf
  have of := rOf_F (varN (xs.drop K)) (mq (xs.drop K)) ⟨by omega, by omega⟩ ⟨by omega, by omega⟩
  rw [ofQ, if_neg (by omega), outQ_yes hf] at of
  refine sum_loop (xs.drop K) K _ (by rw [List.length_drop]; omega) ?_ ?_
  · intro j rec2 hj
    rw [List.length_drop] at hj
    have hjl : ((K + j : Nat) : Int) < (xs.length : Int) := by omega
    have hi := idx_map Sc.i xs (K + j) (by omega)
    have hd : (xs.drop K)[j]'(by rw [List.length_drop]; exact hj) = xs[K + j] := by rw [List.getElem_drop]
    rw [hd]
    have hm := all_mem hall xs[K + j] (List.getElem_mem ..)
    obtain ⟨b1, b2, b3, b4⟩ := sums_in hall (by omega) K j
    have sqb := sq_pos xs[K + j]
    have sqc : xs[K + j] * xs[K + j] ≤ 10000 * 10000 := by
      have h : (xs[K + j] * xs[K + j]).natAbs ≤ 10000 * 10000 := by rw [Int.natAbs_mul]; exact Nat.mul_le_mul (by omega) (by omega)
      omega
    have x1 : IntKind.i64.wrap (sumI ((xs.drop K).take j) + xs[K + j]) = sumI ((xs.drop K).take j) + xs[K + j] := wrI (by omega) (by omega)
    have x2 : IntKind.i64.wrap (xs[K + j] * xs[K + j]) = xs[K + j] * xs[K + j] := wrI (by omega) (by omega)
    have x3 : IntKind.i64.wrap (sumQ ((xs.drop K).take j) + xs[K + j] * xs[K + j]) = sumQ ((xs.drop K).take j) + xs[K + j] * xs[K + j] := wrI (by omega) (by omega)
    have x4 : IntKind.i64.wrap (((K + j : Nat) : Int) + 1) = ((K + j + 1 : Nat) : Int) := by rw [wrI (by omega) (by omega)]; omega
    simp only [hjl, hi, x1, x2, x3, x4, Int.natCast_nonneg, bne_iff_ne, beq_iff_eq, ne_eq, decide_eq_true_eq, Bool.and_eq_true, Bool.or_eq_true, Bool.not_eq_true', decide_eq_false_iff_not, beq_eq_false_iff_ne, bne_eq_false_iff_eq, not_true_eq_false, not_false_eq_true, if_true, if_false, reduceIte, and_true, true_and, and_false, false_and, or_false, false_or, or_true, true_or, List.getD_cons_zero, List.getD_cons_succ, List.length_cons, List.length_nil, List.cons_append, List.nil_append, Nat.reduceAdd, Nat.reduceEqDiff, reduceCtorEq, Bool.not_true, Bool.not_false, Bool.true_and, Bool.and_true, Bool.false_and, Bool.and_false, Bool.or_true, Bool.true_or, Bool.or_false, Bool.false_or, Bool.false_eq_true, Bool.true_eq_false, Sc.int_i, Sc.bool_b, Sc.list_l, Sc.str_s, Int.reduceEq, Int.reduceLT, Int.reduceLE, Int.reduceNe, decide_true, decide_false, decide_not, eq_self, Classical.not_not, List.getElem?_cons_zero, List.getElem?_cons_succ, beq_self_eq_true, bne_self_eq_false]
  · intro rec2
    have hnl : ¬ ((K + (xs.drop K).length : Nat) : Int) < (xs.length : Int) := by rw [List.length_drop]; omega
    unfold scQ
    simp only [hnl, w1, w2, w3, of, Int.toNat_natCast, Int.natCast_nonneg, bne_iff_ne, beq_iff_eq, ne_eq, decide_eq_true_eq, Bool.and_eq_true, Bool.or_eq_true, Bool.not_eq_true', decide_eq_false_iff_not, beq_eq_false_iff_ne, bne_eq_false_iff_eq, not_true_eq_false, not_false_eq_true, if_true, if_false, reduceIte, and_true, true_and, and_false, false_and, or_false, false_or, or_true, true_or, List.getD_cons_zero, List.getD_cons_succ, List.length_cons, List.length_nil, List.cons_append, List.nil_append, Nat.reduceAdd, Nat.reduceEqDiff, reduceCtorEq, Bool.not_true, Bool.not_false, Bool.true_and, Bool.and_true, Bool.false_and, Bool.and_false, Bool.or_true, Bool.true_or, Bool.or_false, Bool.false_or, Bool.false_eq_true, Bool.true_eq_false, Sc.int_i, Sc.bool_b, Sc.list_l, Sc.str_s, Int.reduceEq, Int.reduceLT, Int.reduceLE, Int.reduceNe, decide_true, decide_false, decide_not, eq_self, Classical.not_not, List.getElem?_cons_zero, List.getElem?_cons_succ, beq_self_eq_true, bne_self_eq_false]
end Go.Proofs.Ytmnnikceohepcaa
