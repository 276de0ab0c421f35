/-
  The time that a resource works.
-/
import Derived.Test.YtpmplppkjedpiaaK25
import Derived.Test.YtpmplppkjedpiaaLp
namespace Go.Proofs.Ytpmplppkjedpiaa
set_option linter.unusedSimpArgs false

theorem wrJ {z : Int} (h1 : -9223372036854775808 ≤ z) (h2 : z < 9223372036854775808) : IntKind.i64.wrap z = z := by rw [IntKind.wrap_i64]; omega
def shr (a b lo hi : Int) : Int := max 0 (min b hi - max a lo)
def upS (lo hi : Int) : List Int → Int → Bool → Int
  | [], b, w => if w = true then shr b hi lo hi else 0
  | t :: ts, b, w => (if w = true then shr b t lo hi else 0) + upS lo hi ts t (!w)
/-- At least the bound, and growing. -/
def grows : Int → List Int → Bool
  | _, [] => true
  | b, t :: ts => decide (b ≤ t) && grows (t + 1) ts
def upV (xs : List Int) (lo hi : Int) : Int := if lo < 0 then 0 else if hi < lo then 0 else if 1000000000 < hi then 0 else if grows 0 xs = true then upS lo hi xs 0 true else 0
theorem shr_in {a b lo hi : Int} (h1 : 0 ≤ lo) (h3 : hi ≤ 1000000000) : 0 ≤ shr a b lo hi ∧ shr a b lo hi ≤ 1000000000 := by unfold shr; omega
theorem shr_code {a b lo hi : Int} (ha : a < 9223372036854775808) (hb : 0 ≤ b) (h1 : 0 ≤ lo) (h2 : lo ≤ hi) (h3 : hi ≤ 1000000000) :
    (if IntKind.i64.wrap ((if hi < b then hi else b) - if lo > a then lo else a) > 0 then IntKind.i64.wrap ((if hi < b then hi else b) - if lo > a then lo else a) else 0) = shr a b lo hi := by
  have e1 : (if hi < b then hi else b) = min b hi := by split <;> omega
  have e2 : (if lo > a then lo else a) = max a lo := by split <;> omega
  have w : IntKind.i64.wrap (min b hi - max a lo) = min b hi - max a lo := wrJ (by omega) (by omega)
  rw [e1, e2, w]; unfold shr
  split <;> omega
theorem shared_F {a b lo hi : Int} (ha : a < 9223372036854775808) (hb : 0 ≤ b) (h1 : 0 ≤ lo) (h2 : lo ≤ hi) (h3 : hi ≤ 1000000000) : k_fault_shared.F [.i a, .i b, .i lo, .i hi] = some [.i (shr a b lo hi)] := by
  simp only [k_fault_shared_F, tk_fault_shared, Go.Proofs.Ytpmplppkjedpiaa.T.den, Ex.ev, U1.ev, U2.ev, U3.ev, gam, List.map, List.getD_cons_zero, List.getD_cons_succ, List.length, List.cons_append, List.nil_append, if_true, Sc.int_i, Sc.bool_b, Sc.list_l, Sc.str_s, Nat.reduceEqDiff, if_false, List.getElem?_cons_zero, List.getElem?_cons_succ]
  rw [shr_code ha hb h1 h2 h3]
def lb (i : Nat) (b : Int) : Int := if i = 0 then 0 else b + 1
theorem uptime_F (xs : List Int) (lo hi : Int) (hl : xs.length ≤ 1000) (hx : ∀ x ∈ xs, -9223372036854775808 ≤ x ∧ x < 9223372036854775808) : k_fault_Uptime.F [.l (xs.map .i), .i lo, .i hi] = some [.i (upV xs lo hi)] := by
  simp only [k_fault_Uptime_F, tk_fault_Uptime, k_fault_shared_f, List.length_map, Go.Proofs.Ytpmplppkjedpiaa.T.den, Ex.ev, U1.ev, U2.ev, U3.ev, gam, List.map, List.getD_cons_zero, List.getD_cons_succ, List.length, List.cons_append, List.nil_append, if_true, Sc.int_i, Sc.bool_b, Sc.list_l, Sc.str_s, Nat.reduceEqDiff, if_false, List.getElem?_cons_zero, List.getElem?_cons_succ]
  unfold upV
  by_cases h1 : lo < 0
  · simp only [h1, Int.natCast_nonneg, bne_iff_ne, beq_iff_eq, ne_eq, decide_eq_true_eq, Bool.and_eq_true, Bool.or_eq_true, Bool.not_eq_true', decide_eq_false_iff_not, beq_eq_false_iff_ne, bne_eq_false_iff_eq, not_true_eq_false, not_false_eq_true, if_true, if_false, reduceIte, and_true, true_and, and_false, false_and, or_false, false_or, or_true, true_or, List.getD_cons_zero, List.getD_cons_succ, List.length_cons, List.length_nil, List.cons_append, List.nil_append, Nat.reduceAdd, Nat.reduceEqDiff, reduceCtorEq, Bool.not_true, Bool.not_false, Bool.true_and, Bool.and_true, Bool.false_and, Bool.and_false, Bool.or_true, Bool.true_or, Bool.or_false, Bool.false_or, Bool.false_eq_true, Bool.true_eq_false, Sc.int_i, Sc.bool_b, Sc.list_l, Sc.str_s, Int.reduceEq, Int.reduceLT, Int.reduceLE, Int.reduceNe, decide_true, decide_false, decide_not, eq_self, Classical.not_not, List.getElem?_cons_zero, List.getElem?_cons_succ, beq_self_eq_true, bne_self_eq_false]
  by_cases h2 : hi < lo
  · simp only [h1, h2, Int.natCast_nonneg, bne_iff_ne, beq_iff_eq, ne_eq, decide_eq_true_eq, Bool.and_eq_true, Bool.or_eq_true, Bool.not_eq_true', decide_eq_false_iff_not, beq_eq_false_iff_ne, bne_eq_false_iff_eq, not_true_eq_false, not_false_eq_true, if_true, if_false, reduceIte, and_true, true_and, and_false, false_and, or_false, false_or, or_true, true_or, List.getD_cons_zero, List.getD_cons_succ, List.length_cons, List.length_nil, List.cons_append, List.nil_append, Nat.reduceAdd, Nat.reduceEqDiff, reduceCtorEq, Bool.not_true, Bool.not_false, Bool.true_and, Bool.and_true, Bool.false_and, Bool.and_false, Bool.or_true, Bool.true_or, Bool.or_false, Bool.false_or, Bool.false_eq_true, Bool.true_eq_false, Sc.int_i, Sc.bool_b, Sc.list_l, Sc.str_s, Int.reduceEq, Int.reduceLT, Int.reduceLE, Int.reduceNe, decide_true, decide_false, decide_not, eq_self, Classical.not_not, List.getElem?_cons_zero, List.getElem?_cons_succ, beq_self_eq_true, bne_self_eq_false]
  by_cases h3 : 1000000000 < hi
  · simp only [h1, h2, h3, Int.natCast_nonneg, bne_iff_ne, beq_iff_eq, ne_eq, decide_eq_true_eq, Bool.and_eq_true, Bool.or_eq_true, Bool.not_eq_true', decide_eq_false_iff_not, beq_eq_false_iff_ne, bne_eq_false_iff_eq, not_true_eq_false, not_false_eq_true, if_true, if_false, reduceIte, and_true, true_and, and_false, false_and, or_false, false_or, or_true, true_or, List.getD_cons_zero, List.getD_cons_succ, List.length_cons, List.length_nil, List.cons_append, List.nil_append, Nat.reduceAdd, Nat.reduceEqDiff, reduceCtorEq, Bool.not_true, Bool.not_false, Bool.true_and, Bool.and_true, Bool.false_and, Bool.and_false, Bool.or_true, Bool.true_or, Bool.or_false, Bool.false_or, Bool.false_eq_true, Bool.true_eq_false, Sc.int_i, Sc.bool_b, Sc.list_l, Sc.str_s, Int.reduceEq, Int.reduceLT, Int.reduceLE, Int.reduceNe, decide_true, decide_false, decide_not, eq_self, Classical.not_not, List.getElem?_cons_zero, List.getElem?_cons_succ, beq_self_eq_true, bne_self_eq_false]
  simp only [h1, h2, h3, Int.natCast_nonneg, bne_iff_ne, beq_iff_eq, ne_eq, decide_eq_true_eq, Bool.and_eq_true, Bool.or_eq_true, Bool.not_eq_true', decide_eq_false_iff_not, beq_eq_false_iff_ne, bne_eq_false_iff_eq, not_true_eq_false, not_false_eq_true, if_true, if_false, reduceIte, and_true, true_and, and_false, false_and, or_false, false_or, or_true, true_or, List.getD_cons_zero, List.getD_cons_succ, List.length_cons, List.length_nil, List.cons_append, List.nil_append, Nat.reduceAdd, Nat.reduceEqDiff, reduceCtorEq, Bool.not_true, Bool.not_false, Bool.true_and, Bool.and_true, Bool.false_and, Bool.and_false, Bool.or_true, Bool.true_or, Bool.or_false, Bool.false_or, Bool.false_eq_true, Bool.true_eq_false, Sc.int_i, Sc.bool_b, Sc.list_l, Sc.str_s, Int.reduceEq, Int.reduceLT, Int.reduceLE, Int.reduceNe, decide_true, decide_false, decide_not, eq_self, Classical.not_not, List.getElem?_cons_zero, List.getElem?_cons_succ, beq_self_eq_true, bne_self_eq_false]
  have conv : ([.i 0, .i 0, .b true, .i 0] : List Sc) = [.i 0, .i 0, .b true, .i ((0 : Nat) : Int)] := rfl
  rw [conv]
  refine (loop_rounds (S := Nat × Int × Int × Bool) (fun s => [.i s.2.1, .i s.2.2.1, .b s.2.2.2, .i (s.1 : Int)])
    (fun s => some [.i (if grows (lb s.1 s.2.2.1) (xs.drop s.1) = true then s.2.1 + upS lo hi (xs.drop s.1) s.2.2.1 s.2.2.2 else 0)])
    (fun s => s.1 ≤ xs.length ∧ 0 ≤ s.2.1 ∧ s.2.1 ≤ s.1 * 1000000000 ∧ 0 ≤ s.2.2.1 ∧ s.2.2.1 < 9223372036854775808 ∧ (0 < s.1 → xs[s.1 - 1]? = some s.2.2.1)) (fun s => xs.length - s.1) ?_ (0, 0, 0, true) ⟨by simp only; omega, by simp only; omega, by simp only; omega, by simp only; omega, by simp only; omega, by simp only; omega⟩ (by simp only; omega)).trans ?_
  · rintro ⟨i, sum, b, wk⟩ rec ⟨i1, i2, i3, i4, i5, i6⟩ hrec
    simp only at i1 i2 i3 i4 i5 i6 ⊢
    by_cases hlt : i < xs.length
    · have k1 : (i : Int) < xs.length := by omega
      have hix := idx_map Sc.i xs i hlt
      have hw := succ_w (n := xs.length) hlt (by omega)
      have hxi := hx _ (List.getElem_mem hlt)
      have ed : xs.drop i = xs[i] :: xs.drop (i + 1) := List.drop_eq_getElem_cons hlt
      rw [ed]
      have hq : xs[i]? = some xs[i] := List.getElem?_eq_getElem hlt
      generalize xs[i] = x at *
      have e1 : lb (i + 1) x = x + 1 := by unfold lb; rw [if_neg (by omega)]
      have l0 : 0 ≤ lb i b := by unfold lb; split <;> omega
      by_cases c1 : x < 0
      · have hg : grows (lb i b) (x :: xs.drop (i + 1)) = false := by simp only [grows]; rw [decide_eq_false (by omega)]; rfl
        rw [hg]
        simp only [k1, hix, c1, Int.natCast_nonneg, bne_iff_ne, beq_iff_eq, ne_eq, decide_eq_true_eq, Bool.and_eq_true, Bool.or_eq_true, Bool.not_eq_true', decide_eq_false_iff_not, beq_eq_false_iff_ne, bne_eq_false_iff_eq, not_true_eq_false, not_false_eq_true, if_true, if_false, reduceIte, and_true, true_and, and_false, false_and, or_false, false_or, or_true, true_or, List.getD_cons_zero, List.getD_cons_succ, List.length_cons, List.length_nil, List.cons_append, List.nil_append, Nat.reduceAdd, Nat.reduceEqDiff, reduceCtorEq, Bool.not_true, Bool.not_false, Bool.true_and, Bool.and_true, Bool.false_and, Bool.and_false, Bool.or_true, Bool.true_or, Bool.or_false, Bool.false_or, Bool.false_eq_true, Bool.true_eq_false, Sc.int_i, Sc.bool_b, Sc.list_l, Sc.str_s, Int.reduceEq, Int.reduceLT, Int.reduceLE, Int.reduceNe, decide_true, decide_false, decide_not, eq_self, Classical.not_not, List.getElem?_cons_zero, List.getElem?_cons_succ, beq_self_eq_true, bne_self_eq_false]
      have sh := shared_F (a := b) (b := x) (lo := lo) (hi := hi) i5 (by omega) (by omega) (by omega) (by omega)
      have sb := shr_in (a := b) (b := x) (lo := lo) (hi := hi) (by omega) (by omega)
      have w1 : IntKind.i64.wrap (sum + shr b x lo hi) = sum + shr b x lo hi := wrJ (by omega) (by omega)
      have hr := hrec (i + 1, sum + shr b x lo hi, x, false) ⟨by simp only; omega, by simp only; omega, by simp only; omega, by simp only; omega, by simp only; omega, fun _ => hq⟩ (by simp only; omega)
      have hr2 := hrec (i + 1, sum, x, true) ⟨by simp only; omega, by simp only; omega, by simp only; omega, by simp only; omega, by simp only; omega, fun _ => hq⟩ (by simp only; omega)
      simp only [e1] at hr hr2
      have fin : lb i b ≤ x → (grows (lb i b) (x :: xs.drop (i + 1)) = grows (x + 1) (xs.drop (i + 1))) := fun h => by simp only [grows]; rw [decide_eq_true h, Bool.true_and]
      by_cases c2 : (0 : Int) < i
      · have w0 : IntKind.i64.wrap ((i : Int) - 1) = ((i - 1 : Nat) : Int) := by rw [wrJ (by omega) (by omega)]; omega
        have k2 : ((i - 1 : Nat) : Int) < xs.length := by omega
        have hp : (xs.map Sc.i).getD (((i - 1 : Nat) : Int)).toNat (.i 0) = .i b := by
          rw [Int.toNat_natCast, List.getD_eq_getElem?_getD, List.getElem?_map, i6 (by omega)]; rfl
        have elb : lb i b = b + 1 := by unfold lb; rw [if_neg (by omega)]
        by_cases c3 : x ≤ b
        · have hg : grows (lb i b) (x :: xs.drop (i + 1)) = false := by simp only [grows]; rw [decide_eq_false (by omega)]; rfl
          rw [hg]
          simp only [k1, hix, c1, c2, w0, k2, hp, c3, Int.natCast_nonneg, bne_iff_ne, beq_iff_eq, ne_eq, decide_eq_true_eq, Bool.and_eq_true, Bool.or_eq_true, Bool.not_eq_true', decide_eq_false_iff_not, beq_eq_false_iff_ne, bne_eq_false_iff_eq, not_true_eq_false, not_false_eq_true, if_true, if_false, reduceIte, and_true, true_and, and_false, false_and, or_false, false_or, or_true, true_or, List.getD_cons_zero, List.getD_cons_succ, List.length_cons, List.length_nil, List.cons_append, List.nil_append, Nat.reduceAdd, Nat.reduceEqDiff, reduceCtorEq, Bool.not_true, Bool.not_false, Bool.true_and, Bool.and_true, Bool.false_and, Bool.and_false, Bool.or_true, Bool.true_or, Bool.or_false, Bool.false_or, Bool.false_eq_true, Bool.true_eq_false, Sc.int_i, Sc.bool_b, Sc.list_l, Sc.str_s, Int.reduceEq, Int.reduceLT, Int.reduceLE, Int.reduceNe, decide_true, decide_false, decide_not, eq_self, Classical.not_not, List.getElem?_cons_zero, List.getElem?_cons_succ, beq_self_eq_true, bne_self_eq_false]
        · rw [fin (by omega)]
          cases wk
          · simp only [k1, hix, c1, c2, w0, k2, hp, c3, hw, hr2, upS, Int.zero_add, Int.add_assoc, Int.natCast_nonneg, bne_iff_ne, beq_iff_eq, ne_eq, decide_eq_true_eq, Bool.and_eq_true, Bool.or_eq_true, Bool.not_eq_true', decide_eq_false_iff_not, beq_eq_false_iff_ne, bne_eq_false_iff_eq, not_true_eq_false, not_false_eq_true, if_true, if_false, reduceIte, and_true, true_and, and_false, false_and, or_false, false_or, or_true, true_or, List.getD_cons_zero, List.getD_cons_succ, List.length_cons, List.length_nil, List.cons_append, List.nil_append, Nat.reduceAdd, Nat.reduceEqDiff, reduceCtorEq, Bool.not_true, Bool.not_false, Bool.true_and, Bool.and_true, Bool.false_and, Bool.and_false, Bool.or_true, Bool.true_or, Bool.or_false, Bool.false_or, Bool.false_eq_true, Bool.true_eq_false, Sc.int_i, Sc.bool_b, Sc.list_l, Sc.str_s, Int.reduceEq, Int.reduceLT, Int.reduceLE, Int.reduceNe, decide_true, decide_false, decide_not, eq_self, Classical.not_not, List.getElem?_cons_zero, List.getElem?_cons_succ, beq_self_eq_true, bne_self_eq_false]
          · simp only [k1, hix, c1, c2, w0, k2, hp, c3, hw, sh, w1, hr, upS, Int.zero_add, Int.add_assoc, Int.natCast_nonneg, bne_iff_ne, beq_iff_eq, ne_eq, decide_eq_true_eq, Bool.and_eq_true, Bool.or_eq_true, Bool.not_eq_true', decide_eq_false_iff_not, beq_eq_false_iff_ne, bne_eq_false_iff_eq, not_true_eq_false, not_false_eq_true, if_true, if_false, reduceIte, and_true, true_and, and_false, false_and, or_false, false_or, or_true, true_or, List.getD_cons_zero, List.getD_cons_succ, List.length_cons, List.length_nil, List.cons_append, List.nil_append, Nat.reduceAdd, Nat.reduceEqDiff, reduceCtorEq, Bool.not_true, Bool.not_false, Bool.true_and, Bool.and_true, Bool.false_and, Bool.and_false, Bool.or_true, Bool.true_or, Bool.or_false, Bool.false_or, Bool.false_eq_true, Bool.true_eq_false, Sc.int_i, Sc.bool_b, Sc.list_l, Sc.str_s, Int.reduceEq, Int.reduceLT, Int.reduceLE, Int.reduceNe, decide_true, decide_false, decide_not, eq_self, Classical.not_not, List.getElem?_cons_zero, List.getElem?_cons_succ, beq_self_eq_true, bne_self_eq_false]
      · have elb : lb i b = 0 := by unfold lb; rw [if_pos (by omega)]
        rw [fin (by omega)]
        cases wk
        · simp only [k1, hix, c1, c2, hw, hr2, upS, Int.zero_add, Int.add_assoc, Int.natCast_nonneg, bne_iff_ne, beq_iff_eq, ne_eq, decide_eq_true_eq, Bool.and_eq_true, Bool.or_eq_true, Bool.not_eq_true', decide_eq_false_iff_not, beq_eq_false_iff_ne, bne_eq_false_iff_eq, not_true_eq_false, not_false_eq_true, if_true, if_false, reduceIte, and_true, true_and, and_false, false_and, or_false, false_or, or_true, true_or, List.getD_cons_zero, List.getD_cons_succ, List.length_cons, List.length_nil, List.cons_append, List.nil_append, Nat.reduceAdd, Nat.reduceEqDiff, reduceCtorEq, Bool.not_true, Bool.not_false, Bool.true_and, Bool.and_true, Bool.false_and, Bool.and_false, Bool.or_true, Bool.true_or, Bool.or_false, Bool.false_or, Bool.false_eq_true, Bool.true_eq_false, Sc.int_i, Sc.bool_b, Sc.list_l, Sc.str_s, Int.reduceEq, Int.reduceLT, Int.reduceLE, Int.reduceNe, decide_true, decide_false, decide_not, eq_self, Classical.not_not, List.getElem?_cons_zero, List.getElem?_cons_succ, beq_self_eq_true, bne_self_eq_false]
        · simp only [k1, hix, c1, c2, hw, sh, w1, hr, upS, Int.zero_add, Int.add_assoc, Int.natCast_nonneg, bne_iff_ne, beq_iff_eq, ne_eq, decide_eq_true_eq, Bool.and_eq_true, Bool.or_eq_true, Bool.not_eq_true', decide_eq_false_iff_not, beq_eq_false_iff_ne, bne_eq_false_iff_eq, not_true_eq_false, not_false_eq_true, if_true, if_false, reduceIte, and_true, true_and, and_false, false_and, or_false, false_or, or_true, true_or, List.getD_cons_zero, List.getD_cons_succ, List.length_cons, List.length_nil, List.cons_append, List.nil_append, Nat.reduceAdd, Nat.reduceEqDiff, reduceCtorEq, Bool.not_true, Bool.not_false, Bool.true_and, Bool.and_true, Bool.false_and, Bool.and_false, Bool.or_true, Bool.true_or, Bool.or_false, Bool.false_or, Bool.false_eq_true, Bool.true_eq_false, Sc.int_i, Sc.bool_b, Sc.list_l, Sc.str_s, Int.reduceEq, Int.reduceLT, Int.reduceLE, Int.reduceNe, decide_true, decide_false, decide_not, eq_self, Classical.not_not, List.getElem?_cons_zero, List.getElem?_cons_succ, beq_self_eq_true, bne_self_eq_false]
    · have k1 : ¬ (i : Int) < xs.length := by omega
      have ed : xs.drop i = [] := List.drop_eq_nil_of_le (by omega)
      rw [ed]
      have sh := shared_F (a := b) (b := hi) (lo := lo) (hi := hi) i5 (by omega) (by omega) (by omega) (by omega)
      have sb := shr_in (a := b) (b := hi) (lo := lo) (hi := hi) (by omega) (by omega)
      have w1 : IntKind.i64.wrap (sum + shr b hi lo hi) = sum + shr b hi lo hi := wrJ (by omega) (by omega)
      cases wk
      · simp only [k1, grows, upS, Int.add_zero, Int.natCast_nonneg, bne_iff_ne, beq_iff_eq, ne_eq, decide_eq_true_eq, Bool.and_eq_true, Bool.or_eq_true, Bool.not_eq_true', decide_eq_false_iff_not, beq_eq_false_iff_ne, bne_eq_false_iff_eq, not_true_eq_false, not_false_eq_true, if_true, if_false, reduceIte, and_true, true_and, and_false, false_and, or_false, false_or, or_true, true_or, List.getD_cons_zero, List.getD_cons_succ, List.length_cons, List.length_nil, List.cons_append, List.nil_append, Nat.reduceAdd, Nat.reduceEqDiff, reduceCtorEq, Bool.not_true, Bool.not_false, Bool.true_and, Bool.and_true, Bool.false_and, Bool.and_false, Bool.or_true, Bool.true_or, Bool.or_false, Bool.false_or, Bool.false_eq_true, Bool.true_eq_false, Sc.int_i, Sc.bool_b, Sc.list_l, Sc.str_s, Int.reduceEq, Int.reduceLT, Int.reduceLE, Int.reduceNe, decide_true, decide_false, decide_not, eq_self, Classical.not_not, List.getElem?_cons_zero, List.getElem?_cons_succ, beq_self_eq_true, bne_self_eq_false]
      · simp only [k1, sh, w1, grows, upS, Int.natCast_nonneg, bne_iff_ne, beq_iff_eq, ne_eq, decide_eq_true_eq, Bool.and_eq_true, Bool.or_eq_true, Bool.not_eq_true', decide_eq_false_iff_not, beq_eq_false_iff_ne, bne_eq_false_iff_eq, not_true_eq_false, not_false_eq_true, if_true, if_false, reduceIte, and_true, true_and, and_false, false_and, or_false, false_or, or_true, true_or, List.getD_cons_zero, List.getD_cons_succ, List.length_cons, List.length_nil, List.cons_append, List.nil_append, Nat.reduceAdd, Nat.reduceEqDiff, reduceCtorEq, Bool.not_true, Bool.not_false, Bool.true_and, Bool.and_true, Bool.false_and, Bool.and_false, Bool.or_true, Bool.true_or, Bool.or_false, Bool.false_or, Bool.false_eq_true, Bool.true_eq_false, Sc.int_i, Sc.bool_b, Sc.list_l, Sc.str_s, Int.reduceEq, Int.reduceLT, Int.reduceLE, Int.reduceNe, decide_true, decide_false, decide_not, eq_self, Classical.not_not, List.getElem?_cons_zero, List.getElem?_cons_succ, beq_self_eq_true, bne_self_eq_false]
  · simp only [lb, List.drop_zero, if_true, Int.zero_add]
theorem grows_mono {b c : Int} (h : c ≤ b) : ∀ {xs : List Int}, grows b xs = true → grows c xs = true
  | [], _ => rfl
  | t :: ts, g => by
    simp only [grows, Bool.and_eq_true, decide_eq_true_eq] at g ⊢
    exact ⟨by omega, g.2⟩
theorem ruptime_F (xs : List Int) (lo hi : Int) (hl : xs.length ≤ 1000) (hx : ∀ x ∈ xs, -9223372036854775808 ≤ x ∧ x < 9223372036854775808) : k_simulatorref25_Uptime.F [.l (xs.map .i), .i lo, .i hi] = some [.i (upV xs lo hi)] := by
  simp only [k_simulatorref25_Uptime_F, tk_simulatorref25_Uptime, List.length_map, Go.Proofs.Ytpmplppkjedpiaa.T.den, Ex.ev, U1.ev, U2.ev, U3.ev, gam, List.map, List.getD_cons_zero, List.getD_cons_succ, List.length, List.cons_append, List.nil_append, if_true, Sc.int_i, Sc.bool_b, Sc.list_l, Sc.str_s, Nat.reduceEqDiff, if_false, List.getElem?_cons_zero, List.getElem?_cons_succ]
  unfold upV
  by_cases h1 : lo < 0
  · simp only [h1, Int.natCast_nonneg, bne_iff_ne, beq_iff_eq, ne_eq, decide_eq_true_eq, Bool.and_eq_true, Bool.or_eq_true, Bool.not_eq_true', decide_eq_false_iff_not, beq_eq_false_iff_ne, bne_eq_false_iff_eq, not_true_eq_false, not_false_eq_true, if_true, if_false, reduceIte, and_true, true_and, and_false, false_and, or_false, false_or, or_true, true_or, List.getD_cons_zero, List.getD_cons_succ, List.length_cons, List.length_nil, List.cons_append, List.nil_append, Nat.reduceAdd, Nat.reduceEqDiff, reduceCtorEq, Bool.not_true, Bool.not_false, Bool.true_and, Bool.and_true, Bool.false_and, Bool.and_false, Bool.or_true, Bool.true_or, Bool.or_false, Bool.false_or, Bool.false_eq_true, Bool.true_eq_false, Sc.int_i, Sc.bool_b, Sc.list_l, Sc.str_s, Int.reduceEq, Int.reduceLT, Int.reduceLE, Int.reduceNe, decide_true, decide_false, decide_not, eq_self, Classical.not_not, List.getElem?_cons_zero, List.getElem?_cons_succ, beq_self_eq_true, bne_self_eq_false]
  by_cases h2 : hi < lo
  · simp only [h1, h2, Int.natCast_nonneg, bne_iff_ne, beq_iff_eq, ne_eq, decide_eq_true_eq, Bool.and_eq_true, Bool.or_eq_true, Bool.not_eq_true', decide_eq_false_iff_not, beq_eq_false_iff_ne, bne_eq_false_iff_eq, not_true_eq_false, not_false_eq_true, if_true, if_false, reduceIte, and_true, true_and, and_false, false_and, or_false, false_or, or_true, true_or, List.getD_cons_zero, List.getD_cons_succ, List.length_cons, List.length_nil, List.cons_append, List.nil_append, Nat.reduceAdd, Nat.reduceEqDiff, reduceCtorEq, Bool.not_true, Bool.not_false, Bool.true_and, Bool.and_true, Bool.false_and, Bool.and_false, Bool.or_true, Bool.true_or, Bool.or_false, Bool.false_or, Bool.false_eq_true, Bool.true_eq_false, Sc.int_i, Sc.bool_b, Sc.list_l, Sc.str_s, Int.reduceEq, Int.reduceLT, Int.reduceLE, Int.reduceNe, decide_true, decide_false, decide_not, eq_self, Classical.not_not, List.getElem?_cons_zero, List.getElem?_cons_succ, beq_self_eq_true, bne_self_eq_false]
  by_cases h3 : 1000000000 < hi
  · simp only [h1, h2, h3, Int.natCast_nonneg, bne_iff_ne, beq_iff_eq, ne_eq, decide_eq_true_eq, Bool.and_eq_true, Bool.or_eq_true, Bool.not_eq_true', decide_eq_false_iff_not, beq_eq_false_iff_ne, bne_eq_false_iff_eq, not_true_eq_false, not_false_eq_true, if_true, if_false, reduceIte, and_true, true_and, and_false, false_and, or_false, false_or, or_true, true_or, List.getD_cons_zero, List.getD_cons_succ, List.length_cons, List.length_nil, List.cons_append, List.nil_append, Nat.reduceAdd, Nat.reduceEqDiff, reduceCtorEq, Bool.not_true, Bool.not_false, Bool.true_and, Bool.and_true, Bool.false_and, Bool.and_false, Bool.or_true, Bool.true_or, Bool.or_false, Bool.false_or, Bool.false_eq_true, Bool.true_eq_false, Sc.int_i, Sc.bool_b, Sc.list_l, Sc.str_s, Int.reduceEq, Int.reduceLT, Int.reduceLE, Int.reduceNe, decide_true, decide_false, decide_not, eq_self, Classical.not_not, List.getElem?_cons_zero, List.getElem?_cons_succ, beq_self_eq_true, bne_self_eq_false]
  simp only [h1, h2, h3, Int.natCast_nonneg, bne_iff_ne, beq_iff_eq, ne_eq, decide_eq_true_eq, Bool.and_eq_true, Bool.or_eq_true, Bool.not_eq_true', decide_eq_false_iff_not, beq_eq_false_iff_ne, bne_eq_false_iff_eq, not_true_eq_false, not_false_eq_true, if_true, if_false, reduceIte, and_true, true_and, and_false, false_and, or_false, false_or, or_true, true_or, List.getD_cons_zero, List.getD_cons_succ, List.length_cons, List.length_nil, List.cons_append, List.nil_append, Nat.reduceAdd, Nat.reduceEqDiff, reduceCtorEq, Bool.not_true, Bool.not_false, Bool.true_and, Bool.and_true, Bool.false_and, Bool.and_false, Bool.or_true, Bool.true_or, Bool.or_false, Bool.false_or, Bool.false_eq_true, Bool.true_eq_false, Sc.int_i, Sc.bool_b, Sc.list_l, Sc.str_s, Int.reduceEq, Int.reduceLT, Int.reduceLE, Int.reduceNe, decide_true, decide_false, decide_not, eq_self, Classical.not_not, List.getElem?_cons_zero, List.getElem?_cons_succ, beq_self_eq_true, bne_self_eq_false]
  refine (loop_rounds (S := Nat × Int) (fun s => [.i (s.1 : Int)])
    (fun s => some [.i (if grows (lb s.1 s.2) (xs.drop s.1) = true then upS lo hi xs 0 true else 0)])
    (fun s => s.1 ≤ xs.length ∧ 0 ≤ s.2 ∧ (0 < s.1 → xs[s.1 - 1]? = some s.2) ∧ ∀ x ∈ xs.take s.1, 0 ≤ x) (fun s => xs.length - s.1) ?_ (0, 0) ⟨by simp only; omega, by simp only; omega, by simp only; omega, by simp⟩ (by simp only; omega)).trans ?_
  · rintro ⟨i, b⟩ rec ⟨i1, i4, i6, i7⟩ hrec
    simp only at i1 i4 i6 i7 ⊢
    by_cases hlt : i < xs.length
    · have k1 : (i : Int) < xs.length := by omega
      have hix := idx_map Sc.i xs i hlt
      have hw := succ_w (n := xs.length) hlt (by omega)
      have ed : xs.drop i = xs[i] :: xs.drop (i + 1) := List.drop_eq_getElem_cons hlt
      have et : xs.take (i + 1) = xs.take i ++ [xs[i]] := by rw [List.take_add_one, List.getElem?_eq_getElem hlt]; rfl
      rw [ed]
      have hq : xs[i]? = some xs[i] := List.getElem?_eq_getElem hlt
      generalize xs[i] = x at *
      have e1 : lb (i + 1) x = x + 1 := by unfold lb; rw [if_neg (by omega)]
      have l0 : 0 ≤ lb i b := by unfold lb; split <;> omega
      by_cases c1 : x < 0
      · have hg : grows (lb i b) (x :: xs.drop (i + 1)) = false := by simp only [grows]; rw [decide_eq_false (by omega)]; rfl
        rw [hg]
        simp only [k1, hix, c1, Int.natCast_nonneg, bne_iff_ne, beq_iff_eq, ne_eq, decide_eq_true_eq, Bool.and_eq_true, Bool.or_eq_true, Bool.not_eq_true', decide_eq_false_iff_not, beq_eq_false_iff_ne, bne_eq_false_iff_eq, not_true_eq_false, not_false_eq_true, if_true, if_false, reduceIte, and_true, true_and, and_false, false_and, or_false, false_or, or_true, true_or, List.getD_cons_zero, List.getD_cons_succ, List.length_cons, List.length_nil, List.cons_append, List.nil_append, Nat.reduceAdd, Nat.reduceEqDiff, reduceCtorEq, Bool.not_true, Bool.not_false, Bool.true_and, Bool.and_true, Bool.false_and, Bool.and_false, Bool.or_true, Bool.true_or, Bool.or_false, Bool.false_or, Bool.false_eq_true, Bool.true_eq_false, Sc.int_i, Sc.bool_b, Sc.list_l, Sc.str_s, Int.reduceEq, Int.reduceLT, Int.reduceLE, Int.reduceNe, decide_true, decide_false, decide_not, eq_self, Classical.not_not, List.getElem?_cons_zero, List.getElem?_cons_succ, beq_self_eq_true, bne_self_eq_false]
      have hr := hrec (i + 1, x) ⟨by simp only; omega, by simp only; omega, fun _ => hq, fun y hy => by
        simp only at hy
        rw [et, List.mem_append, List.mem_singleton] at hy
        rcases hy with hy | rfl
        · exact i7 y hy
        · omega⟩ (by simp only; omega)
      simp only [e1] at hr
      have fin : lb i b ≤ x → (grows (lb i b) (x :: xs.drop (i + 1)) = grows (x + 1) (xs.drop (i + 1))) := fun h => by simp only [grows]; rw [decide_eq_true h, Bool.true_and]
      by_cases c2 : (0 : Int) < i
      · have w0 : IntKind.i64.wrap ((i : Int) - 1) = ((i - 1 : Nat) : Int) := by rw [wrJ (by omega) (by omega)]; omega
        have k2 : ((i - 1 : Nat) : Int) < xs.length := by omega
        have hp : (xs.map Sc.i).getD (((i - 1 : Nat) : Int)).toNat (.i 0) = .i b := by
          rw [Int.toNat_natCast, List.getD_eq_getElem?_getD, List.getElem?_map, i6 (by omega)]; rfl
        have elb : lb i b = b + 1 := by unfold lb; rw [if_neg (by omega)]
        by_cases c3 : x ≤ b
        · have hg : grows (lb i b) (x :: xs.drop (i + 1)) = false := by simp only [grows]; rw [decide_eq_false (by omega)]; rfl
          rw [hg]
          simp only [k1, hix, c1, c2, w0, k2, hp, c3, Int.natCast_nonneg, bne_iff_ne, beq_iff_eq, ne_eq, decide_eq_true_eq, Bool.and_eq_true, Bool.or_eq_true, Bool.not_eq_true', decide_eq_false_iff_not, beq_eq_false_iff_ne, bne_eq_false_iff_eq, not_true_eq_false, not_false_eq_true, if_true, if_false, reduceIte, and_true, true_and, and_false, false_and, or_false, false_or, or_true, true_or, List.getD_cons_zero, List.getD_cons_succ, List.length_cons, List.length_nil, List.cons_append, List.nil_append, Nat.reduceAdd, Nat.reduceEqDiff, reduceCtorEq, Bool.not_true, Bool.not_false, Bool.true_and, Bool.and_true, Bool.false_and, Bool.and_false, Bool.or_true, Bool.true_or, Bool.or_false, Bool.false_or, Bool.false_eq_true, Bool.true_eq_false, Sc.int_i, Sc.bool_b, Sc.list_l, Sc.str_s, Int.reduceEq, Int.reduceLT, Int.reduceLE, Int.reduceNe, decide_true, decide_false, decide_not, eq_self, Classical.not_not, List.getElem?_cons_zero, List.getElem?_cons_succ, beq_self_eq_true, bne_self_eq_false]
        · rw [fin (by omega)]
          simp only [k1, hix, c1, c2, w0, k2, hp, c3, hw, hr, Int.natCast_nonneg, bne_iff_ne, beq_iff_eq, ne_eq, decide_eq_true_eq, Bool.and_eq_true, Bool.or_eq_true, Bool.not_eq_true', decide_eq_false_iff_not, beq_eq_false_iff_ne, bne_eq_false_iff_eq, not_true_eq_false, not_false_eq_true, if_true, if_false, reduceIte, and_true, true_and, and_false, false_and, or_false, false_or, or_true, true_or, List.getD_cons_zero, List.getD_cons_succ, List.length_cons, List.length_nil, List.cons_append, List.nil_append, Nat.reduceAdd, Nat.reduceEqDiff, reduceCtorEq, Bool.not_true, Bool.not_false, Bool.true_and, Bool.and_true, Bool.false_and, Bool.and_false, Bool.or_true, Bool.true_or, Bool.or_false, Bool.false_or, Bool.false_eq_true, Bool.true_eq_false, Sc.int_i, Sc.bool_b, Sc.list_l, Sc.str_s, Int.reduceEq, Int.reduceLT, Int.reduceLE, Int.reduceNe, decide_true, decide_false, decide_not, eq_self, Classical.not_not, List.getElem?_cons_zero, List.getElem?_cons_succ, beq_self_eq_true, bne_self_eq_false]
      · have elb : lb i b = 0 := by unfold lb; rw [if_pos (by omega)]
        rw [fin (by omega)]
        simp only [k1, hix, c1, c2, hw, hr, Int.natCast_nonneg, bne_iff_ne, beq_iff_eq, ne_eq, decide_eq_true_eq, Bool.and_eq_true, Bool.or_eq_true, Bool.not_eq_true', decide_eq_false_iff_not, beq_eq_false_iff_ne, bne_eq_false_iff_eq, not_true_eq_false, not_false_eq_true, if_true, if_false, reduceIte, and_true, true_and, and_false, false_and, or_false, false_or, or_true, true_or, List.getD_cons_zero, List.getD_cons_succ, List.length_cons, List.length_nil, List.cons_append, List.nil_append, Nat.reduceAdd, Nat.reduceEqDiff, reduceCtorEq, Bool.not_true, Bool.not_false, Bool.true_and, Bool.and_true, Bool.false_and, Bool.and_false, Bool.or_true, Bool.true_or, Bool.or_false, Bool.false_or, Bool.false_eq_true, Bool.true_eq_false, Sc.int_i, Sc.bool_b, Sc.list_l, Sc.str_s, Int.reduceEq, Int.reduceLT, Int.reduceLE, Int.reduceNe, decide_true, decide_false, decide_not, eq_self, Classical.not_not, List.getElem?_cons_zero, List.getElem?_cons_succ, beq_self_eq_true, bne_self_eq_false]
    · have k1 : ¬ (i : Int) < xs.length := by omega
      have ed : xs.drop i = [] := List.drop_eq_nil_of_le (by omega)
      rw [ed]
      have hall : ∀ x ∈ xs, 0 ≤ x := fun x h => i7 x (by rw [List.take_of_length_le (by omega)]; exact h)
      simp only [k1, grows, Int.natCast_nonneg, bne_iff_ne, beq_iff_eq, ne_eq, decide_eq_true_eq, Bool.and_eq_true, Bool.or_eq_true, Bool.not_eq_true', decide_eq_false_iff_not, beq_eq_false_iff_ne, bne_eq_false_iff_eq, not_true_eq_false, not_false_eq_true, if_true, if_false, reduceIte, and_true, true_and, and_false, false_and, or_false, false_or, or_true, true_or, List.getD_cons_zero, List.getD_cons_succ, List.length_cons, List.length_nil, List.cons_append, List.nil_append, Nat.reduceAdd, Nat.reduceEqDiff, reduceCtorEq, Bool.not_true, Bool.not_false, Bool.true_and, Bool.and_true, Bool.false_and, Bool.and_false, Bool.or_true, Bool.true_or, Bool.or_false, Bool.false_or, Bool.false_eq_true, Bool.true_eq_false, Sc.int_i, Sc.bool_b, Sc.list_l, Sc.str_s, Int.reduceEq, Int.reduceLT, Int.reduceLE, Int.reduceNe, decide_true, decide_false, decide_not, eq_self, Classical.not_not, List.getElem?_cons_zero, List.getElem?_cons_succ, beq_self_eq_true, bne_self_eq_false]
      refine (loop_rounds (S := Nat × Int × Int) (fun s => [.i s.2.1, .i s.2.2, .i (s.1 : Int)])
        (fun s => some [.i (if s.1 ≤ xs.length then s.2.1 + upS lo hi (xs.drop s.1) s.2.2 (decide (s.1 % 2 = 0)) else s.2.1)])
        (fun s => s.1 ≤ xs.length + 1 ∧ 0 ≤ s.2.1 ∧ s.2.1 ≤ s.1 * 1000000000 ∧ 0 ≤ s.2.2 ∧ s.2.2 < 9223372036854775808) (fun s => xs.length + 1 - s.1) ?_ (0, 0, 0) ⟨by simp only; omega, by simp only; omega, by simp only; omega, by simp only; omega, by simp only; omega⟩ (by simp only; omega)).trans ?_
      · rintro ⟨j, sum, b⟩ rec2 ⟨j1, j2, j3, j4, j5⟩ hrec2
        simp only at j1 j2 j3 j4 j5 ⊢
        have tm : Int.tmod (j : Int) 2 = ((j % 2 : Nat) : Int) := rfl
        have hw : IntKind.i64.wrap ((j : Int) + 1) = ((j + 1 : Nat) : Int) := by rw [wrJ (by omega) (by omega)]; omega
        by_cases hle : j ≤ xs.length
        · have k3 : (j : Int) ≤ xs.length := by omega
          rw [if_pos hle]
          by_cases hlt : j < xs.length
          · have k1 : (j : Int) < xs.length := by omega
            have hix := idx_map Sc.i xs j hlt
            have ed : xs.drop j = xs[j] :: xs.drop (j + 1) := List.drop_eq_getElem_cons hlt
            rw [ed]
            have hxj := hx _ (List.getElem_mem hlt)
            have hxk := hall _ (List.getElem_mem hlt)
            generalize xs[j] = x at *
            have sc := shr_code (a := b) (b := x) (lo := lo) (hi := hi) j5 hxk (by omega) (by omega) (by omega)
            have sb := shr_in (a := b) (b := x) (lo := lo) (hi := hi) (by omega) (by omega)
            have w1 : IntKind.i64.wrap (sum + shr b x lo hi) = sum + shr b x lo hi := wrJ (by omega) (by omega)
            have hr := hrec2 (j + 1, sum + shr b x lo hi, x) ⟨by simp only; omega, by simp only; omega, by simp only; omega, by simp only; omega, by simp only; omega⟩ (by simp only; omega)
            have hr2 := hrec2 (j + 1, sum, x) ⟨by simp only; omega, by simp only; omega, by simp only; omega, by simp only; omega, by simp only; omega⟩ (by simp only; omega)
            have k4 : j + 1 ≤ xs.length := hlt
            simp only [k4, if_true] at hr hr2
            rcases Nat.mod_two_eq_zero_or_one j with m | m
            · have m2 : (j + 1) % 2 = 1 := by omega
              rw [m2] at hr
              have tz : Int.tmod (j : Int) 2 = 0 := by rw [tm, m]; rfl
              rw [m]
              simp only [k3, k1, hix, tz, sc, w1, hw, hr, upS, Int.zero_add, Int.add_assoc, Int.natCast_nonneg, bne_iff_ne, beq_iff_eq, ne_eq, decide_eq_true_eq, Bool.and_eq_true, Bool.or_eq_true, Bool.not_eq_true', decide_eq_false_iff_not, beq_eq_false_iff_ne, bne_eq_false_iff_eq, not_true_eq_false, not_false_eq_true, if_true, if_false, reduceIte, and_true, true_and, and_false, false_and, or_false, false_or, or_true, true_or, List.getD_cons_zero, List.getD_cons_succ, List.length_cons, List.length_nil, List.cons_append, List.nil_append, Nat.reduceAdd, Nat.reduceEqDiff, reduceCtorEq, Bool.not_true, Bool.not_false, Bool.true_and, Bool.and_true, Bool.false_and, Bool.and_false, Bool.or_true, Bool.true_or, Bool.or_false, Bool.false_or, Bool.false_eq_true, Bool.true_eq_false, Sc.int_i, Sc.bool_b, Sc.list_l, Sc.str_s, Int.reduceEq, Int.reduceLT, Int.reduceLE, Int.reduceNe, decide_true, decide_false, decide_not, eq_self, Classical.not_not, List.getElem?_cons_zero, List.getElem?_cons_succ, beq_self_eq_true, bne_self_eq_false]
            · have m2 : (j + 1) % 2 = 0 := by omega
              rw [m2] at hr2
              have tz : Int.tmod (j : Int) 2 = 1 := by rw [tm, m]; rfl
              rw [m]
              simp only [k3, k1, hix, tz, hw, hr2, upS, Int.zero_add, Int.add_assoc, Int.natCast_nonneg, bne_iff_ne, beq_iff_eq, ne_eq, decide_eq_true_eq, Bool.and_eq_true, Bool.or_eq_true, Bool.not_eq_true', decide_eq_false_iff_not, beq_eq_false_iff_ne, bne_eq_false_iff_eq, not_true_eq_false, not_false_eq_true, if_true, if_false, reduceIte, and_true, true_and, and_false, false_and, or_false, false_or, or_true, true_or, List.getD_cons_zero, List.getD_cons_succ, List.length_cons, List.length_nil, List.cons_append, List.nil_append, Nat.reduceAdd, Nat.reduceEqDiff, reduceCtorEq, Bool.not_true, Bool.not_false, Bool.true_and, Bool.and_true, Bool.false_and, Bool.and_false, Bool.or_true, Bool.true_or, Bool.or_false, Bool.false_or, Bool.false_eq_true, Bool.true_eq_false, Sc.int_i, Sc.bool_b, Sc.list_l, Sc.str_s, Int.reduceEq, Int.reduceLT, Int.reduceLE, Int.reduceNe, decide_true, decide_false, decide_not, eq_self, Classical.not_not, List.getElem?_cons_zero, List.getElem?_cons_succ, beq_self_eq_true, bne_self_eq_false]
          · have k1 : ¬ (j : Int) < xs.length := by omega
            have ed : xs.drop j = [] := List.drop_eq_nil_of_le (by omega)
            rw [ed]
            have sc := shr_code (a := b) (b := hi) (lo := lo) (hi := hi) j5 (by omega) (by omega) (by omega) (by omega)
            have sb := shr_in (a := b) (b := hi) (lo := lo) (hi := hi) (by omega) (by omega)
            have w1 : IntKind.i64.wrap (sum + shr b hi lo hi) = sum + shr b hi lo hi := wrJ (by omega) (by omega)
            have hr := hrec2 (j + 1, sum + shr b hi lo hi, hi) ⟨by simp only; omega, by simp only; omega, by simp only; omega, by simp only; omega, by simp only; omega⟩ (by simp only; omega)
            have hr2 := hrec2 (j + 1, sum, hi) ⟨by simp only; omega, by simp only; omega, by simp only; omega, by simp only; omega, by simp only; omega⟩ (by simp only; omega)
            have k4 : ¬ j + 1 ≤ xs.length := by omega
            simp only [k4, if_false] at hr hr2
            rcases Nat.mod_two_eq_zero_or_one j with m | m
            · have tz : Int.tmod (j : Int) 2 = 0 := by rw [tm, m]; rfl
              rw [m]
              simp only [k3, k1, tz, sc, w1, hw, hr, upS, Int.natCast_nonneg, bne_iff_ne, beq_iff_eq, ne_eq, decide_eq_true_eq, Bool.and_eq_true, Bool.or_eq_true, Bool.not_eq_true', decide_eq_false_iff_not, beq_eq_false_iff_ne, bne_eq_false_iff_eq, not_true_eq_false, not_false_eq_true, if_true, if_false, reduceIte, and_true, true_and, and_false, false_and, or_false, false_or, or_true, true_or, List.getD_cons_zero, List.getD_cons_succ, List.length_cons, List.length_nil, List.cons_append, List.nil_append, Nat.reduceAdd, Nat.reduceEqDiff, reduceCtorEq, Bool.not_true, Bool.not_false, Bool.true_and, Bool.and_true, Bool.false_and, Bool.and_false, Bool.or_true, Bool.true_or, Bool.or_false, Bool.false_or, Bool.false_eq_true, Bool.true_eq_false, Sc.int_i, Sc.bool_b, Sc.list_l, Sc.str_s, Int.reduceEq, Int.reduceLT, Int.reduceLE, Int.reduceNe, decide_true, decide_false, decide_not, eq_self, Classical.not_not, List.getElem?_cons_zero, List.getElem?_cons_succ, beq_self_eq_true, bne_self_eq_false]
            · have tz : Int.tmod (j : Int) 2 = 1 := by rw [tm, m]; rfl
              rw [m]
              simp only [k3, k1, tz, hw, hr2, upS, Int.add_zero, Int.natCast_nonneg, bne_iff_ne, beq_iff_eq, ne_eq, decide_eq_true_eq, Bool.and_eq_true, Bool.or_eq_true, Bool.not_eq_true', decide_eq_false_iff_not, beq_eq_false_iff_ne, bne_eq_false_iff_eq, not_true_eq_false, not_false_eq_true, if_true, if_false, reduceIte, and_true, true_and, and_false, false_and, or_false, false_or, or_true, true_or, List.getD_cons_zero, List.getD_cons_succ, List.length_cons, List.length_nil, List.cons_append, List.nil_append, Nat.reduceAdd, Nat.reduceEqDiff, reduceCtorEq, Bool.not_true, Bool.not_false, Bool.true_and, Bool.and_true, Bool.false_and, Bool.and_false, Bool.or_true, Bool.true_or, Bool.or_false, Bool.false_or, Bool.false_eq_true, Bool.true_eq_false, Sc.int_i, Sc.bool_b, Sc.list_l, Sc.str_s, Int.reduceEq, Int.reduceLT, Int.reduceLE, Int.reduceNe, decide_true, decide_false, decide_not, eq_self, Classical.not_not, List.getElem?_cons_zero, List.getElem?_cons_succ, beq_self_eq_true, bne_self_eq_false]
        · have k3 : ¬ (j : Int) ≤ xs.length := by omega
          rw [if_neg hle]
          simp only [k3, Int.natCast_nonneg, bne_iff_ne, beq_iff_eq, ne_eq, decide_eq_true_eq, Bool.and_eq_true, Bool.or_eq_true, Bool.not_eq_true', decide_eq_false_iff_not, beq_eq_false_iff_ne, bne_eq_false_iff_eq, not_true_eq_false, not_false_eq_true, if_true, if_false, reduceIte, and_true, true_and, and_false, false_and, or_false, false_or, or_true, true_or, List.getD_cons_zero, List.getD_cons_succ, List.length_cons, List.length_nil, List.cons_append, List.nil_append, Nat.reduceAdd, Nat.reduceEqDiff, reduceCtorEq, Bool.not_true, Bool.not_false, Bool.true_and, Bool.and_true, Bool.false_and, Bool.and_false, Bool.or_true, Bool.true_or, Bool.or_false, Bool.false_or, Bool.false_eq_true, Bool.true_eq_false, Sc.int_i, Sc.bool_b, Sc.list_l, Sc.str_s, Int.reduceEq, Int.reduceLT, Int.reduceLE, Int.reduceNe, decide_true, decide_false, decide_not, eq_self, Classical.not_not, List.getElem?_cons_zero, List.getElem?_cons_succ, beq_self_eq_true, bne_self_eq_false]
      · simp only [Nat.zero_le, if_true, List.drop_zero, Int.zero_add, Nat.zero_mod, decide_true]
  · simp only [lb, List.drop_zero, if_true]
/-! The laws. -/
theorem upS_nn {lo hi : Int} (h1 : 0 ≤ lo) (h3 : hi ≤ 1000000000) : ∀ (xs : List Int) (b : Int) (w : Bool), 0 ≤ upS lo hi xs b w
  | [], b, w => by
    have := shr_in (a := b) (b := hi) h1 h3
    simp only [upS]; split <;> omega
  | t :: ts, b, w => by
    have := shr_in (a := b) (b := t) h1 h3
    have := upS_nn h1 h3 ts t (!w)
    simp only [upS]; split <;> omega
theorem upS_add {lo mid hi : Int} (h1 : lo ≤ mid) (h2 : mid ≤ hi) : ∀ (xs : List Int) (b : Int) (w : Bool), grows b xs = true → upS lo mid xs b w + upS mid hi xs b w = upS lo hi xs b w
  | [], b, w, _ => by simp only [upS]; split <;> first | rfl | (unfold shr; omega)
  | t :: ts, b, w, g => by
    simp only [grows, Bool.and_eq_true, decide_eq_true_eq] at g
    have ih := upS_add h1 h2 ts t (!w) (grows_mono (by omega) g.2)
    simp only [upS]
    have e : b ≤ t → shr b t lo mid + shr b t mid hi = shr b t lo hi := fun _ => by unfold shr; omega
    have e := e g.1
    split <;> omega
theorem upS_both {lo hi : Int} (h1 : lo ≤ hi) : ∀ (xs : List Int) (b : Int), grows b xs = true → upS lo hi xs b true + upS lo hi xs b false = max 0 (hi - max b lo)
  | [], b, _ => by simp only [upS, if_true, Bool.false_eq_true, if_false]; unfold shr; omega
  | t :: ts, b, g => by
    simp only [grows, Bool.and_eq_true, decide_eq_true_eq] at g
    have ih := upS_both h1 ts t (grows_mono (by omega) g.2)
    simp only [upS, if_true, Bool.false_eq_true, if_false, Bool.not_true, Bool.not_false]
    have e : b ≤ t → shr b t lo hi + max 0 (hi - max t lo) = max 0 (hi - max b lo) := fun _ => by unfold shr; omega
    have e := e g.1
    omega
theorem upS_same {lo : Int} : ∀ (xs : List Int) (b : Int) (w : Bool), upS lo lo xs b w = 0
  | [], b, w => by simp only [upS]; split <;> first | rfl | (unfold shr; omega)
  | t :: ts, b, w => by
    have := upS_same (lo := lo) ts t (!w)
    have e : shr b t lo lo = 0 := by unfold shr; omega
    simp only [upS]; split <;> omega
theorem upV_same (xs : List Int) (lo : Int) : upV xs lo lo = 0 := by
  unfold upV
  split
  · rfl
  split
  · rfl
  split
  · rfl
  split
  · exact upS_same xs 0 true
  · rfl
theorem upV_in {xs : List Int} {lo hi : Int} (h1 : 0 ≤ lo) (h2 : lo ≤ hi) (h3 : hi ≤ 1000000000) (g : grows 0 xs = true) : upV xs lo hi = upS lo hi xs 0 true := by
  unfold upV; rw [if_neg (by omega), if_neg (by omega), if_neg (by omega), if_pos g]
end Go.Proofs.Ytpmplppkjedpiaa
