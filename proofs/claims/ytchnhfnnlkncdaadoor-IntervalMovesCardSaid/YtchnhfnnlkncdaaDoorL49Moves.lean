/-
  IntervalMoves: order does not matter, and a number added to all values moves the mean alone. No condition. 
-/
import Derived.Test.YtchnhfnnlkncdaaDoorRows
import Derived.Test.YtchnhfnnlkncdaaDoorCards
import Derived.Test.YtchnhfnnlkncdaaDoorTie
import Derived.SevenTiedAt
import Derived.LaidMore
import Derived.OpenShut
import Derived.Stop.Joined
import Derived.Test.YtchnhfnnlkncdaaDoorOpnR
import Derived.Test.YtchnhfnnlkncdaaDoorA49
import Derived.Test.YtchnhfnnlkncdaaDoorM49c
import Derived.Test.YtchnhfnnlkncdaaDoorFlL
namespace Go.Proofs.YtchnhfnnlkncdaaDoor
open Go.ChangeShapes Go.WideShapes Go.ChangeAt Go.RowKit
set_option linter.unusedSimpArgs false

theorem list_n (z : List Sc) : (Sc.l z).list = z := id rfl
theorem sumR_app (b : List Rat) : ∀ a : List Rat, sumR (a ++ b) = sumR a + sumR b
  | [] => by simp only [List.nil_append, sumR]; grind
  | x :: a => by simp only [List.cons_append, sumR, sumR_app b a]; grind
theorem sumR_rev : ∀ a : List Rat, sumR a.reverse = sumR a
  | [] => rfl
  | x :: a => by simp only [List.reverse_cons, sumR_app, sumR, sumR_rev a]; grind
theorem sqR_app (m : Rat) (b : List Rat) : ∀ a : List Rat, sqR m (a ++ b) = sqR m a + sqR m b
  | [] => by simp only [List.nil_append, sqR]; grind
  | x :: a => by simp only [List.cons_append, sqR, sqR_app m b a]; grind
theorem sqR_rev (m : Rat) : ∀ a : List Rat, sqR m a.reverse = sqR m a
  | [] => rfl
  | x :: a => by simp only [List.reverse_cons, sqR_app, sqR, sqR_rev m a]; grind
theorem meanR_rev (a : List Rat) : meanR a.reverse = meanR a := by unfold meanR; rw [sumR_rev, List.length_reverse]
theorem sumR_shift (k : Rat) : ∀ a : List Rat, sumR (a.map (· + k)) = sumR a + (a.length : Rat) * k
  | [] => by simp only [List.map_nil, sumR, List.length_nil]; have : ((0 : Nat) : Rat) = 0 := rfl; grind
  | x :: a => by
    simp only [List.map_cons, sumR, sumR_shift k a, List.length_cons]
    have : ((a.length + 1 : Nat) : Rat) = (a.length : Rat) + 1 := Rat.natCast_add _ _
    grind
theorem meanR_shift (k : Rat) {a : List Rat} (h : a.length ≠ 0) : meanR (a.map (· + k)) = meanR a + k := by
  have h1 := meanR_mul (qs := a.map (· + k)) (by rw [List.length_map]; exact h)
  have h2 := meanR_mul h
  rw [List.length_map, sumR_shift] at h1
  have h3 := nat_pos_rat (n := a.length) (by omega)
  have h4 : (a.length : Rat) ≠ 0 := fun e => by rw [e] at h3; exact absurd h3 Rat.lt_irrefl
  generalize (a.length : Rat) = n at *
  generalize meanR (a.map (· + k)) = x at *
  generalize meanR a = y at *
  have : n * x = n * (y + k) := by grind
  grind
theorem sqR_shift (m k : Rat) : ∀ a : List Rat, sqR (m + k) (a.map (· + k)) = sqR m a
  | [] => rfl
  | x :: a => by simp only [List.map_cons, sqR, sqR_shift m k a]; grind
theorem rev_eq {ps : List (Int × Int)} {m v n u : Rat} (h1 : mean50O ps = some m) (h2 : varO ps = some v) (h3 : mean50O ps.reverse = some n) (h4 : varO ps.reverse = some u) : n = m ∧ u = v := by
  obtain ⟨qs, e1, _, _, rfl⟩ := mean50O_val h1
  obtain ⟨q2, e2, _, _, _, rfl⟩ := varO_val h2
  obtain ⟨q3, e3, _, _, rfl⟩ := mean50O_val h3
  obtain ⟨q4, e4, _, _, _, rfl⟩ := varO_val h4
  rw [e1] at e2 e3 e4
  obtain rfl := map_pr_inj e2
  rw [← List.map_reverse] at e3 e4
  obtain rfl := map_pr_inj e3
  obtain rfl := map_pr_inj e4
  rw [meanR_rev, sqR_rev, List.length_reverse]; exact ⟨rfl, rfl⟩
def toP9 : Option Rat → Int × Int
  | some q => pr q
  | none => (0, 0)
theorem enc_toP9 (o : Option Rat) : enc o = [.i (toP9 o).1, .i (toP9 o).2, .b o.isSome] := by cases o <;> rfl
theorem toP9_FP {o : Option Rat} (h : ∀ q, o = some q → fitQ q = true) : FP (toP9 o) := by
  cases o with
  | none => exact ⟨⟨by simp [toP9], by simp [toP9]⟩, ⟨by simp [toP9], by simp [toP9]⟩⟩
  | some q => exact FP_pr (h q rfl)
def mv (k : Int) (p : Int × Int) : Option Rat := addO (valP p) (valP (k, 1))
theorem mov_eq {ps : List (Int × Int)} {k : Int} {m v n u : Rat} (ha : (ps.all fun p => (mv k p).isSome) = true) (h1 : mean50O ps = some m) (h2 : varO ps = some v) (h3 : mean50O (ps.map fun p => toP9 (mv k p)) = some n) (h4 : varO (ps.map fun p => toP9 (mv k p)) = some u) : addO (some m) (valP (k, 1)) = some n ∧ u = v := by
  have fn := mean50O_fit h3
  obtain ⟨qs, e1, fq, l1, rfl⟩ := mean50O_val h1
  obtain ⟨q2, e2, _, _, _, rfl⟩ := varO_val h2
  obtain ⟨q3, e3, _, _, rfl⟩ := mean50O_val h3
  obtain ⟨q4, e4, _, _, _, rfl⟩ := varO_val h4
  subst e1
  obtain rfl := map_pr_inj e2
  rw [List.all_eq_true] at ha
  cases hK : valP (k, 1) with
  | none =>
    exfalso
    obtain ⟨x, hx⟩ : ∃ x, x ∈ qs := by
      cases qs with
      | nil => exact absurd rfl l1
      | cons a b => exact ⟨a, List.mem_cons_self ..⟩
    have := ha (pr x) (List.mem_map_of_mem hx)
    unfold mv addO at this; rw [hK] at this
    exact absurd this (by cases valP (pr x) <;> simp)
  | some K =>
    have em : ((qs.map pr).map fun p => toP9 (mv k p)) = (qs.map (· + K)).map pr := by
      rw [List.map_map, List.map_map]
      refine List.map_congr_left fun x hx => ?_
      have := ha (pr x) (List.mem_map_of_mem hx)
      show toP9 (mv k (pr x)) = pr (x + K)
      have e : mv k (pr x) = fitO (x + K) := by unfold mv; rw [valP_pr (fq x hx), hK]; rfl
      rw [e] at this ⊢
      cases hf : fitO (x + K) with
      | none => rw [hf] at this; cases this
      | some r => rw [← (fitO_some hf).1]; rfl
    rw [em] at e3 e4
    obtain rfl := map_pr_inj e3
    obtain rfl := map_pr_inj e4
    rw [meanR_shift K l1] at fn ⊢
    rw [sqR_shift, List.length_map]
    exact ⟨fitO_yes fn, rfl⟩
theorem ofB_form9 (ps : List (Int × Int)) : ∃ a b c d e, ofB ps = [.i a, .i b, .i c, .i d, .i e] := by
  rcases ofB_cases ps with ⟨e, _, h⟩ | ⟨m, v, _, _, _, _, _, h⟩
  · exact ⟨_, _, _, _, _, h⟩
  · exact ⟨_, _, _, _, _, h⟩
theorem of49 (x y : Int) : k_simulatorlaw49_of.F [.i x, .i y] = some [.i x, .i y] := by
  simp only [k_simulatorlaw49_of_F, tk_simulatorlaw49_of, Go.Proofs.YtchnhfnnlkncdaaDoor.T.den, Ex.ev, U1.ev, U2.ev, U3.ev, gam, List.map, List.getD_cons_zero, List.getD_cons_succ, List.length, List.cons_append, List.nil_append, if_true, int_n, bool_n, list_n, Sc.str_s, Nat.reduceEqDiff, if_false, List.getElem?_cons_zero, List.getElem?_cons_succ]
set_option maxRecDepth 20000 in
theorem moves_F (ps : List (Int × Int)) (k : Int) (hp : ∀ p ∈ ps, FP p) (hk : I64' k) : k_simulatorlaw49_IntervalMoves.F [.l (ps.map pt), .i k] = some [.b true] := by
  simp only [k_simulatorlaw49_IntervalMoves_F, tk_simulatorlaw49_IntervalMoves, k_interval_Of_f, k_frac_Add_f, k_simulatorlaw49_of_f, k_simulatorlaw49_awake_f, awake49, List.length_map, of49, Go.Proofs.YtchnhfnnlkncdaaDoor.T.den, Ex.ev, U1.ev, U2.ev, U3.ev, gam, List.map, List.getD_cons_zero, List.getD_cons_succ, List.length, List.cons_append, List.nil_append, if_true, int_n, bool_n, list_n, Sc.str_s, Nat.reduceEqDiff, if_false, List.getElem?_cons_zero, List.getElem?_cons_succ]
  by_cases h1 : (50 : Int) < ps.length
  · simp only [h1, Int.natCast_nonneg, bne_iff_ne, beq_iff_eq, ne_eq, decide_eq_true_eq, Bool.and_eq_true, Bool.or_eq_true, Bool.not_eq_true', decide_eq_false_iff_not, beq_eq_false_iff_ne, bne_eq_false_iff_eq, not_true_eq_false, not_false_eq_true, if_true, if_false, reduceIte, and_true, true_and, and_false, false_and, or_false, false_or, or_true, true_or, List.getD_cons_zero, List.getD_cons_succ, List.length_cons, List.length_nil, List.cons_append, List.nil_append, Nat.reduceAdd, Nat.reduceEqDiff, reduceCtorEq, Bool.not_true, Bool.not_false, Bool.true_and, Bool.and_true, Bool.false_and, Bool.and_false, Bool.or_true, Bool.true_or, Bool.or_false, Bool.false_or, Bool.false_eq_true, Bool.true_eq_false, int_n, bool_n, list_n, Sc.str_s, Int.reduceEq, Int.reduceLT, Int.reduceLE, Int.reduceNe, decide_true, decide_false, decide_not, eq_self, Classical.not_not, List.getElem?_cons_zero, List.getElem?_cons_succ, beq_self_eq_true, bne_self_eq_false]
  simp only [h1, Int.natCast_nonneg, bne_iff_ne, beq_iff_eq, ne_eq, decide_eq_true_eq, Bool.and_eq_true, Bool.or_eq_true, Bool.not_eq_true', decide_eq_false_iff_not, beq_eq_false_iff_ne, bne_eq_false_iff_eq, not_true_eq_false, not_false_eq_true, if_true, if_false, reduceIte, and_true, true_and, and_false, false_and, or_false, false_or, or_true, true_or, List.getD_cons_zero, List.getD_cons_succ, List.length_cons, List.length_nil, List.cons_append, List.nil_append, Nat.reduceAdd, Nat.reduceEqDiff, reduceCtorEq, Bool.not_true, Bool.not_false, Bool.true_and, Bool.and_true, Bool.false_and, Bool.and_false, Bool.or_true, Bool.true_or, Bool.or_false, Bool.false_or, Bool.false_eq_true, Bool.true_eq_false, int_n, bool_n, list_n, Sc.str_s, Int.reduceEq, Int.reduceLT, Int.reduceLE, Int.reduceNe, decide_true, decide_false, decide_not, eq_self, Classical.not_not, List.getElem?_cons_zero, List.getElem?_cons_succ, beq_self_eq_true, bne_self_eq_false]
  have fk : FP (k, 1) := ⟨hk, ⟨by simp only; omega, by simp only; omega⟩⟩
  have conv : ([.l [], .l [], .b true, .i 0] : List Sc) = [.l ((ps.take 0).reverse.map pt), .l ((ps.take 0).map fun p => pt (toP9 (mv k p))), .b ((ps.take 0).all fun p => (mv k p).isSome), .i ((0 : Nat) : Int)] := rfl
  rw [conv]
  refine loop_rounds (S := Nat) (fun j => [.l ((ps.take j).reverse.map pt), .l ((ps.take j).map fun p => pt (toP9 (mv k p))), .b ((ps.take j).all fun p => (mv k p).isSome), .i (j : Int)]) (fun _ => some [.b true]) (fun j => j ≤ ps.length) (fun j => ps.length - j) ?_ 0 (by omega) (by omega)
  intro j rec hj hrec
  by_cases hlt : j < ps.length
  · have hr := hrec (j + 1) (by omega) (by omega)
    have k1 : (j : Int) < ps.length := by omega
    have hi : (ps.map pt).getD ((j : Int)).toNat (.i 0) = .l [.i ps[j].1, .i ps[j].2] := idx_map pt ps j hlt
    have hw := succ_w (n := ps.length) hlt (by omega)
    have a := fadd_O (hp _ (List.getElem_mem hlt)) fk
    have ea : addO (valP ps[j]) (valP (k, 1)) = mv k ps[j] := rfl
    rw [ea, enc_toP9] at a
    have t : ps.take (j + 1) = ps.take j ++ [ps[j]] := by rw [List.take_add_one, List.getElem?_eq_getElem hlt]; rfl
    have e1 : (ps.take (j + 1)).reverse.map pt = .l [.i ps[j].1, .i ps[j].2] :: (ps.take j).reverse.map pt := by rw [t, List.reverse_append]; rfl
    have e2 : ((ps.take (j + 1)).map fun p => pt (toP9 (mv k p))) = ((ps.take j).map fun p => pt (toP9 (mv k p))) ++ [.l [.i (toP9 (mv k ps[j])).1, .i (toP9 (mv k ps[j])).2]] := by rw [t, List.map_append]; rfl
    have e3 : ((ps.take (j + 1)).all fun p => (mv k p).isSome) = (((ps.take j).all fun p => (mv k p).isSome) && (mv k ps[j]).isSome) := by rw [t, List.all_append]; simp
    rw [e1, e2, e3] at hr
    have l1 : (((((ps.take j).reverse.map pt).length + 1 : Nat)) : Int) ≤ 8796093022208 := by rw [List.length_map, List.length_reverse, List.length_take]; omega
    have l2 : (((((ps.take j).map fun p => pt (toP9 (mv k p))) ++ [Sc.l [.i (toP9 (mv k ps[j])).1, .i (toP9 (mv k ps[j])).2]]).length : Nat) : Int) ≤ 8796093022208 := by rw [List.length_append, List.length_map, List.length_take, List.length_singleton]; omega
    have l3 : (((Sc.l [.i ps[j].1, .i ps[j].2] :: (ps.take j).reverse.map pt).length : Nat) : Int) ≤ 8796093022208 := by rw [List.length_cons, List.length_map, List.length_reverse, List.length_take]; omega
    generalize (ps.take j).reverse.map pt = L1 at *
    generalize ((ps.take j).map fun p => pt (toP9 (mv k p))) = L2 at *
    cases hb : ((ps.take j).all fun p => (mv k p).isSome)
    · rw [hb] at hr
      simp only [k1, hi, hw, a, l1, l2, l3, hb, Int.natCast_nonneg, bne_iff_ne, beq_iff_eq, ne_eq, decide_eq_true_eq, Bool.and_eq_true, Bool.or_eq_true, Bool.not_eq_true', decide_eq_false_iff_not, beq_eq_false_iff_ne, bne_eq_false_iff_eq, not_true_eq_false, not_false_eq_true, if_true, if_false, reduceIte, and_true, true_and, and_false, false_and, or_false, false_or, or_true, true_or, List.getD_cons_zero, List.getD_cons_succ, List.length_cons, List.length_nil, List.cons_append, List.nil_append, Nat.reduceAdd, Nat.reduceEqDiff, reduceCtorEq, Bool.not_true, Bool.not_false, Bool.true_and, Bool.and_true, Bool.false_and, Bool.and_false, Bool.or_true, Bool.true_or, Bool.or_false, Bool.false_or, Bool.false_eq_true, Bool.true_eq_false, int_n, bool_n, list_n, Sc.str_s, Int.reduceEq, Int.reduceLT, Int.reduceLE, Int.reduceNe, decide_true, decide_false, decide_not, eq_self, Classical.not_not, List.getElem?_cons_zero, List.getElem?_cons_succ, beq_self_eq_true, bne_self_eq_false]
      simp only [Int.natCast_nonneg, bne_iff_ne, beq_iff_eq, ne_eq, decide_eq_true_eq, Bool.and_eq_true, Bool.or_eq_true, Bool.not_eq_true', decide_eq_false_iff_not, beq_eq_false_iff_ne, bne_eq_false_iff_eq, not_true_eq_false, not_false_eq_true, if_true, if_false, reduceIte, and_true, true_and, and_false, false_and, or_false, false_or, or_true, true_or, List.getD_cons_zero, List.getD_cons_succ, List.length_cons, List.length_nil, List.cons_append, List.nil_append, Nat.reduceAdd, Nat.reduceEqDiff, reduceCtorEq, Bool.not_true, Bool.not_false, Bool.true_and, Bool.and_true, Bool.false_and, Bool.and_false, Bool.or_true, Bool.true_or, Bool.or_false, Bool.false_or, Bool.false_eq_true, Bool.true_eq_false, int_n, bool_n, list_n, Sc.str_s, Int.reduceEq, Int.reduceLT, Int.reduceLE, Int.reduceNe, decide_true, decide_false, decide_not, eq_self, Classical.not_not, List.getElem?_cons_zero, List.getElem?_cons_succ, beq_self_eq_true, bne_self_eq_false] at hr
      simp only [l1, hr, Int.natCast_nonneg, bne_iff_ne, beq_iff_eq, ne_eq, decide_eq_true_eq, Bool.and_eq_true, Bool.or_eq_true, Bool.not_eq_true', decide_eq_false_iff_not, beq_eq_false_iff_ne, bne_eq_false_iff_eq, not_true_eq_false, not_false_eq_true, if_true, if_false, reduceIte, and_true, true_and, and_false, false_and, or_false, false_or, or_true, true_or, List.getD_cons_zero, List.getD_cons_succ, List.length_cons, List.length_nil, List.cons_append, List.nil_append, Nat.reduceAdd, Nat.reduceEqDiff, reduceCtorEq, Bool.not_true, Bool.not_false, Bool.true_and, Bool.and_true, Bool.false_and, Bool.and_false, Bool.or_true, Bool.true_or, Bool.or_false, Bool.false_or, Bool.false_eq_true, Bool.true_eq_false, int_n, bool_n, list_n, Sc.str_s, Int.reduceEq, Int.reduceLT, Int.reduceLE, Int.reduceNe, decide_true, decide_false, decide_not, eq_self, Classical.not_not, List.getElem?_cons_zero, List.getElem?_cons_succ, beq_self_eq_true, bne_self_eq_false]
    · rw [hb] at hr
      simp only [k1, hi, hw, a, l1, l2, l3, hb, Int.natCast_nonneg, bne_iff_ne, beq_iff_eq, ne_eq, decide_eq_true_eq, Bool.and_eq_true, Bool.or_eq_true, Bool.not_eq_true', decide_eq_false_iff_not, beq_eq_false_iff_ne, bne_eq_false_iff_eq, not_true_eq_false, not_false_eq_true, if_true, if_false, reduceIte, and_true, true_and, and_false, false_and, or_false, false_or, or_true, true_or, List.getD_cons_zero, List.getD_cons_succ, List.length_cons, List.length_nil, List.cons_append, List.nil_append, Nat.reduceAdd, Nat.reduceEqDiff, reduceCtorEq, Bool.not_true, Bool.not_false, Bool.true_and, Bool.and_true, Bool.false_and, Bool.and_false, Bool.or_true, Bool.true_or, Bool.or_false, Bool.false_or, Bool.false_eq_true, Bool.true_eq_false, int_n, bool_n, list_n, Sc.str_s, Int.reduceEq, Int.reduceLT, Int.reduceLE, Int.reduceNe, decide_true, decide_false, decide_not, eq_self, Classical.not_not, List.getElem?_cons_zero, List.getElem?_cons_succ, beq_self_eq_true, bne_self_eq_false]
      simp only [Int.natCast_nonneg, bne_iff_ne, beq_iff_eq, ne_eq, decide_eq_true_eq, Bool.and_eq_true, Bool.or_eq_true, Bool.not_eq_true', decide_eq_false_iff_not, beq_eq_false_iff_ne, bne_eq_false_iff_eq, not_true_eq_false, not_false_eq_true, if_true, if_false, reduceIte, and_true, true_and, and_false, false_and, or_false, false_or, or_true, true_or, List.getD_cons_zero, List.getD_cons_succ, List.length_cons, List.length_nil, List.cons_append, List.nil_append, Nat.reduceAdd, Nat.reduceEqDiff, reduceCtorEq, Bool.not_true, Bool.not_false, Bool.true_and, Bool.and_true, Bool.false_and, Bool.and_false, Bool.or_true, Bool.true_or, Bool.or_false, Bool.false_or, Bool.false_eq_true, Bool.true_eq_false, int_n, bool_n, list_n, Sc.str_s, Int.reduceEq, Int.reduceLT, Int.reduceLE, Int.reduceNe, decide_true, decide_false, decide_not, eq_self, Classical.not_not, List.getElem?_cons_zero, List.getElem?_cons_succ, beq_self_eq_true, bne_self_eq_false] at hr
      simp only [l1, hr, Int.natCast_nonneg, bne_iff_ne, beq_iff_eq, ne_eq, decide_eq_true_eq, Bool.and_eq_true, Bool.or_eq_true, Bool.not_eq_true', decide_eq_false_iff_not, beq_eq_false_iff_ne, bne_eq_false_iff_eq, not_true_eq_false, not_false_eq_true, if_true, if_false, reduceIte, and_true, true_and, and_false, false_and, or_false, false_or, or_true, true_or, List.getD_cons_zero, List.getD_cons_succ, List.length_cons, List.length_nil, List.cons_append, List.nil_append, Nat.reduceAdd, Nat.reduceEqDiff, reduceCtorEq, Bool.not_true, Bool.not_false, Bool.true_and, Bool.and_true, Bool.false_and, Bool.and_false, Bool.or_true, Bool.true_or, Bool.or_false, Bool.false_or, Bool.false_eq_true, Bool.true_eq_false, int_n, bool_n, list_n, Sc.str_s, Int.reduceEq, Int.reduceLT, Int.reduceLE, Int.reduceNe, decide_true, decide_false, decide_not, eq_self, Classical.not_not, List.getElem?_cons_zero, List.getElem?_cons_succ, beq_self_eq_true, bne_self_eq_false]
  · have ej : j = ps.length := by omega
    subst ej
    rw [List.take_length]
    have k1 : ¬ ((ps.length : Int) < ps.length) := by omega
    have fm : ∀ q ∈ (ps.map fun p => toP9 (mv k p)), FP q := fun q hq => by
      obtain ⟨p, _, rfl⟩ := List.mem_map.1 hq
      exact toP9_FP fun r hr => addO_fit hr
    have a := fof49_F ps hp (by omega)
    have b := fof49_F ps.reverse (fun p h => hp p (List.mem_reverse.1 h)) (by rw [List.length_reverse]; omega)
    have c := fof49_F (ps.map fun p => toP9 (mv k p)) fm (by rw [List.length_map]; omega)
    rw [List.map_map] at c
    have ec : ps.map (pt ∘ fun p => toP9 (mv k p)) = ps.map fun p => pt (toP9 (mv k p)) := rfl
    rw [ec] at c
    generalize ps.reverse.map pt = L1 at *
    generalize hL2 : (ps.map fun p => pt (toP9 (mv k p))) = L2 at *
    rcases ofB_cases ps with ⟨e, he, ha⟩ | ⟨m, v, hm, hv, _, _, hc, ha⟩
    · obtain ⟨y1, y2, y3, y4, y5, eb⟩ := ofB_form9 ps.reverse
      obtain ⟨z1, z2, z3, z4, z5, ez⟩ := ofB_form9 (ps.map fun p => toP9 (mv k p))
      rw [ha] at a
      rw [eb] at b
      rw [ez] at c
      have d := fadd_O (p := (0, 0)) ⟨⟨by simp only; omega, by simp only; omega⟩, ⟨by simp only; omega, by simp only; omega⟩⟩ fk
      rw [enc_toP9] at d
      simp only at d
      simp only [k1, a, b, c, d, he, Int.natCast_nonneg, bne_iff_ne, beq_iff_eq, ne_eq, decide_eq_true_eq, Bool.and_eq_true, Bool.or_eq_true, Bool.not_eq_true', decide_eq_false_iff_not, beq_eq_false_iff_ne, bne_eq_false_iff_eq, not_true_eq_false, not_false_eq_true, if_true, if_false, reduceIte, and_true, true_and, and_false, false_and, or_false, false_or, or_true, true_or, List.getD_cons_zero, List.getD_cons_succ, List.length_cons, List.length_nil, List.cons_append, List.nil_append, Nat.reduceAdd, Nat.reduceEqDiff, reduceCtorEq, Bool.not_true, Bool.not_false, Bool.true_and, Bool.and_true, Bool.false_and, Bool.and_false, Bool.or_true, Bool.true_or, Bool.or_false, Bool.false_or, Bool.false_eq_true, Bool.true_eq_false, int_n, bool_n, list_n, Sc.str_s, Int.reduceEq, Int.reduceLT, Int.reduceLE, Int.reduceNe, decide_true, decide_false, decide_not, eq_self, Classical.not_not, List.getElem?_cons_zero, List.getElem?_cons_succ, beq_self_eq_true, bne_self_eq_false]
    rw [ha] at a
    have fM := mean50O_fit hm
    have d := fadd_O (FP_pr fM) fk
    rw [valP_pr fM, enc_toP9] at d
    simp only [pr] at d
    rcases ofB_cases (ps.map fun p => toP9 (mv k p)) with ⟨e2, he2, h2⟩ | ⟨n, u, hn, hu, _, _, hd, h2⟩
    · rw [h2] at c
      rcases ofB_cases ps.reverse with ⟨e3, he3, h3⟩ | ⟨n3, u3, hn3, hu3, _, _, hd3, h3⟩
      · rw [h3] at b
        cases (ps.all fun p => (mv k p).isSome) <;> (simp only [k1, a, b, c, d, he2, he3, Int.natCast_nonneg, bne_iff_ne, beq_iff_eq, ne_eq, decide_eq_true_eq, Bool.and_eq_true, Bool.or_eq_true, Bool.not_eq_true', decide_eq_false_iff_not, beq_eq_false_iff_ne, bne_eq_false_iff_eq, not_true_eq_false, not_false_eq_true, if_true, if_false, reduceIte, and_true, true_and, and_false, false_and, or_false, false_or, or_true, true_or, List.getD_cons_zero, List.getD_cons_succ, List.length_cons, List.length_nil, List.cons_append, List.nil_append, Nat.reduceAdd, Nat.reduceEqDiff, reduceCtorEq, Bool.not_true, Bool.not_false, Bool.true_and, Bool.and_true, Bool.false_and, Bool.and_false, Bool.or_true, Bool.true_or, Bool.or_false, Bool.false_or, Bool.false_eq_true, Bool.true_eq_false, int_n, bool_n, list_n, Sc.str_s, Int.reduceEq, Int.reduceLT, Int.reduceLE, Int.reduceNe, decide_true, decide_false, decide_not, eq_self, Classical.not_not, List.getElem?_cons_zero, List.getElem?_cons_succ, beq_self_eq_true, bne_self_eq_false])
      · obtain ⟨rfl, rfl⟩ := rev_eq hm hv hn3 hu3
        rw [h3, List.length_reverse] at b
        cases (ps.all fun p => (mv k p).isSome) <;> (simp only [k1, a, b, c, d, he2, Int.natCast_nonneg, bne_iff_ne, beq_iff_eq, ne_eq, decide_eq_true_eq, Bool.and_eq_true, Bool.or_eq_true, Bool.not_eq_true', decide_eq_false_iff_not, beq_eq_false_iff_ne, bne_eq_false_iff_eq, not_true_eq_false, not_false_eq_true, if_true, if_false, reduceIte, and_true, true_and, and_false, false_and, or_false, false_or, or_true, true_or, List.getD_cons_zero, List.getD_cons_succ, List.length_cons, List.length_nil, List.cons_append, List.nil_append, Nat.reduceAdd, Nat.reduceEqDiff, reduceCtorEq, Bool.not_true, Bool.not_false, Bool.true_and, Bool.and_true, Bool.false_and, Bool.and_false, Bool.or_true, Bool.true_or, Bool.or_false, Bool.false_or, Bool.false_eq_true, Bool.true_eq_false, int_n, bool_n, list_n, Sc.str_s, Int.reduceEq, Int.reduceLT, Int.reduceLE, Int.reduceNe, decide_true, decide_false, decide_not, eq_self, Classical.not_not, List.getElem?_cons_zero, List.getElem?_cons_succ, beq_self_eq_true, bne_self_eq_false])
    · rw [h2, List.length_map] at c
      have fin : (ps.all fun p => (mv k p).isSome) = true → addO (some m) (valP (k, 1)) = some n ∧ u = v := fun h => mov_eq h hm hv hn hu
      rcases ofB_cases ps.reverse with ⟨e3, he3, h3⟩ | ⟨n3, u3, hn3, hu3, _, _, hd3, h3⟩
      · rw [h3] at b
        cases hb : (ps.all fun p => (mv k p).isSome)
        · simp only [k1, a, b, c, d, he3, hb, Int.natCast_nonneg, bne_iff_ne, beq_iff_eq, ne_eq, decide_eq_true_eq, Bool.and_eq_true, Bool.or_eq_true, Bool.not_eq_true', decide_eq_false_iff_not, beq_eq_false_iff_ne, bne_eq_false_iff_eq, not_true_eq_false, not_false_eq_true, if_true, if_false, reduceIte, and_true, true_and, and_false, false_and, or_false, false_or, or_true, true_or, List.getD_cons_zero, List.getD_cons_succ, List.length_cons, List.length_nil, List.cons_append, List.nil_append, Nat.reduceAdd, Nat.reduceEqDiff, reduceCtorEq, Bool.not_true, Bool.not_false, Bool.true_and, Bool.and_true, Bool.false_and, Bool.and_false, Bool.or_true, Bool.true_or, Bool.or_false, Bool.false_or, Bool.false_eq_true, Bool.true_eq_false, int_n, bool_n, list_n, Sc.str_s, Int.reduceEq, Int.reduceLT, Int.reduceLE, Int.reduceNe, decide_true, decide_false, decide_not, eq_self, Classical.not_not, List.getElem?_cons_zero, List.getElem?_cons_succ, beq_self_eq_true, bne_self_eq_false]
        · obtain ⟨g1, rfl⟩ := fin hb
          rw [g1] at d
          simp only [toP9, pr, Option.isSome] at d
          simp only [k1, a, b, c, d, he3, hb, Int.natCast_nonneg, bne_iff_ne, beq_iff_eq, ne_eq, decide_eq_true_eq, Bool.and_eq_true, Bool.or_eq_true, Bool.not_eq_true', decide_eq_false_iff_not, beq_eq_false_iff_ne, bne_eq_false_iff_eq, not_true_eq_false, not_false_eq_true, if_true, if_false, reduceIte, and_true, true_and, and_false, false_and, or_false, false_or, or_true, true_or, List.getD_cons_zero, List.getD_cons_succ, List.length_cons, List.length_nil, List.cons_append, List.nil_append, Nat.reduceAdd, Nat.reduceEqDiff, reduceCtorEq, Bool.not_true, Bool.not_false, Bool.true_and, Bool.and_true, Bool.false_and, Bool.and_false, Bool.or_true, Bool.true_or, Bool.or_false, Bool.false_or, Bool.false_eq_true, Bool.true_eq_false, int_n, bool_n, list_n, Sc.str_s, Int.reduceEq, Int.reduceLT, Int.reduceLE, Int.reduceNe, decide_true, decide_false, decide_not, eq_self, Classical.not_not, List.getElem?_cons_zero, List.getElem?_cons_succ, beq_self_eq_true, bne_self_eq_false]
      · obtain ⟨rfl, rfl⟩ := rev_eq hm hv hn3 hu3
        rw [h3, List.length_reverse] at b
        cases hb : (ps.all fun p => (mv k p).isSome)
        · simp only [k1, a, b, c, d, hb, Int.natCast_nonneg, bne_iff_ne, beq_iff_eq, ne_eq, decide_eq_true_eq, Bool.and_eq_true, Bool.or_eq_true, Bool.not_eq_true', decide_eq_false_iff_not, beq_eq_false_iff_ne, bne_eq_false_iff_eq, not_true_eq_false, not_false_eq_true, if_true, if_false, reduceIte, and_true, true_and, and_false, false_and, or_false, false_or, or_true, true_or, List.getD_cons_zero, List.getD_cons_succ, List.length_cons, List.length_nil, List.cons_append, List.nil_append, Nat.reduceAdd, Nat.reduceEqDiff, reduceCtorEq, Bool.not_true, Bool.not_false, Bool.true_and, Bool.and_true, Bool.false_and, Bool.and_false, Bool.or_true, Bool.true_or, Bool.or_false, Bool.false_or, Bool.false_eq_true, Bool.true_eq_false, int_n, bool_n, list_n, Sc.str_s, Int.reduceEq, Int.reduceLT, Int.reduceLE, Int.reduceNe, decide_true, decide_false, decide_not, eq_self, Classical.not_not, List.getElem?_cons_zero, List.getElem?_cons_succ, beq_self_eq_true, bne_self_eq_false]
        · obtain ⟨g1, rfl⟩ := fin hb
          rw [g1] at d
          simp only [toP9, pr, Option.isSome] at d
          simp only [k1, a, b, c, d, hb, Int.natCast_nonneg, bne_iff_ne, beq_iff_eq, ne_eq, decide_eq_true_eq, Bool.and_eq_true, Bool.or_eq_true, Bool.not_eq_true', decide_eq_false_iff_not, beq_eq_false_iff_ne, bne_eq_false_iff_eq, not_true_eq_false, not_false_eq_true, if_true, if_false, reduceIte, and_true, true_and, and_false, false_and, or_false, false_or, or_true, true_or, List.getD_cons_zero, List.getD_cons_succ, List.length_cons, List.length_nil, List.cons_append, List.nil_append, Nat.reduceAdd, Nat.reduceEqDiff, reduceCtorEq, Bool.not_true, Bool.not_false, Bool.true_and, Bool.and_true, Bool.false_and, Bool.and_false, Bool.or_true, Bool.true_or, Bool.or_false, Bool.false_or, Bool.false_eq_true, Bool.true_eq_false, int_n, bool_n, list_n, Sc.str_s, Int.reduceEq, Int.reduceLT, Int.reduceLE, Int.reduceNe, decide_true, decide_false, decide_not, eq_self, Classical.not_not, List.getElem?_cons_zero, List.getElem?_cons_succ, beq_self_eq_true, bne_self_eq_false]

namespace intervalMoves
theorem own : ownKnob Tryd.prog.godebug = none := by kernel_rfl
theorem laidOut : laidOutB Tryd.prog = true := by kernel_rfl
theorem door_met (os : Os) (args : Array Value) : laidMetH Tryd.prog Rows.intervalMovesRow.laid ((World.doorLaid Tryd.prog 14 os).forCall (fun _ _ => 0) ⟨#[], args, []⟩).memory :=
  laidMetH_of_parts3 (fuel := 8) (laidMet_of_run' 8 (by kernel_rfl) (by kernel_rfl)) (by kernel_rfl) (by kernel_rfl)
set_option maxRecDepth 100000 in
theorem lifted (os : Os) (started : os.Started) (H : Type) (enc : TypeId × Value → H) :
    ReturnsInHanded {} Tryd.checked os 6 .any (fun w args => (Rows.intervalMovesSpec.pre enc Tryd.prog Tryd.f6 [] false w args ∧ laidMetH Tryd.prog Rows.intervalMovesRow.laid w) ∧ sizedMet enc Tryd.prog Tryd.f6 (OpenSpec.ofChange Rows.intervalMovesSpec) false w args) (Rows.intervalMovesSpec.post enc Tryd.prog Tryd.f6 false true false false) := by
  refine returnsInHanded_of_change_and (C := Tryd.checked) (X := fun w _ => laidMetH Tryd.prog Rows.intervalMovesRow.laid w) (fun _ _ _ hh h => h.of_heap hh) own started (by kernel_rfl) Tryd.func6
    (ChangeSpec.witness_shaped (enc := enc) (C := Tryd.checked) (os := os) (X := fun w _ => laidMetH Tryd.prog Rows.intervalMovesRow.laid w) false (World.doorLaid Tryd.prog 14 os) #[.slice none 0 0, .int .i64 0] 8 rfl (World.shaped_of_RefB (by kernel_rfl) (by kernel_rfl)) (by kernel_rfl) (by kernel_rfl) (by kernel_rfl) (door_met os _)) ?_
  intro W base args ds gs before hval0 hW _ _ hL _
  have hval : ∀ (j : Nat) t v, Tryd.f6.params[j]? = some t → args[j]? = some v → Value.okWide Tryd.prog W .any base t v := hval0
  have hW' := hW
  obtain ⟨p, q, hA0, hV, rfl, hfz, hnd⟩ := hW
  have hA : DataW.TrodAll enc Tryd.prog W 0 (fun _ => true) true Tryd.f6.params.toList args.toList ds p := hA0
  rw [Tryd.params6] at hA hval
  obtain ⟨v0, vs0, d0, ds0, p0, q0, hargs, rfl, rfl, h0, r0⟩ := trodAll_cons hA
  obtain ⟨v1, vs1, d1, ds1, p1, q1, rfl, rfl, rfl, h1, r1⟩ := trodAll_cons r0
  obtain ⟨rfl, rfl, rfl⟩ := trodAll_nil r1
  obtain rfl : args = #[v0, v1] := by cases args; simp_all
  obtain ⟨rfl, rfl⟩ := trodVars_none hV
  have k0 := h0
  have lt0 : ∀ x ∈ p0, x.block < W.heap.size := by obtain ⟨m, hm⟩ := k0; exact DataW.trod_lt m _ _ _ hm
  have ok0 := hval 0 22 v0 rfl rfl
  have k1 := h1
  have lt1 : ∀ x ∈ p1, x.block < W.heap.size := by obtain ⟨m, hm⟩ := k1; exact DataW.trod_lt m _ _ _ hm
  have ok1 := hval 1 3 v1 rfl rfl
  have hG := glob_of_laid hL
  obtain ⟨ps, i0, _, g0⟩ := open_pairs Tryd.underlying22 (by kernel_rfl) (by kernel_rfl) ok0 h0
  obtain ⟨y1, ⟨n, rfl, wn⟩, g1⟩ := open_a (k := .int .i64) (by kernel_rfl) ok1 h1
  clear hA0 hval0
  refine (law_call k_simulatorlaw49_IntervalMoves (Tryd.call6 _ _) (vs := [v0, v1]) (args2 g0 g1) (moves_F ps n i0 (wf_i64 wn)) rfl hG).mono fun e W' ⟨he, bel⟩ => ?_
  subst he
  exact ⟨_, rfl, _, _, _, [], _, [], hW', trodAll_mk1 (shut_bool Tryd.underlying4 _), (trodAll_cons_mk (Below.trod laidOut (by kernel_rfl) (of_decide_eq_true (by kernel_rfl)) k0 bel lt0) (trodAll_cons_mk (Below.trod laidOut (by kernel_rfl) (of_decide_eq_true (by kernel_rfl)) k1 bel lt1) trodAll_mk0)), rfl, bel.frame _, fun h => by cases h⟩
theorem over : Rows.intervalMovesRow.holds Tryd.pinned (OpenSpec.ofChange Rows.intervalMovesSpec) :=
  OpenClaim.holds_of_wide 6 Tryd.f6 rfl rfl rfl rfl rfl rfl rfl ⟨rfl, rfl, rfl, rfl, rfl⟩ rfl rfl rfl rfl rfl (by kernel_rfl) Tryd.func6 (by kernel_rfl)
    (of_decide_eq_true (by kernel_rfl)) (by unfold Func.isWrapper; first | (rw [if_pos (by decide +kernel)]; kernel_rfl) | (rw [if_neg (by decide +kernel)]; exact ⟨rfl, rfl⟩))
    (fun os started H enc _ => lifted os started H enc)
theorem proved : Rows.IntervalMovesCardSaid :=
  Claim7.holds_tied_plain_at .later [] [.data] true (true, "3c86034e67c5616d38ff392a8ba0a522a1e631b0cb48adbc1b8530354a08ea7b") false over (fun _ h => by cases h) (by kernel_rfl) (fun _ h => by cases h) intervalMoves_row_tie rfl ⟨rfl, rfl⟩ (by kernel_rfl) rfl
    (fun f fn hf hfn => by
      obtain rfl : f = 6 := Option.some.inj ((show Tryd.prog.funcNamed Rows.intervalMovesRow.func = some 6 by kernel_rfl).symm.trans hf) |>.symm
      obtain rfl : fn = Tryd.f6 := (Option.some.inj (Tryd.func6.symm.trans hfn)).symm
      refine ⟨by kernel_rfl, fun j t ht => ?_⟩
      have hall : (Tryd.f6.params.toList.all fun t => !Tryd.prog.wantsStandIn t) = true := by kernel_rfl
      have hm : t ∈ Tryd.f6.params.toList := Array.mem_toList_iff.2 (Array.mem_of_getElem? ht)
      exact (by simpa using List.all_eq_true.1 hall t hm : Tryd.prog.wantsStandIn t = false))
    (by kernel_rfl)
end intervalMoves

end Go.Proofs.YtchnhfnnlkncdaaDoor
