/-
  IntervalLeast: the half is the least one that the chapter's inequation allows. No condition. 
-/
import Derived.Test.YtchnhfnnlkncdaaDoorRows
import Derived.Test.YtchnhfnnlkncdaaDoorCards
import Derived.Test.YtchnhfnnlkncdaaDoorTie
import Derived.SevenTiedAt
import Derived.LaidMore
import Derived.OpenShut
import Derived.Stop.Joined
import Derived.Test.YtchnhfnnlkncdaaDoorOpnR
import Derived.Test.YtchnhfnnlkncdaaDoorA49
import Derived.Test.YtchnhfnnlkncdaaDoorM49c
import Derived.Test.YtchnhfnnlkncdaaDoorFlI
import Derived.Test.YtchnhfnnlkncdaaDoorRfB
namespace Go.Proofs.YtchnhfnnlkncdaaDoor
open Go.ChangeShapes Go.WideShapes Go.ChangeAt Go.RowKit
set_option linter.unusedSimpArgs false

theorem list_n (z : List Sc) : (Sc.l z).list = z := id rfl
theorem ceil_le {w d k : Nat} (hd : 0 < d) : ceilD w d ≤ k ↔ w ≤ k * d := by
  have e := Nat.div_add_mod w d
  have l := Nat.mod_lt w hd
  unfold ceilD
  generalize w / d = a at *
  generalize w % d = r at *
  subst e
  split
  · rename_i hr
    subst hr
    constructor
    · intro h; have := Nat.mul_le_mul_left d h; rw [Nat.mul_comm k d]; omega
    · intro h
      refine Nat.not_lt.1 fun c => ?_
      have := Nat.mul_le_mul_left d (show k + 1 ≤ a from c)
      rw [Nat.mul_add, Nat.mul_one] at this
      rw [Nat.mul_comm k d] at h; omega
  · rename_i hr
    constructor
    · intro h
      have := Nat.mul_le_mul_left d h
      rw [Nat.mul_add, Nat.mul_one] at this
      rw [Nat.mul_comm k d]; omega
    · intro h
      refine Nat.not_lt.1 fun c => ?_
      have := Nat.mul_le_mul_left d (show k ≤ a by omega)
      rw [Nat.mul_comm k d] at h; omega
theorem up_law {N W a D q h : Int} (hN : 2 ≤ N) (hD : 0 < D) (K : a * (N * (N - 1)) = W * D) (x : q * q * a ≤ h * h * (N * D)) : q * q * W ≤ h * h * (N * N * (N - 1)) := by
  have p : 0 ≤ N * (N - 1) := Int.mul_nonneg (by omega) (by omega)
  have y := Int.mul_le_mul_of_nonneg_right x p
  refine Int.le_of_mul_le_mul_right (a := D) ?_ hD
  have e1 : q * q * a * (N * (N - 1)) = q * q * W * D := by grind
  have e2 : h * h * (N * D) * (N * (N - 1)) = h * h * (N * N * (N - 1)) * D := by grind
  omega
theorem dn_law {N W a D q h : Int} (hN : 2 ≤ N) (hD : 0 < D) (K : a * (N * (N - 1)) = W * D) (x : h * h * (N * D) < q * q * a) : h * h * (N * N * (N - 1)) < q * q * W := by
  have p : 0 < N * (N - 1) := Int.mul_pos (by omega) (by omega)
  have y := Int.mul_lt_mul_of_pos_right x p
  refine Int.lt_of_mul_lt_mul_right (a := D) ?_ (by omega)
  have e1 : q * q * a * (N * (N - 1)) = q * q * W * D := by grind
  have e2 : h * h * (N * D) * (N * (N - 1)) = h * h * (N * N * (N - 1)) * D := by grind
  omega
theorem g_bound {N W q g : Int} (hN : 2 ≤ N) (hW : W ≤ N * N * 1000000) (q1 : 1 ≤ q) (q2 : q ≤ 12706) (hg : 0 ≤ g) (x : g * g * (N * N * (N - 1)) < q * q * W) : g < 12706000 := by
  refine Int.not_le.1 fun c => ?_
  have g2 : 12706000 * 12706000 ≤ g * g := Int.mul_le_mul c c (by omega) hg
  have qq : q * q ≤ 12706 * 12706 := Int.mul_le_mul q2 q2 (by omega) (by omega)
  have q0 : 0 ≤ q * q := Int.mul_nonneg (by omega) (by omega)
  have n0 : 0 ≤ N * N := Int.mul_nonneg (by omega) (by omega)
  have n1 : N * N * 1 ≤ N * N * (N - 1) := Int.mul_le_mul_of_nonneg_left (by omega) n0
  have a1 := Int.mul_le_mul_of_nonneg_left hW q0
  have a2 : q * q * (N * N * 1000000) ≤ 12706 * 12706 * (N * N * 1000000) := Int.mul_le_mul_of_nonneg_right qq (by omega)
  have a3 : 12706000 * 12706000 * (N * N * (N - 1)) ≤ g * g * (N * N * (N - 1)) := Int.mul_le_mul_of_nonneg_right g2 (by omega)
  generalize N * N * (N - 1) = X at *
  generalize N * N = Y at *
  omega
theorem sumQ_nn : ∀ xs : List Int, 0 ≤ sumQ xs
  | [] => by simp [sumQ]
  | x :: xs => by have := sumQ_nn xs; have := sq_pos x; simp only [sumQ]; omega
theorem least_nums {xs : List Int} (h2 : 2 ≤ xs.length) (hx : ∀ x ∈ xs, -1000 ≤ x ∧ x ≤ 1000) {q h : Nat} (hq : (quantV ((xs.length : Int) - 1)).1 = q) (q1 : 1 ≤ q) (q2 : q ≤ 12706)
    (eh : hOf xs.length (Rat.divInt (sumQ (cI xs)) (xs.length * xs.length * (xs.length - 1))) = h) :
    ((q : Int) * q * varN xs ≤ (h : Int) * h * ((xs.length : Int) * xs.length * (xs.length - 1))) ∧ (0 < h → ((h : Int) - 1) * (h - 1) * ((xs.length : Int) * xs.length * (xs.length - 1)) < (q : Int) * q * varN xs) ∧ h ≤ 12706000 := by
  have d1 : (0 : Int) < xs.length * xs.length := Int.mul_pos (by omega) (by omega)
  have d3 : (0 : Int) < xs.length * xs.length * (xs.length - 1) := Int.mul_pos d1 (by omega)
  have vn : (Rat.divInt (sumQ (cI xs)) (xs.length * xs.length * (xs.length - 1))).num * (xs.length * xs.length * (xs.length - 1)) = sumQ (cI xs) * (Rat.divInt (sumQ (cI xs)) (xs.length * xs.length * (xs.length - 1))).den :=
    (Rat.divInt_eq_divInt_iff (Int.ne_of_gt (by have := (Rat.divInt (sumQ (cI xs)) (xs.length * xs.length * (xs.length - 1))).den_pos; omega)) (by omega)).1 (Rat.num_divInt_den _)
  have sp : 0 ≤ sumQ (cI xs) := sumQ_nn _
  have vp : 0 ≤ (Rat.divInt (sumQ (cI xs)) (xs.length * xs.length * (xs.length - 1))).num := by
    refine Int.not_lt.1 fun c => ?_
    have := Int.mul_neg_of_neg_of_pos c d3
    have : 0 ≤ sumQ (cI xs) * (Rat.divInt (sumQ (cI xs)) (xs.length * xs.length * (xs.length - 1))).den := Int.mul_nonneg sp (by omega)
    omega
  have Dp := (Rat.divInt (sumQ (cI xs)) (xs.length * xs.length * (xs.length - 1))).den_pos
  unfold hOf at eh
  rw [hq, Int.toNat_natCast] at eh
  obtain ⟨s1, s2, s3⟩ := hN_spec (cm xs.length q (Rat.divInt (sumQ (cI xs)) (xs.length * xs.length * (xs.length - 1))))
  rw [eh] at s1 s2 s3
  unfold cm at s2 s3
  clear eh sp
  generalize Rat.divInt (sumQ (cI xs)) (xs.length * xs.length * (xs.length - 1)) = V at *
  rw [sq_varN] at vn
  have hW : varN xs ≤ xs.length * xs.length * 1000000 := by
    obtain ⟨_, _, _, b⟩ := sum_bound (B := 1000) (by omega) xs hx
    have c := sq_pos (sumI xs)
    have := Int.mul_le_mul_of_nonneg_left b (show (0 : Int) ≤ xs.length by omega)
    unfold varN
    have e : (xs.length : Int) * (xs.length * (1000 * 1000)) = xs.length * xs.length * 1000000 := by grind
    omega
  have eN : ((xs.length : Nat) : Int) = xs.length := rfl
  have hN2 : (2 : Int) ≤ xs.length := by omega
  generalize varN xs = W at *
  have K : V.num * ((xs.length : Int) * (xs.length - 1)) = W * V.den := by
    refine Int.eq_of_mul_eq_mul_left (a := (xs.length : Int)) (by omega) ?_
    grind
  have dp : 0 < xs.length * V.den := Nat.mul_pos (by omega) Dp
  have e0 : ((V.num.toNat : Nat) : Int) = V.num := Int.toNat_of_nonneg vp
  have down : 0 < h → ((h : Int) - 1) * (h - 1) * ((xs.length : Int) * xs.length * (xs.length - 1)) < (q : Int) * q * W := by
    intro hp
    refine dn_law hN2 (by omega) K ?_
    have a := s2 (h - 1) (by omega)
    have b : ¬ q * q * V.num.toNat ≤ (h - 1) * (h - 1) * (xs.length * V.den) := fun c => by
      have := (ceil_le dp).2 c
      omega
    have b2 : (h - 1) * (h - 1) * (xs.length * V.den) < q * q * V.num.toNat := by omega
    have b3 : (((h - 1) * (h - 1) * (xs.length * V.den) : Nat) : Int) < ((q * q * V.num.toNat : Nat) : Int) := by exact_mod_cast b2
    rw [Int.natCast_mul, Int.natCast_mul, Int.natCast_mul, Int.natCast_mul, Int.natCast_mul, e0] at b3
    have e1 : ((h - 1 : Nat) : Int) = (h : Int) - 1 := by omega
    rw [e1] at b3
    exact b3
  have hb : h ≤ 12706000 := by
    refine Nat.not_lt.1 fun c => ?_
    have := g_bound hN2 hW (by omega) (by omega) (g := (h : Int) - 1) (by omega) (down (by omega))
    omega
  refine ⟨?_, down, hb⟩
  refine up_law hN2 (by omega) K ?_
  have a := (ceil_le dp).1 (s3 (by omega))
  have b3 : ((q * q * V.num.toNat : Nat) : Int) ≤ ((h * h * (xs.length * V.den) : Nat) : Int) := by exact_mod_cast a
  rw [Int.natCast_mul, Int.natCast_mul, Int.natCast_mul, Int.natCast_mul, Int.natCast_mul, e0] at b3
  exact b3
theorem half_parts (h : Nat) : ∃ c : Nat, 1 ≤ c ∧ (Rat.divInt h 1000).den * c = 1000 ∧ (Rat.divInt h 1000).num * c = h ∧ 0 ≤ (Rat.divInt h 1000).num := by
  have g1 : Int.gcd 1000 h ∣ 1000 := Int.gcd_dvd_natAbs_left 1000 h
  have g2 : ((Int.gcd 1000 h : Nat) : Int) ∣ h := Int.gcd_dvd_right 1000 h
  refine ⟨Int.gcd 1000 h, Nat.pos_of_dvd_of_pos g1 (by omega), ?_, ?_, ?_⟩
  · rw [Rat.den_divInt, if_neg (by omega)]
    exact Nat.div_mul_cancel g1
  · rw [Rat.num_divInt]
    have : Int.sign 1000 = 1 := rfl
    rw [this, Int.one_mul]
    exact Int.ediv_mul_cancel g2
  · rw [Rat.num_divInt]
    have : Int.sign 1000 = 1 := rfl
    rw [this, Int.one_mul]
    exact Int.ediv_nonneg (by omega) (by omega)
theorem of49 (x y : Int) : k_simulatorlaw49_of.F [.i x, .i y] = some [.i x, .i y] := by
  simp only [k_simulatorlaw49_of_F, tk_simulatorlaw49_of, Go.Proofs.YtchnhfnnlkncdaaDoor.T.den, Ex.ev, U1.ev, U2.ev, U3.ev, gam, List.map, List.getD_cons_zero, List.getD_cons_succ, List.length, List.cons_append, List.nil_append, if_true, int_n, bool_n, list_n, Sc.str_s, Nat.reduceEqDiff, if_false, List.getElem?_cons_zero, List.getElem?_cons_succ]
theorem least_F (xs : List Int) (hl : xs.length < 340282366920938463463374607431768211456) : k_simulatorlaw49_IntervalLeast.F [.l (xs.map .i)] = some [.b true] := by
  simp only [k_simulatorlaw49_IntervalLeast_F, tk_simulatorlaw49_IntervalLeast, k_interval_Of_f, k_interval_Quantile_f, k_simulatorref02_Of_f, k_simulatorref02_Times_f, k_simulatorref02_Less_f, k_simulatorlaw49_of_f, k_simulatorlaw49_awake_f, awake49, List.length_map, of49, Go.Proofs.YtchnhfnnlkncdaaDoor.T.den, Ex.ev, U1.ev, U2.ev, U3.ev, gam, List.map, List.getD_cons_zero, List.getD_cons_succ, List.length, List.cons_append, List.nil_append, if_true, int_n, bool_n, list_n, Sc.str_s, Nat.reduceEqDiff, if_false, List.getElem?_cons_zero, List.getElem?_cons_succ]
  have conv : ([.l [], .i 0, .i 0, .i 0] : List Sc) = [.l ((wh (xs.take 0)).map pt), .i (sumI (xs.take 0)), .i (sumQ (xs.take 0)), .i ((0 : Nat) : Int)] := rfl
  rw [conv]
  refine loop_rounds (S := Nat) (fun j => [.l ((wh (xs.take j)).map pt), .i (sumI (xs.take j)), .i (sumQ (xs.take j)), .i (j : Int)]) (fun _ => some [.b true]) (fun j => j ≤ xs.length ∧ (0 < j → xs.length ≤ 50) ∧ ∀ x ∈ xs.take j, -1000 ≤ x ∧ x ≤ 1000) (fun j => xs.length - j) ?_ 0 ⟨by omega, by omega, by simp⟩ (by omega)
  rintro j rec ⟨hj, h50, hx⟩ hrec
  by_cases hlt : j < xs.length
  · have k1 : (j : Int) < xs.length := by omega
    have hi := idx_map Sc.i xs j hlt
    by_cases c0 : (50 : Int) < xs.length
    · simp only [k1, c0, Int.natCast_nonneg, bne_iff_ne, beq_iff_eq, ne_eq, decide_eq_true_eq, Bool.and_eq_true, Bool.or_eq_true, Bool.not_eq_true', decide_eq_false_iff_not, beq_eq_false_iff_ne, bne_eq_false_iff_eq, not_true_eq_false, not_false_eq_true, if_true, if_false, reduceIte, and_true, true_and, and_false, false_and, or_false, false_or, or_true, true_or, List.getD_cons_zero, List.getD_cons_succ, List.length_cons, List.length_nil, List.cons_append, List.nil_append, Nat.reduceAdd, Nat.reduceEqDiff, reduceCtorEq, Bool.not_true, Bool.not_false, Bool.true_and, Bool.and_true, Bool.false_and, Bool.and_false, Bool.or_true, Bool.true_or, Bool.or_false, Bool.false_or, Bool.false_eq_true, Bool.true_eq_false, int_n, bool_n, list_n, Sc.str_s, Int.reduceEq, Int.reduceLT, Int.reduceLE, Int.reduceNe, decide_true, decide_false, decide_not, eq_self, Classical.not_not, List.getElem?_cons_zero, List.getElem?_cons_succ, beq_self_eq_true, bne_self_eq_false]
    by_cases c1 : xs[j] < -1000
    · simp only [k1, hi, c0, c1, Int.natCast_nonneg, bne_iff_ne, beq_iff_eq, ne_eq, decide_eq_true_eq, Bool.and_eq_true, Bool.or_eq_true, Bool.not_eq_true', decide_eq_false_iff_not, beq_eq_false_iff_ne, bne_eq_false_iff_eq, not_true_eq_false, not_false_eq_true, if_true, if_false, reduceIte, and_true, true_and, and_false, false_and, or_false, false_or, or_true, true_or, List.getD_cons_zero, List.getD_cons_succ, List.length_cons, List.length_nil, List.cons_append, List.nil_append, Nat.reduceAdd, Nat.reduceEqDiff, reduceCtorEq, Bool.not_true, Bool.not_false, Bool.true_and, Bool.and_true, Bool.false_and, Bool.and_false, Bool.or_true, Bool.true_or, Bool.or_false, Bool.false_or, Bool.false_eq_true, Bool.true_eq_false, int_n, bool_n, list_n, Sc.str_s, Int.reduceEq, Int.reduceLT, Int.reduceLE, Int.reduceNe, decide_true, decide_false, decide_not, eq_self, Classical.not_not, List.getElem?_cons_zero, List.getElem?_cons_succ, beq_self_eq_true, bne_self_eq_false]
    by_cases c2 : 1000 < xs[j]
    · simp only [k1, hi, c0, c1, c2, Int.natCast_nonneg, bne_iff_ne, beq_iff_eq, ne_eq, decide_eq_true_eq, Bool.and_eq_true, Bool.or_eq_true, Bool.not_eq_true', decide_eq_false_iff_not, beq_eq_false_iff_ne, bne_eq_false_iff_eq, not_true_eq_false, not_false_eq_true, if_true, if_false, reduceIte, and_true, true_and, and_false, false_and, or_false, false_or, or_true, true_or, List.getD_cons_zero, List.getD_cons_succ, List.length_cons, List.length_nil, List.cons_append, List.nil_append, Nat.reduceAdd, Nat.reduceEqDiff, reduceCtorEq, Bool.not_true, Bool.not_false, Bool.true_and, Bool.and_true, Bool.false_and, Bool.and_false, Bool.or_true, Bool.true_or, Bool.or_false, Bool.false_or, Bool.false_eq_true, Bool.true_eq_false, int_n, bool_n, list_n, Sc.str_s, Int.reduceEq, Int.reduceLT, Int.reduceLE, Int.reduceNe, decide_true, decide_false, decide_not, eq_self, Classical.not_not, List.getElem?_cons_zero, List.getElem?_cons_succ, beq_self_eq_true, bne_self_eq_false]
    have t : xs.take (j + 1) = xs.take j ++ [xs[j]] := by rw [List.take_add_one, List.getElem?_eq_getElem hlt]; rfl
    have hr := hrec (j + 1) ⟨by omega, fun _ => by omega, fun x h => by
      rw [t, List.mem_append] at h
      rcases h with h | h
      · exact hx x h
      · rw [List.mem_singleton] at h; subst h; omega⟩ (by omega)
    have hw := succ_w (n := xs.length) hlt (by omega)
    have e1 : (wh (xs.take (j + 1))).map pt = (wh (xs.take j)).map pt ++ [.l [.i xs[j], .i 1]] := by rw [t]; unfold wh; rw [List.map_append, List.map_append]; rfl
    have e2 : sumI (xs.take (j + 1)) = sumI (xs.take j) + xs[j] := by rw [t, sumI_append]; simp only [sumI]; omega
    have e3 : sumQ (xs.take (j + 1)) = sumQ (xs.take j) + xs[j] * xs[j] := by rw [t, sumQ_append]; simp only [sumQ]; omega
    obtain ⟨b1, b2, b3, b4⟩ := sum_bound (B := 1000) (by omega) (xs.take j) hx
    rw [List.length_take] at b1 b2 b4
    rw [e1, e2, e3] at hr
    have p1 : (xs[j] * xs[j]).natAbs ≤ 1000 * 1000 := by rw [Int.natAbs_mul]; exact Nat.mul_le_mul (by omega) (by omega)
    have w1 : IntKind.i64.wrap (xs[j] * xs[j]) = xs[j] * xs[j] := wrI (by omega) (by omega)
    have w2 : IntKind.i64.wrap (sumI (xs.take j) + xs[j]) = sumI (xs.take j) + xs[j] := wrI (by omega) (by omega)
    have w3 : IntKind.i64.wrap (sumQ (xs.take j) + xs[j] * xs[j]) = sumQ (xs.take j) + xs[j] * xs[j] := wrI (by omega) (by omega)
    have l2 : (((((wh (xs.take j)).map pt) ++ [Sc.l [.i xs[j], .i 1]]).length : Nat) : Int) ≤ 8796093022208 := by unfold wh; rw [List.length_append, List.length_map, List.length_map, List.length_take, List.length_singleton]; omega
    simp only [k1, hi, c0, c1, c2, hw, w1, w2, w3, of49, l2, hr, Int.natCast_nonneg, bne_iff_ne, beq_iff_eq, ne_eq, decide_eq_true_eq, Bool.and_eq_true, Bool.or_eq_true, Bool.not_eq_true', decide_eq_false_iff_not, beq_eq_false_iff_ne, bne_eq_false_iff_eq, not_true_eq_false, not_false_eq_true, if_true, if_false, reduceIte, and_true, true_and, and_false, false_and, or_false, false_or, or_true, true_or, List.getD_cons_zero, List.getD_cons_succ, List.length_cons, List.length_nil, List.cons_append, List.nil_append, Nat.reduceAdd, Nat.reduceEqDiff, reduceCtorEq, Bool.not_true, Bool.not_false, Bool.true_and, Bool.and_true, Bool.false_and, Bool.and_false, Bool.or_true, Bool.true_or, Bool.or_false, Bool.false_or, Bool.false_eq_true, Bool.true_eq_false, int_n, bool_n, list_n, Sc.str_s, Int.reduceEq, Int.reduceLT, Int.reduceLE, Int.reduceNe, decide_true, decide_false, decide_not, eq_self, Classical.not_not, List.getElem?_cons_zero, List.getElem?_cons_succ, beq_self_eq_true, bne_self_eq_false]
  · have ej : j = xs.length := by omega
    subst ej
    rw [List.take_length] at hx
    rw [List.take_length]
    have k1 : ¬ ((xs.length : Int) < xs.length) := by omega
    have wl : (wh xs).length = xs.length := by simp [wh]
    have FPw : ∀ p ∈ wh xs, FP p := fun p hp => by
      obtain ⟨y, hm, rfl⟩ := List.mem_map.1 hp
      have := hx y hm
      exact ⟨⟨by simp only; omega, by simp only; omega⟩, ⟨by simp only; omega, by simp only; omega⟩⟩
    have a := fof49_F (wh xs) FPw (by rw [wl]; omega)
    by_cases c1 : xs.length < 2
    · rw [ofB_short (by rw [wl]; exact c1)] at a
      have c1' : (xs.length : Int) < 2 := by omega
      simp only [k1, a, c1', Int.natCast_nonneg, bne_iff_ne, beq_iff_eq, ne_eq, decide_eq_true_eq, Bool.and_eq_true, Bool.or_eq_true, Bool.not_eq_true', decide_eq_false_iff_not, beq_eq_false_iff_ne, bne_eq_false_iff_eq, not_true_eq_false, not_false_eq_true, if_true, if_false, reduceIte, and_true, true_and, and_false, false_and, or_false, false_or, or_true, true_or, List.getD_cons_zero, List.getD_cons_succ, List.length_cons, List.length_nil, List.cons_append, List.nil_append, Nat.reduceAdd, Nat.reduceEqDiff, reduceCtorEq, Bool.not_true, Bool.not_false, Bool.true_and, Bool.and_true, Bool.false_and, Bool.and_false, Bool.or_true, Bool.true_or, Bool.or_false, Bool.false_or, Bool.false_eq_true, Bool.true_eq_false, int_n, bool_n, list_n, Sc.str_s, Int.reduceEq, Int.reduceLT, Int.reduceLE, Int.reduceNe, decide_true, decide_false, decide_not, eq_self, Classical.not_not, List.getElem?_cons_zero, List.getElem?_cons_succ, beq_self_eq_true, bne_self_eq_false]
    have c1' : ¬ (xs.length : Int) < 2 := by omega
    have h5 := h50 (by omega)
    have hx4 : ∀ x ∈ xs, -40000 ≤ x ∧ x ≤ 40000 := fun x h => by have := hx x h; omega
    have mO : mean50O (wh xs) = some (Rat.divInt (sumI xs) xs.length) := by unfold mean50O; rw [wl, if_neg (by omega), meanO_int (by omega) h5 hx4]
    have vO := varO_int (by omega) h5 hx4
    obtain ⟨q, q0, q1, q2⟩ := quant_ok (n := (xs.length : Int) - 1) (by omega) (by omega)
    obtain ⟨N1, N2, N3⟩ := least_nums (by omega) hx q0 q1 q2 rfl
    have o := ofB_some (by omega) (by omega) mO vO
    rw [wl] at o
    generalize hOf xs.length (Rat.divInt (sumQ (cI xs)) (xs.length * xs.length * (xs.length - 1))) = h at *
    rw [if_pos (by omega)] at o
    rw [o] at a
    obtain ⟨c, cp, d1, d2, d3⟩ := half_parts h
    generalize Rat.divInt h 1000 = H at *
    have fm := mean50O_fit mO
    obtain ⟨b1, b2, b3, b4⟩ := sum_bound (B := 1000) (by omega) xs hx
    have r := rOf_F (sumI xs) xs.length ⟨by omega, by omega⟩ ⟨by omega, by omega⟩
    unfold ofQ at r
    rw [if_neg (by omega), enc_fit, fitO_yes fm, enc_some] at r
    have qu : k_interval_Quantile.F [.i ((xs.length : Int) - 1)] = some [.i (quantV ((xs.length : Int) - 1)).1, .b (quantV ((xs.length : Int) - 1)).2] := rfl
    rw [q0] at qu
    have hd : 1 ≤ H.den := H.den_pos
    have g1 : ¬ (H.den : Int) < 1 := by omega
    have g2 : ¬ (H.den : Int) = 0 := by omega
    have dI : (1000 : Int) = (H.den : Int) * c := by rw [← Int.natCast_mul, d1]; rfl
    have g3 : Int.tmod 1000 H.den = 0 := by rw [dI]; exact Int.mul_tmod_right _ _
    have g6 : Int.tdiv 1000 H.den = c := by rw [dI]; exact Int.mul_tdiv_cancel_left _ g2
    have c9 : c ≤ 1000 := by rw [← d1]; exact Nat.le_mul_of_pos_left _ hd
    have g4 : ¬ H.num < 0 := by omega
    have g7 : H.num * 1 ≤ H.num * c := Int.mul_le_mul_of_nonneg_left (by omega) d3
    have g5 : ¬ (1000000000 : Int) < H.num := by omega
    have w6 : IntKind.i64.wrap (c : Int) = c := wrI (by omega) (by omega)
    have w7 : IntKind.i64.wrap (H.num * c) = h := by rw [d2]; exact wrI (by omega) (by omega)
    have w8 : IntKind.u64.wrap (h : Int) = h := wrU (by omega) (by omega)
    have hh9 : h * h ≤ 12706000 * 12706000 := Nat.mul_le_mul N3 N3
    have w9 : IntKind.u64.wrap ((h : Int) * h) = ((h * h : Nat) : Int) := by rw [← Int.natCast_mul]; exact wrU (by omega) (by omega)
    have n1 : (xs.length : Int) * xs.length ≤ 50 * 50 := Int.mul_le_mul (by omega) (by omega) (by omega) (by omega)
    have n2 : 0 ≤ (xs.length : Int) * xs.length := Int.mul_nonneg (by omega) (by omega)
    have n3 : (xs.length : Int) * xs.length * (xs.length - 1) ≤ 50 * 50 * 50 := Int.mul_le_mul n1 (by omega) (by omega) (by omega)
    have n4 : 0 ≤ (xs.length : Int) * xs.length * (xs.length - 1) := Int.mul_nonneg n2 (by omega)
    have w10 : IntKind.i64.wrap ((xs.length : Int) * xs.length) = (xs.length : Int) * xs.length := wrI (by omega) (by omega)
    have w11 : IntKind.i64.wrap ((xs.length : Int) - 1) = (xs.length : Int) - 1 := wrI (by omega) (by omega)
    obtain ⟨E, eE⟩ : ∃ E : Nat, (xs.length : Int) * xs.length * (xs.length - 1) = E := ⟨_, (Int.toNat_of_nonneg n4).symm⟩
    rw [eE] at N1 N2 n3
    have w12 : IntKind.i64.wrap ((xs.length : Int) * xs.length * (xs.length - 1)) = E := by rw [eE]; exact wrI (by omega) (by omega)
    have w13 : IntKind.u64.wrap (E : Int) = E := wrU (by omega) (by omega)
    have qq9 : q * q ≤ 12706 * 12706 := Nat.mul_le_mul q2 q2
    have qq1 : 1 * 1 ≤ q * q := Nat.mul_le_mul q1 q1
    have w14 : IntKind.i64.wrap ((q : Int) * q) = ((q * q : Nat) : Int) := by rw [← Int.natCast_mul]; exact wrI (by omega) (by omega)
    have w15 : IntKind.u64.wrap ((q * q : Nat) : Int) = ((q * q : Nat) : Int) := wrU (by omega) (by omega)
    have v0 : 0 ≤ varN xs := by
      have e := sq_varN xs
      have z := sumQ_nn (cI xs)
      refine Int.not_lt.1 fun cc => ?_
      have := Int.mul_neg_of_pos_of_neg (show (0 : Int) < xs.length by omega) cc
      omega
    have v1 : (xs.length : Int) * sumQ xs ≤ 50 * 50000000 := Int.mul_le_mul (by omega) (by omega) (by omega) (by omega)
    have v2 : 0 ≤ (xs.length : Int) * sumQ xs := Int.mul_nonneg (by omega) (by omega)
    have v3 : (sumI xs * sumI xs).natAbs ≤ 50000 * 50000 := by rw [Int.natAbs_mul]; exact Nat.mul_le_mul (by omega) (by omega)
    obtain ⟨W, eW⟩ : ∃ W : Nat, varN xs = W := ⟨_, (Int.toNat_of_nonneg v0).symm⟩
    rw [eW] at N1 N2
    unfold varN at eW
    have w16 : IntKind.i64.wrap ((xs.length : Int) * sumQ xs) = (xs.length : Int) * sumQ xs := wrI (by omega) (by omega)
    have w17 : IntKind.i64.wrap (sumI xs * sumI xs) = sumI xs * sumI xs := wrI (by omega) (by omega)
    have w18 : IntKind.i64.wrap ((xs.length : Int) * sumQ xs - sumI xs * sumI xs) = W := by rw [eW]; exact wrI (by omega) (by omega)
    have w22 : IntKind.u64.wrap (W : Int) = W := wrU (by omega) (by omega)
    have t1 := rTimes_F (h * h) E (by omega) (by omega)
    have t2 := rTimes_F (q * q) W (by omega) (by omega)
    have N1' : q * q * W ≤ h * h * E := by
      rw [← Int.natCast_mul, ← Int.natCast_mul, ← Int.natCast_mul, ← Int.natCast_mul] at N1; exact Int.ofNat_le.1 N1
    have less1 := less_F (h * h * E) (q * q * W)
    rw [decide_eq_false (by omega)] at less1
    have g8 : ¬ (200000000 : Int) < h := by omega
    have l0 : ∀ z : Int, (z == z) = true := fun z => by simp
    rcases Nat.eq_zero_or_pos h with z | z
    · subst z
      have W0 : W = 0 := by
        rcases Nat.eq_zero_or_pos W with e | e
        · exact e
        · have := Nat.mul_pos (show 0 < q * q by omega) e
          omega
      have hX : ((xs.length : Int) * sumQ xs == sumI xs * sumI xs) = true := beq_iff_eq.2 (by omega)
      have h00 : ¬ (0 : Int) < ((0 : Nat) : Int) := by omega
      have h01 : (((0 : Nat) : Int) == 0) = true := rfl
      have h02 : ((0 : Nat) : Int) = 0 := rfl
      simp only [k1, a, c1', g1, g2, g3, g4, g5, g6, w6, w7, w11, qu, r, Int.natCast_nonneg, bne_iff_ne, beq_iff_eq, ne_eq, decide_eq_true_eq, Bool.and_eq_true, Bool.or_eq_true, Bool.not_eq_true', decide_eq_false_iff_not, beq_eq_false_iff_ne, bne_eq_false_iff_eq, not_true_eq_false, not_false_eq_true, if_true, if_false, reduceIte, and_true, true_and, and_false, false_and, or_false, false_or, or_true, true_or, List.getD_cons_zero, List.getD_cons_succ, List.length_cons, List.length_nil, List.cons_append, List.nil_append, Nat.reduceAdd, Nat.reduceEqDiff, reduceCtorEq, Bool.not_true, Bool.not_false, Bool.true_and, Bool.and_true, Bool.false_and, Bool.and_false, Bool.or_true, Bool.true_or, Bool.or_false, Bool.false_or, Bool.false_eq_true, Bool.true_eq_false, int_n, bool_n, list_n, Sc.str_s, Int.reduceEq, Int.reduceLT, Int.reduceLE, Int.reduceNe, decide_true, decide_false, decide_not, eq_self, Classical.not_not, List.getElem?_cons_zero, List.getElem?_cons_succ, beq_self_eq_true, bne_self_eq_false]
      simp only [w8, w9, w10, w12, w13, t1, Int.natCast_nonneg, bne_iff_ne, beq_iff_eq, ne_eq, decide_eq_true_eq, Bool.and_eq_true, Bool.or_eq_true, Bool.not_eq_true', decide_eq_false_iff_not, beq_eq_false_iff_ne, bne_eq_false_iff_eq, not_true_eq_false, not_false_eq_true, if_true, if_false, reduceIte, and_true, true_and, and_false, false_and, or_false, false_or, or_true, true_or, List.getD_cons_zero, List.getD_cons_succ, List.length_cons, List.length_nil, List.cons_append, List.nil_append, Nat.reduceAdd, Nat.reduceEqDiff, reduceCtorEq, Bool.not_true, Bool.not_false, Bool.true_and, Bool.and_true, Bool.false_and, Bool.and_false, Bool.or_true, Bool.true_or, Bool.or_false, Bool.false_or, Bool.false_eq_true, Bool.true_eq_false, int_n, bool_n, list_n, Sc.str_s, Int.reduceEq, Int.reduceLT, Int.reduceLE, Int.reduceNe, decide_true, decide_false, decide_not, eq_self, Classical.not_not, List.getElem?_cons_zero, List.getElem?_cons_succ, beq_self_eq_true, bne_self_eq_false]
      simp only [w14, w15, w16, w17, w18, w22, t2, Int.natCast_nonneg, bne_iff_ne, beq_iff_eq, ne_eq, decide_eq_true_eq, Bool.and_eq_true, Bool.or_eq_true, Bool.not_eq_true', decide_eq_false_iff_not, beq_eq_false_iff_ne, bne_eq_false_iff_eq, not_true_eq_false, not_false_eq_true, if_true, if_false, reduceIte, and_true, true_and, and_false, false_and, or_false, false_or, or_true, true_or, List.getD_cons_zero, List.getD_cons_succ, List.length_cons, List.length_nil, List.cons_append, List.nil_append, Nat.reduceAdd, Nat.reduceEqDiff, reduceCtorEq, Bool.not_true, Bool.not_false, Bool.true_and, Bool.and_true, Bool.false_and, Bool.and_false, Bool.or_true, Bool.true_or, Bool.or_false, Bool.false_or, Bool.false_eq_true, Bool.true_eq_false, int_n, bool_n, list_n, Sc.str_s, Int.reduceEq, Int.reduceLT, Int.reduceLE, Int.reduceNe, decide_true, decide_false, decide_not, eq_self, Classical.not_not, List.getElem?_cons_zero, List.getElem?_cons_succ, beq_self_eq_true, bne_self_eq_false]
      simp only [g8, l0, less1, Int.natCast_nonneg, bne_iff_ne, beq_iff_eq, ne_eq, decide_eq_true_eq, Bool.and_eq_true, Bool.or_eq_true, Bool.not_eq_true', decide_eq_false_iff_not, beq_eq_false_iff_ne, bne_eq_false_iff_eq, not_true_eq_false, not_false_eq_true, if_true, if_false, reduceIte, and_true, true_and, and_false, false_and, or_false, false_or, or_true, true_or, List.getD_cons_zero, List.getD_cons_succ, List.length_cons, List.length_nil, List.cons_append, List.nil_append, Nat.reduceAdd, Nat.reduceEqDiff, reduceCtorEq, Bool.not_true, Bool.not_false, Bool.true_and, Bool.and_true, Bool.false_and, Bool.and_false, Bool.or_true, Bool.true_or, Bool.or_false, Bool.false_or, Bool.false_eq_true, Bool.true_eq_false, int_n, bool_n, list_n, Sc.str_s, Int.reduceEq, Int.reduceLT, Int.reduceLE, Int.reduceNe, decide_true, decide_false, decide_not, eq_self, Classical.not_not, List.getElem?_cons_zero, List.getElem?_cons_succ, beq_self_eq_true, bne_self_eq_false]
      simp only [h00, h01, h02, hX, Int.natCast_nonneg, bne_iff_ne, beq_iff_eq, ne_eq, decide_eq_true_eq, Bool.and_eq_true, Bool.or_eq_true, Bool.not_eq_true', decide_eq_false_iff_not, beq_eq_false_iff_ne, bne_eq_false_iff_eq, not_true_eq_false, not_false_eq_true, if_true, if_false, reduceIte, and_true, true_and, and_false, false_and, or_false, false_or, or_true, true_or, List.getD_cons_zero, List.getD_cons_succ, List.length_cons, List.length_nil, List.cons_append, List.nil_append, Nat.reduceAdd, Nat.reduceEqDiff, reduceCtorEq, Bool.not_true, Bool.not_false, Bool.true_and, Bool.and_true, Bool.false_and, Bool.and_false, Bool.or_true, Bool.true_or, Bool.or_false, Bool.false_or, Bool.false_eq_true, Bool.true_eq_false, int_n, bool_n, list_n, Sc.str_s, Int.reduceEq, Int.reduceLT, Int.reduceLE, Int.reduceNe, decide_true, decide_false, decide_not, eq_self, Classical.not_not, List.getElem?_cons_zero, List.getElem?_cons_succ, beq_self_eq_true, bne_self_eq_false]
    · have hX : ((xs.length : Int) * sumQ xs == sumI xs * sumI xs) = false := by
        have N2' := N2 z
        refine beq_eq_false_iff_ne.2 fun e => ?_
        have w0 : W = 0 := by omega
        subst w0
        have a0 : 0 ≤ ((h : Int) - 1) * (h - 1) * E := Int.mul_nonneg (sq_pos _) (by omega)
        have : (q : Int) * q * ((0 : Nat) : Int) = 0 := Int.mul_zero _
        omega
      have h00 : (0 : Int) < h := by omega
      have h01 : ((h : Int) == 0) = false := beq_eq_false_iff_ne.2 (by omega)
      have h02 : ¬ (h : Int) = 0 := by omega
      have w19 : IntKind.i64.wrap ((h : Int) - 1) = ((h - 1 : Nat) : Int) := by
        rw [show (h : Int) - 1 = ((h - 1 : Nat) : Int) by omega]; exact wrI (by omega) (by omega)
      have w20 : IntKind.u64.wrap ((h - 1 : Nat) : Int) = ((h - 1 : Nat) : Int) := wrU (by omega) (by omega)
      have hh1 : (h - 1) * (h - 1) ≤ 12706000 * 12706000 := Nat.mul_le_mul (by omega) (by omega)
      have w21 : IntKind.u64.wrap (((h - 1 : Nat) : Int) * ((h - 1 : Nat) : Int)) = (((h - 1) * (h - 1) : Nat) : Int) := by rw [← Int.natCast_mul]; exact wrU (by omega) (by omega)
      have t3 := rTimes_F ((h - 1) * (h - 1)) E (by omega) (by omega)
      have N2' : (h - 1) * (h - 1) * E < q * q * W := by
        have := N2 z
        rw [show (h : Int) - 1 = ((h - 1 : Nat) : Int) by omega, ← Int.natCast_mul, ← Int.natCast_mul, ← Int.natCast_mul, ← Int.natCast_mul] at this; exact Int.ofNat_lt.1 this
      have less2 := less_F ((h - 1) * (h - 1) * E) (q * q * W)
      rw [decide_eq_true N2'] at less2
      simp only [k1, a, c1', g1, g2, g3, g4, g5, g6, w6, w7, w11, qu, r, Int.natCast_nonneg, bne_iff_ne, beq_iff_eq, ne_eq, decide_eq_true_eq, Bool.and_eq_true, Bool.or_eq_true, Bool.not_eq_true', decide_eq_false_iff_not, beq_eq_false_iff_ne, bne_eq_false_iff_eq, not_true_eq_false, not_false_eq_true, if_true, if_false, reduceIte, and_true, true_and, and_false, false_and, or_false, false_or, or_true, true_or, List.getD_cons_zero, List.getD_cons_succ, List.length_cons, List.length_nil, List.cons_append, List.nil_append, Nat.reduceAdd, Nat.reduceEqDiff, reduceCtorEq, Bool.not_true, Bool.not_false, Bool.true_and, Bool.and_true, Bool.false_and, Bool.and_false, Bool.or_true, Bool.true_or, Bool.or_false, Bool.false_or, Bool.false_eq_true, Bool.true_eq_false, int_n, bool_n, list_n, Sc.str_s, Int.reduceEq, Int.reduceLT, Int.reduceLE, Int.reduceNe, decide_true, decide_false, decide_not, eq_self, Classical.not_not, List.getElem?_cons_zero, List.getElem?_cons_succ, beq_self_eq_true, bne_self_eq_false]
      simp only [w8, w9, w10, w12, w13, t1, Int.natCast_nonneg, bne_iff_ne, beq_iff_eq, ne_eq, decide_eq_true_eq, Bool.and_eq_true, Bool.or_eq_true, Bool.not_eq_true', decide_eq_false_iff_not, beq_eq_false_iff_ne, bne_eq_false_iff_eq, not_true_eq_false, not_false_eq_true, if_true, if_false, reduceIte, and_true, true_and, and_false, false_and, or_false, false_or, or_true, true_or, List.getD_cons_zero, List.getD_cons_succ, List.length_cons, List.length_nil, List.cons_append, List.nil_append, Nat.reduceAdd, Nat.reduceEqDiff, reduceCtorEq, Bool.not_true, Bool.not_false, Bool.true_and, Bool.and_true, Bool.false_and, Bool.and_false, Bool.or_true, Bool.true_or, Bool.or_false, Bool.false_or, Bool.false_eq_true, Bool.true_eq_false, int_n, bool_n, list_n, Sc.str_s, Int.reduceEq, Int.reduceLT, Int.reduceLE, Int.reduceNe, decide_true, decide_false, decide_not, eq_self, Classical.not_not, List.getElem?_cons_zero, List.getElem?_cons_succ, beq_self_eq_true, bne_self_eq_false]
      simp only [w14, w15, w16, w17, w18, w22, t2, Int.natCast_nonneg, bne_iff_ne, beq_iff_eq, ne_eq, decide_eq_true_eq, Bool.and_eq_true, Bool.or_eq_true, Bool.not_eq_true', decide_eq_false_iff_not, beq_eq_false_iff_ne, bne_eq_false_iff_eq, not_true_eq_false, not_false_eq_true, if_true, if_false, reduceIte, and_true, true_and, and_false, false_and, or_false, false_or, or_true, true_or, List.getD_cons_zero, List.getD_cons_succ, List.length_cons, List.length_nil, List.cons_append, List.nil_append, Nat.reduceAdd, Nat.reduceEqDiff, reduceCtorEq, Bool.not_true, Bool.not_false, Bool.true_and, Bool.and_true, Bool.false_and, Bool.and_false, Bool.or_true, Bool.true_or, Bool.or_false, Bool.false_or, Bool.false_eq_true, Bool.true_eq_false, int_n, bool_n, list_n, Sc.str_s, Int.reduceEq, Int.reduceLT, Int.reduceLE, Int.reduceNe, decide_true, decide_false, decide_not, eq_self, Classical.not_not, List.getElem?_cons_zero, List.getElem?_cons_succ, beq_self_eq_true, bne_self_eq_false]
      simp only [g8, l0, less1, Int.natCast_nonneg, bne_iff_ne, beq_iff_eq, ne_eq, decide_eq_true_eq, Bool.and_eq_true, Bool.or_eq_true, Bool.not_eq_true', decide_eq_false_iff_not, beq_eq_false_iff_ne, bne_eq_false_iff_eq, not_true_eq_false, not_false_eq_true, if_true, if_false, reduceIte, and_true, true_and, and_false, false_and, or_false, false_or, or_true, true_or, List.getD_cons_zero, List.getD_cons_succ, List.length_cons, List.length_nil, List.cons_append, List.nil_append, Nat.reduceAdd, Nat.reduceEqDiff, reduceCtorEq, Bool.not_true, Bool.not_false, Bool.true_and, Bool.and_true, Bool.false_and, Bool.and_false, Bool.or_true, Bool.true_or, Bool.or_false, Bool.false_or, Bool.false_eq_true, Bool.true_eq_false, int_n, bool_n, list_n, Sc.str_s, Int.reduceEq, Int.reduceLT, Int.reduceLE, Int.reduceNe, decide_true, decide_false, decide_not, eq_self, Classical.not_not, List.getElem?_cons_zero, List.getElem?_cons_succ, beq_self_eq_true, bne_self_eq_false]
      simp only [h00, h01, h02, hX, w19, w20, w21, t3, less2, Int.natCast_nonneg, bne_iff_ne, beq_iff_eq, ne_eq, decide_eq_true_eq, Bool.and_eq_true, Bool.or_eq_true, Bool.not_eq_true', decide_eq_false_iff_not, beq_eq_false_iff_ne, bne_eq_false_iff_eq, not_true_eq_false, not_false_eq_true, if_true, if_false, reduceIte, and_true, true_and, and_false, false_and, or_false, false_or, or_true, true_or, List.getD_cons_zero, List.getD_cons_succ, List.length_cons, List.length_nil, List.cons_append, List.nil_append, Nat.reduceAdd, Nat.reduceEqDiff, reduceCtorEq, Bool.not_true, Bool.not_false, Bool.true_and, Bool.and_true, Bool.false_and, Bool.and_false, Bool.or_true, Bool.true_or, Bool.or_false, Bool.false_or, Bool.false_eq_true, Bool.true_eq_false, int_n, bool_n, list_n, Sc.str_s, Int.reduceEq, Int.reduceLT, Int.reduceLE, Int.reduceNe, decide_true, decide_false, decide_not, eq_self, Classical.not_not, List.getElem?_cons_zero, List.getElem?_cons_succ, beq_self_eq_true, bne_self_eq_false]

namespace intervalLeast
theorem own : ownKnob Tryd.prog.godebug = none := by kernel_rfl
theorem laidOut : laidOutB Tryd.prog = true := by kernel_rfl
theorem door_met (os : Os) (args : Array Value) : laidMetH Tryd.prog Rows.intervalLeastRow.laid ((World.doorLaid Tryd.prog 14 os).forCall (fun _ _ => 0) ⟨#[], args, []⟩).memory :=
  laidMetH_of_parts3 (fuel := 8) (laidMet_of_run' 8 (by kernel_rfl) (by kernel_rfl)) (by kernel_rfl) (by kernel_rfl)
set_option maxRecDepth 100000 in
theorem lifted (os : Os) (started : os.Started) (H : Type) (enc : TypeId × Value → H) :
    ReturnsInHanded {} Tryd.checked os 5 .any (fun w args => (Rows.intervalLeastSpec.pre enc Tryd.prog Tryd.f5 [] false w args ∧ laidMetH Tryd.prog Rows.intervalLeastRow.laid w) ∧ sizedMet enc Tryd.prog Tryd.f5 (OpenSpec.ofChange Rows.intervalLeastSpec) false w args) (Rows.intervalLeastSpec.post enc Tryd.prog Tryd.f5 false true false false) := by
  refine returnsInHanded_of_change_and (C := Tryd.checked) (X := fun w _ => laidMetH Tryd.prog Rows.intervalLeastRow.laid w) (fun _ _ _ hh h => h.of_heap hh) own started (by kernel_rfl) Tryd.func5
    (ChangeSpec.witness_shaped (enc := enc) (C := Tryd.checked) (os := os) (X := fun w _ => laidMetH Tryd.prog Rows.intervalLeastRow.laid w) false (World.doorLaid Tryd.prog 14 os) #[.slice none 0 0] 8 rfl (World.shaped_of_RefB (by kernel_rfl) (by kernel_rfl)) (by kernel_rfl) (by kernel_rfl) (by kernel_rfl) (door_met os _)) ?_
  intro W base args ds gs before hval0 hW _ _ hL _
  have hval : ∀ (j : Nat) t v, Tryd.f5.params[j]? = some t → args[j]? = some v → Value.okWide Tryd.prog W .any base t v := hval0
  have hW' := hW
  obtain ⟨p, q, hA0, hV, rfl, hfz, hnd⟩ := hW
  have hA : DataW.TrodAll enc Tryd.prog W 0 (fun _ => true) true Tryd.f5.params.toList args.toList ds p := hA0
  rw [Tryd.params5] at hA hval
  obtain ⟨v0, vs0, d0, ds0, p0, q0, hargs, rfl, rfl, h0, r0⟩ := trodAll_cons hA
  obtain ⟨rfl, rfl, rfl⟩ := trodAll_nil r0
  obtain rfl : args = #[v0] := by cases args; simp_all
  obtain ⟨rfl, rfl⟩ := trodVars_none hV
  have k0 := h0
  have lt0 : ∀ x ∈ p0, x.block < W.heap.size := by obtain ⟨m, hm⟩ := k0; exact DataW.trod_lt m _ _ _ hm
  have ok0 := hval 0 39 v0 rfl rfl
  have hG := glob_of_laid hL
  obtain ⟨xs, i0, hl, g0⟩ := open_ints (k := .i64) Tryd.underlying39 (by kernel_rfl) (by kernel_rfl) ok0 h0
  clear hA0 hval0
  refine (law_call k_simulatorlaw49_IntervalLeast (Tryd.call5 _ _) (vs := [v0]) (args1 g0) (least_F xs (by unfold maxLen at hl; omega)) rfl hG).mono fun e W' ⟨he, bel⟩ => ?_
  subst he
  exact ⟨_, rfl, _, _, _, [], _, [], hW', trodAll_mk1 (shut_bool Tryd.underlying4 _), (trodAll_cons_mk (Below.trod laidOut (by kernel_rfl) (of_decide_eq_true (by kernel_rfl)) k0 bel lt0) trodAll_mk0), rfl, bel.frame _, fun h => by cases h⟩
theorem over : Rows.intervalLeastRow.holds Tryd.pinned (OpenSpec.ofChange Rows.intervalLeastSpec) :=
  OpenClaim.holds_of_wide 5 Tryd.f5 rfl rfl rfl rfl rfl rfl rfl ⟨rfl, rfl, rfl, rfl, rfl⟩ rfl rfl rfl rfl rfl (by kernel_rfl) Tryd.func5 (by kernel_rfl)
    (of_decide_eq_true (by kernel_rfl)) (by unfold Func.isWrapper; first | (rw [if_pos (by decide +kernel)]; kernel_rfl) | (rw [if_neg (by decide +kernel)]; exact ⟨rfl, rfl⟩))
    (fun os started H enc _ => lifted os started H enc)
theorem proved : Rows.IntervalLeastCardSaid :=
  Claim7.holds_tied_plain_at .later [] [.data] true (true, "3c86034e67c5616d38ff392a8ba0a522a1e631b0cb48adbc1b8530354a08ea7b") false over (fun _ h => by cases h) (by kernel_rfl) (fun _ h => by cases h) intervalLeast_row_tie rfl ⟨rfl, rfl⟩ (by kernel_rfl) rfl
    (fun f fn hf hfn => by
      obtain rfl : f = 5 := Option.some.inj ((show Tryd.prog.funcNamed Rows.intervalLeastRow.func = some 5 by kernel_rfl).symm.trans hf) |>.symm
      obtain rfl : fn = Tryd.f5 := (Option.some.inj (Tryd.func5.symm.trans hfn)).symm
      refine ⟨by kernel_rfl, fun j t ht => ?_⟩
      have hall : (Tryd.f5.params.toList.all fun t => !Tryd.prog.wantsStandIn t) = true := by kernel_rfl
      have hm : t ∈ Tryd.f5.params.toList := Array.mem_toList_iff.2 (Array.mem_of_getElem? ht)
      exact (by simpa using List.all_eq_true.1 hall t hm : Tryd.prog.wantsStandIn t = false))
    (by kernel_rfl)
end intervalLeast

end Go.Proofs.YtchnhfnnlkncdaaDoor
