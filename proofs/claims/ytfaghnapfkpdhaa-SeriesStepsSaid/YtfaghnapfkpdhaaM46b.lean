/-
  Chapter 46: what Moving and its reference return.
-/
import Derived.Test.YtfaghnapfkpdhaaM46a
import Derived.Test.YtfaghnapfkpdhaaM27f
import Derived.Test.YtfaghnapfkpdhaaFrO
namespace Go.Proofs.Ytfaghnapfkpdhaa
set_option linter.unusedSimpArgs false

/-- The sum of the first elements. -/
def pre (xs : List Int) (k : Nat) : Int := sumI (xs.take k)
theorem pre_succ {xs : List Int} {k : Nat} (h : k < xs.length) : pre xs (k + 1) = pre xs k + xs[k] := by
  unfold pre
  rw [List.take_add_one, List.getElem?_eq_getElem h, sumI_append]
  simp [sumI]
theorem take_all {xs : List Int} (h : xs.all valB = true) (k : Nat) : (xs.take k).all valB = true := by
  rw [List.all_eq_true] at h ⊢
  exact fun x hx => h x (List.mem_of_mem_take hx)
theorem pre_bound {xs : List Int} {k : Nat} (h : (xs.take k).all valB = true) (hl : xs.length ≤ 2000) {j : Nat} (hj : j ≤ k) : -2000000000 ≤ pre xs j ∧ pre xs j ≤ 2000000000 := by
  have h2 : (xs.take j).all valB = true := by
    have := take_all h j
    rwa [List.take_take, Nat.min_eq_left hj] at this
  obtain ⟨a, b, _⟩ := sum_bounds _ h2
  have : (xs.take j).length ≤ 2000 := by rw [List.length_take]; omega
  unfold pre
  omega
def mvF (xs : List Int) (N : Nat) (j : Nat) : Sc := .l [.i (Rat.divInt (pre xs (j + N) - pre xs j) N).num, .i (Rat.divInt (pre xs (j + N) - pre xs j) N).den]
def mvL (xs : List Int) (N m : Nat) : List Sc := (List.range m).map (mvF xs N)
theorem mvL_succ (xs : List Int) (N m : Nat) : mvL xs N (m + 1) = mvL xs N m ++ [mvF xs N m] := by
  unfold mvL; rw [List.range_succ, List.map_append]; rfl
theorem mvL_len (xs : List Int) (N m : Nat) : (mvL xs N m).length = m := by simp [mvL]
def mvR (xs : List Int) (n : Int) : List Sc :=
  if n < 1 ∨ 100 < n then [.l [], .i 2] else if 2000 < xs.length then [.l [], .i 6] else
  if xs.all valB = true then [.l (mvL xs n.toNat (xs.length + 1 - n.toNat)), .i 0] else [.l [], .i 2]
theorem drop_all {xs : List Int} {k : Nat} (h : k < xs.length) : (xs.drop k).all valB = (valB xs[k] && (xs.drop (k + 1)).all valB) := by
  rw [List.drop_eq_getElem_cons h, List.all_cons]
theorem moving_F (xs : List Int) (n : Int) : k_series_Moving.F [.l (xs.map .i), .i n] = some (mvR xs n) := by
  simp only [k_series_Moving_F, tk_series_Moving, k_frac_Of_f, List.length_map, Go.Proofs.Ytfaghnapfkpdhaa.T.den, Ex.ev, U1.ev, U2.ev, U3.ev, gam, List.map, List.getD_cons_zero, List.getD_cons_succ, List.length, List.cons_append, List.nil_append, if_true, Sc.int_i, Sc.bool_b, Sc.list_l, Sc.str_s, Nat.reduceEqDiff, if_false, List.getElem?_cons_zero, List.getElem?_cons_succ]
  unfold mvR
  by_cases h1 : n < 1; · simp only [h1, Int.natCast_nonneg, bne_iff_ne, beq_iff_eq, ne_eq, decide_eq_true_eq, Bool.and_eq_true, Bool.or_eq_true, Bool.not_eq_true', decide_eq_false_iff_not, beq_eq_false_iff_ne, bne_eq_false_iff_eq, not_true_eq_false, not_false_eq_true, if_true, if_false, reduceIte, and_true, true_and, and_false, false_and, or_false, false_or, or_true, true_or, List.getD_cons_zero, List.getD_cons_succ, List.length_cons, List.length_nil, List.cons_append, List.nil_append, Nat.reduceAdd, Nat.reduceEqDiff, reduceCtorEq, Bool.not_true, Bool.not_false, Bool.true_and, Bool.and_true, Bool.false_and, Bool.and_false, Bool.or_true, Bool.true_or, Bool.or_false, Bool.false_or, Bool.false_eq_true, Bool.true_eq_false, Sc.int_i, Sc.bool_b, Sc.list_l, Sc.str_s, Int.reduceEq, Int.reduceLT, Int.reduceLE, Int.reduceNe, decide_true, decide_false, decide_not, eq_self, Classical.not_not, List.getElem?_cons_zero, List.getElem?_cons_succ, beq_self_eq_true, bne_self_eq_false]
  by_cases h2 : 100 < n; · simp only [h1, h2, Int.natCast_nonneg, bne_iff_ne, beq_iff_eq, ne_eq, decide_eq_true_eq, Bool.and_eq_true, Bool.or_eq_true, Bool.not_eq_true', decide_eq_false_iff_not, beq_eq_false_iff_ne, bne_eq_false_iff_eq, not_true_eq_false, not_false_eq_true, if_true, if_false, reduceIte, and_true, true_and, and_false, false_and, or_false, false_or, or_true, true_or, List.getD_cons_zero, List.getD_cons_succ, List.length_cons, List.length_nil, List.cons_append, List.nil_append, Nat.reduceAdd, Nat.reduceEqDiff, reduceCtorEq, Bool.not_true, Bool.not_false, Bool.true_and, Bool.and_true, Bool.false_and, Bool.and_false, Bool.or_true, Bool.true_or, Bool.or_false, Bool.false_or, Bool.false_eq_true, Bool.true_eq_false, Sc.int_i, Sc.bool_b, Sc.list_l, Sc.str_s, Int.reduceEq, Int.reduceLT, Int.reduceLE, Int.reduceNe, decide_true, decide_false, decide_not, eq_self, Classical.not_not, List.getElem?_cons_zero, List.getElem?_cons_succ, beq_self_eq_true, bne_self_eq_false]
  by_cases h3 : 2000 < xs.length
  · have h3' : (2000 : Int) < xs.length := by omega
    simp only [h1, h2, h3, h3', Int.natCast_nonneg, bne_iff_ne, beq_iff_eq, ne_eq, decide_eq_true_eq, Bool.and_eq_true, Bool.or_eq_true, Bool.not_eq_true', decide_eq_false_iff_not, beq_eq_false_iff_ne, bne_eq_false_iff_eq, not_true_eq_false, not_false_eq_true, if_true, if_false, reduceIte, and_true, true_and, and_false, false_and, or_false, false_or, or_true, true_or, List.getD_cons_zero, List.getD_cons_succ, List.length_cons, List.length_nil, List.cons_append, List.nil_append, Nat.reduceAdd, Nat.reduceEqDiff, reduceCtorEq, Bool.not_true, Bool.not_false, Bool.true_and, Bool.and_true, Bool.false_and, Bool.and_false, Bool.or_true, Bool.true_or, Bool.or_false, Bool.false_or, Bool.false_eq_true, Bool.true_eq_false, Sc.int_i, Sc.bool_b, Sc.list_l, Sc.str_s, Int.reduceEq, Int.reduceLT, Int.reduceLE, Int.reduceNe, decide_true, decide_false, decide_not, eq_self, Classical.not_not, List.getElem?_cons_zero, List.getElem?_cons_succ, beq_self_eq_true, bne_self_eq_false]
  have h3' : ¬ (2000 : Int) < xs.length := by omega
  obtain ⟨N, rfl⟩ : ∃ N : Nat, n = N := ⟨n.toNat, by omega⟩
  simp only [h1, h2, h3, h3', Int.toNat_natCast, Int.natCast_nonneg, bne_iff_ne, beq_iff_eq, ne_eq, decide_eq_true_eq, Bool.and_eq_true, Bool.or_eq_true, Bool.not_eq_true', decide_eq_false_iff_not, beq_eq_false_iff_ne, bne_eq_false_iff_eq, not_true_eq_false, not_false_eq_true, if_true, if_false, reduceIte, and_true, true_and, and_false, false_and, or_false, false_or, or_true, true_or, List.getD_cons_zero, List.getD_cons_succ, List.length_cons, List.length_nil, List.cons_append, List.nil_append, Nat.reduceAdd, Nat.reduceEqDiff, reduceCtorEq, Bool.not_true, Bool.not_false, Bool.true_and, Bool.and_true, Bool.false_and, Bool.and_false, Bool.or_true, Bool.true_or, Bool.or_false, Bool.false_or, Bool.false_eq_true, Bool.true_eq_false, Sc.int_i, Sc.bool_b, Sc.list_l, Sc.str_s, Int.reduceEq, Int.reduceLT, Int.reduceLE, Int.reduceNe, decide_true, decide_false, decide_not, eq_self, Classical.not_not, List.getElem?_cons_zero, List.getElem?_cons_succ, beq_self_eq_true, bne_self_eq_false]
  have key := fun g hg => loop_rounds (S := Nat) (g := g) (fun k => [.i (pre xs k - pre xs (k - N)), .l (mvL xs N (k + 1 - N)), .i k])
    (fun k => some (if (xs.drop k).all valB = true then [.l (mvL xs N (xs.length + 1 - N)), .i 0] else [.l [], .i 2])) (fun k => k ≤ xs.length ∧ (xs.take k).all valB = true) (fun k => xs.length - k) hg 0 ⟨by omega, rfl⟩ (by omega)
  have conv : ([.i 0, .l [], .i 0] : List Sc) = [.i (pre xs 0 - pre xs (0 - N)), .l (mvL xs N (0 + 1 - N)), .i ((0 : Nat) : Int)] := by
    have : 0 + 1 - N = 0 := by omega
    rw [this]
    simp [pre, sumI, mvL]
  rw [conv]
  refine (key _ ?_).trans (by simp)
  rintro k rec ⟨hk, hall⟩ hrec
  by_cases h : k < xs.length
  · have hkl : (k : Int) < xs.length := by omega
    have hi := idx_map Sc.i xs k h
    have hw := succ_w (n := xs.length) h (by omega)
    have hp := pre_succ h
    have hts := all_take_succ valB xs k h
    have hd := drop_all h
    have hb1 := pre_bound hall (by omega) (Nat.le_refl k)
    have hb2 := pre_bound hall (by omega) (Nat.sub_le k N)
    cases hv : valB xs[k]
    · rw [hv, Bool.false_and] at hd
      generalize xs[k] = x at *
      have hx : x < -1000000 ∨ 1000000 < x := by
        simp only [valB, Bool.and_eq_false_iff, decide_eq_false_iff_not] at hv; omega
      by_cases hx1 : x < -1000000
      · simp only [hkl, hi, hd, hx1, Int.natCast_nonneg, bne_iff_ne, beq_iff_eq, ne_eq, decide_eq_true_eq, Bool.and_eq_true, Bool.or_eq_true, Bool.not_eq_true', decide_eq_false_iff_not, beq_eq_false_iff_ne, bne_eq_false_iff_eq, not_true_eq_false, not_false_eq_true, if_true, if_false, reduceIte, and_true, true_and, and_false, false_and, or_false, false_or, or_true, true_or, List.getD_cons_zero, List.getD_cons_succ, List.length_cons, List.length_nil, List.cons_append, List.nil_append, Nat.reduceAdd, Nat.reduceEqDiff, reduceCtorEq, Bool.not_true, Bool.not_false, Bool.true_and, Bool.and_true, Bool.false_and, Bool.and_false, Bool.or_true, Bool.true_or, Bool.or_false, Bool.false_or, Bool.false_eq_true, Bool.true_eq_false, Sc.int_i, Sc.bool_b, Sc.list_l, Sc.str_s, Int.reduceEq, Int.reduceLT, Int.reduceLE, Int.reduceNe, decide_true, decide_false, decide_not, eq_self, Classical.not_not, List.getElem?_cons_zero, List.getElem?_cons_succ, beq_self_eq_true, bne_self_eq_false]
      · have hx2 : 1000000 < x := by omega
        simp only [hkl, hi, hd, hx1, hx2, Int.natCast_nonneg, bne_iff_ne, beq_iff_eq, ne_eq, decide_eq_true_eq, Bool.and_eq_true, Bool.or_eq_true, Bool.not_eq_true', decide_eq_false_iff_not, beq_eq_false_iff_ne, bne_eq_false_iff_eq, not_true_eq_false, not_false_eq_true, if_true, if_false, reduceIte, and_true, true_and, and_false, false_and, or_false, false_or, or_true, true_or, List.getD_cons_zero, List.getD_cons_succ, List.length_cons, List.length_nil, List.cons_append, List.nil_append, Nat.reduceAdd, Nat.reduceEqDiff, reduceCtorEq, Bool.not_true, Bool.not_false, Bool.true_and, Bool.and_true, Bool.false_and, Bool.and_false, Bool.or_true, Bool.true_or, Bool.or_false, Bool.false_or, Bool.false_eq_true, Bool.true_eq_false, Sc.int_i, Sc.bool_b, Sc.list_l, Sc.str_s, Int.reduceEq, Int.reduceLT, Int.reduceLE, Int.reduceNe, decide_true, decide_false, decide_not, eq_self, Classical.not_not, List.getElem?_cons_zero, List.getElem?_cons_succ, beq_self_eq_true, bne_self_eq_false]
    · rw [hv, Bool.true_and] at hd
      rw [hv, hall] at hts
      have hr := hrec (k + 1) ⟨by omega, hts⟩ (by omega)
      rw [hd]
      have hv2 := hv
      simp only [valB, Bool.and_eq_true, decide_eq_true_eq] at hv2
      have hx1 : ¬ xs[k] < -1000000 := by omega
      have hx2 : ¬ 1000000 < xs[k] := by omega
      have hs1 : IntKind.i64.wrap (pre xs k - pre xs (k - N) + xs[k]) = pre xs k - pre xs (k - N) + xs[k] := wr64 (by omega) (by omega)
      have hwN : IntKind.i64.wrap ((N : Int) - 1) = (N : Int) - 1 := wr64 (by omega) (by omega)
      have hb3 := pre_bound hts (by omega) (Nat.le_refl (k + 1))
      have hb4 := pre_bound hts (by omega) (Nat.sub_le (k + 1) N)
      have hof := fOf_F (pre xs (k + 1) - pre xs (k + 1 - N)) N ⟨by omega, by omega⟩ ⟨by omega, by omega⟩
      rw [ofQ_fit (by omega) (by unfold maxN; omega) (by unfold maxD; omega)] at hof
      by_cases hkn : N ≤ k
      · have hkn' : (N : Int) ≤ k := by omega
        have hi2 := idx_map Sc.i xs (k - N) (by omega)
        have hp2 := pre_succ (xs := xs) (k := k - N) (by omega)
        have ek : k + 1 - N = k - N + 1 := by omega
        have hwk : IntKind.i64.wrap ((k : Int) - N) = ((k - N : Nat) : Int) := by rw [wr64 (by omega) (by omega)]; omega
        have hkl2 : ((k - N : Nat) : Int) < xs.length := by omega
        have hs2 : IntKind.i64.wrap (pre xs k - pre xs (k - N) + xs[k] - xs[k - N]) = pre xs (k + 1) - pre xs (k + 1 - N) := by
          rw [ek, hp, hp2]; rw [ek, hp2] at hb4; rw [hp] at hb3
          rw [wr64 (by omega) (by omega)]; omega
        have hkn1 : (N : Int) - 1 ≤ k := by omega
        have ek2 : k + 1 + 1 - N = k + 1 - N + 1 := by omega
        have ek3 : k + 1 - N + N = k + 1 := by omega
        rw [ek2, mvL_succ] at hr
        unfold mvF at hr
        rw [ek3] at hr
        have hlen := one_more (x := Sc.l [Sc.i (Rat.divInt (pre xs (k + 1) - pre xs (k + 1 - N)) N).num, Sc.i (Rat.divInt (pre xs (k + 1) - pre xs (k + 1 - N)) N).den]) (B := 8796093022208) (out := mvL xs N (k + 1 - N)) (k := k) (by rw [mvL_len]; omega) (by omega)
        simp only [hkl, hi, hx1, hx2, hkn', hwk, hkl2, hi2, hs1, hs2, hwN, hkn1, hof, hlen, hw, hr, Int.natCast_nonneg, bne_iff_ne, beq_iff_eq, ne_eq, decide_eq_true_eq, Bool.and_eq_true, Bool.or_eq_true, Bool.not_eq_true', decide_eq_false_iff_not, beq_eq_false_iff_ne, bne_eq_false_iff_eq, not_true_eq_false, not_false_eq_true, if_true, if_false, reduceIte, and_true, true_and, and_false, false_and, or_false, false_or, or_true, true_or, List.getD_cons_zero, List.getD_cons_succ, List.length_cons, List.length_nil, List.cons_append, List.nil_append, Nat.reduceAdd, Nat.reduceEqDiff, reduceCtorEq, Bool.not_true, Bool.not_false, Bool.true_and, Bool.and_true, Bool.false_and, Bool.and_false, Bool.or_true, Bool.true_or, Bool.or_false, Bool.false_or, Bool.false_eq_true, Bool.true_eq_false, Sc.int_i, Sc.bool_b, Sc.list_l, Sc.str_s, Int.reduceEq, Int.reduceLT, Int.reduceLE, Int.reduceNe, decide_true, decide_false, decide_not, eq_self, Classical.not_not, List.getElem?_cons_zero, List.getElem?_cons_succ, beq_self_eq_true, bne_self_eq_false]
      · have hkn' : ¬ (N : Int) ≤ k := by omega
        have ez : k - N = 0 := by omega
        have ez2 : pre xs 0 = 0 := by simp [pre, sumI]
        have ez3 : k + 1 - N = 0 := by omega
        by_cases hkn1 : (N : Int) - 1 ≤ k
        · have ek2 : k + 1 + 1 - N = k + 1 - N + 1 := by omega
          have ek3 : k + 1 - N + N = k + 1 := by omega
          rw [ek2, mvL_succ] at hr
          unfold mvF at hr
          rw [ek3] at hr
          have hlen := one_more (x := Sc.l [Sc.i (Rat.divInt (pre xs (k + 1) - pre xs (k + 1 - N)) N).num, Sc.i (Rat.divInt (pre xs (k + 1) - pre xs (k + 1 - N)) N).den]) (B := 8796093022208) (out := mvL xs N (k + 1 - N)) (k := k) (by rw [mvL_len]; omega) (by omega)
          have es : pre xs k - pre xs (k - N) + xs[k] = pre xs (k + 1) - pre xs (k + 1 - N) := by rw [ez, ez2, ez3, ez2, hp]; omega
          rw [es] at hs1
          simp only [hkl, hi, hx1, hx2, hkn', es, hs1, hwN, hkn1, hof, hlen, hw, hr, Int.natCast_nonneg, bne_iff_ne, beq_iff_eq, ne_eq, decide_eq_true_eq, Bool.and_eq_true, Bool.or_eq_true, Bool.not_eq_true', decide_eq_false_iff_not, beq_eq_false_iff_ne, bne_eq_false_iff_eq, not_true_eq_false, not_false_eq_true, if_true, if_false, reduceIte, and_true, true_and, and_false, false_and, or_false, false_or, or_true, true_or, List.getD_cons_zero, List.getD_cons_succ, List.length_cons, List.length_nil, List.cons_append, List.nil_append, Nat.reduceAdd, Nat.reduceEqDiff, reduceCtorEq, Bool.not_true, Bool.not_false, Bool.true_and, Bool.and_true, Bool.false_and, Bool.and_false, Bool.or_true, Bool.true_or, Bool.or_false, Bool.false_or, Bool.false_eq_true, Bool.true_eq_false, Sc.int_i, Sc.bool_b, Sc.list_l, Sc.str_s, Int.reduceEq, Int.reduceLT, Int.reduceLE, Int.reduceNe, decide_true, decide_false, decide_not, eq_self, Classical.not_not, List.getElem?_cons_zero, List.getElem?_cons_succ, beq_self_eq_true, bne_self_eq_false]
        · have es : pre xs k - pre xs (k - N) + xs[k] = pre xs (k + 1) - pre xs (k + 1 - N) := by rw [ez, ez2, ez3, ez2, hp]; omega
          have ez4 : k + 1 + 1 - N = 0 := by omega
          rw [ez4] at hr
          rw [es] at hs1
          rw [ez3] at hs1 es hr ⊢
          simp only [hkl, hi, hx1, hx2, hkn', es, hs1, hwN, hkn1, hw, hr, Int.natCast_nonneg, bne_iff_ne, beq_iff_eq, ne_eq, decide_eq_true_eq, Bool.and_eq_true, Bool.or_eq_true, Bool.not_eq_true', decide_eq_false_iff_not, beq_eq_false_iff_ne, bne_eq_false_iff_eq, not_true_eq_false, not_false_eq_true, if_true, if_false, reduceIte, and_true, true_and, and_false, false_and, or_false, false_or, or_true, true_or, List.getD_cons_zero, List.getD_cons_succ, List.length_cons, List.length_nil, List.cons_append, List.nil_append, Nat.reduceAdd, Nat.reduceEqDiff, reduceCtorEq, Bool.not_true, Bool.not_false, Bool.true_and, Bool.and_true, Bool.false_and, Bool.and_false, Bool.or_true, Bool.true_or, Bool.or_false, Bool.false_or, Bool.false_eq_true, Bool.true_eq_false, Sc.int_i, Sc.bool_b, Sc.list_l, Sc.str_s, Int.reduceEq, Int.reduceLT, Int.reduceLE, Int.reduceNe, decide_true, decide_false, decide_not, eq_self, Classical.not_not, List.getElem?_cons_zero, List.getElem?_cons_succ, beq_self_eq_true, bne_self_eq_false]
  · have e : k = xs.length := by omega
    have hkl : ¬ (k : Int) < xs.length := by omega
    have hdn : xs.drop k = [] := List.drop_eq_nil_of_le (by omega)
    rw [hdn, e]
    rw [e] at hkl
    simp only [hkl, List.all_nil, Int.natCast_nonneg, bne_iff_ne, beq_iff_eq, ne_eq, decide_eq_true_eq, Bool.and_eq_true, Bool.or_eq_true, Bool.not_eq_true', decide_eq_false_iff_not, beq_eq_false_iff_ne, bne_eq_false_iff_eq, not_true_eq_false, not_false_eq_true, if_true, if_false, reduceIte, and_true, true_and, and_false, false_and, or_false, false_or, or_true, true_or, List.getD_cons_zero, List.getD_cons_succ, List.length_cons, List.length_nil, List.cons_append, List.nil_append, Nat.reduceAdd, Nat.reduceEqDiff, reduceCtorEq, Bool.not_true, Bool.not_false, Bool.true_and, Bool.and_true, Bool.false_and, Bool.and_false, Bool.or_true, Bool.true_or, Bool.or_false, Bool.false_or, Bool.false_eq_true, Bool.true_eq_false, Sc.int_i, Sc.bool_b, Sc.list_l, Sc.str_s, Int.reduceEq, Int.reduceLT, Int.reduceLE, Int.reduceNe, decide_true, decide_false, decide_not, eq_self, Classical.not_not, List.getElem?_cons_zero, List.getElem?_cons_succ, beq_self_eq_true, bne_self_eq_false]
theorem rmoving_F (xs : List Int) (n : Int) : k_simulatorref46_Moving.F [.l (xs.map .i), .i n] = some (mvR xs n) := by
  simp only [k_simulatorref46_Moving_F, tk_simulatorref46_Moving, k_simulatorref02_Of_f, k_simulatorref27_Observation_f, List.length_map, Go.Proofs.Ytfaghnapfkpdhaa.T.den, Ex.ev, U1.ev, U2.ev, U3.ev, gam, List.map, List.getD_cons_zero, List.getD_cons_succ, List.length, List.cons_append, List.nil_append, if_true, Sc.int_i, Sc.bool_b, Sc.list_l, Sc.str_s, Nat.reduceEqDiff, if_false, List.getElem?_cons_zero, List.getElem?_cons_succ]
  unfold mvR
  by_cases h1 : n < 1; · simp only [h1, Int.natCast_nonneg, bne_iff_ne, beq_iff_eq, ne_eq, decide_eq_true_eq, Bool.and_eq_true, Bool.or_eq_true, Bool.not_eq_true', decide_eq_false_iff_not, beq_eq_false_iff_ne, bne_eq_false_iff_eq, not_true_eq_false, not_false_eq_true, if_true, if_false, reduceIte, and_true, true_and, and_false, false_and, or_false, false_or, or_true, true_or, List.getD_cons_zero, List.getD_cons_succ, List.length_cons, List.length_nil, List.cons_append, List.nil_append, Nat.reduceAdd, Nat.reduceEqDiff, reduceCtorEq, Bool.not_true, Bool.not_false, Bool.true_and, Bool.and_true, Bool.false_and, Bool.and_false, Bool.or_true, Bool.true_or, Bool.or_false, Bool.false_or, Bool.false_eq_true, Bool.true_eq_false, Sc.int_i, Sc.bool_b, Sc.list_l, Sc.str_s, Int.reduceEq, Int.reduceLT, Int.reduceLE, Int.reduceNe, decide_true, decide_false, decide_not, eq_self, Classical.not_not, List.getElem?_cons_zero, List.getElem?_cons_succ, beq_self_eq_true, bne_self_eq_false]
  by_cases h2 : 100 < n; · simp only [h1, h2, Int.natCast_nonneg, bne_iff_ne, beq_iff_eq, ne_eq, decide_eq_true_eq, Bool.and_eq_true, Bool.or_eq_true, Bool.not_eq_true', decide_eq_false_iff_not, beq_eq_false_iff_ne, bne_eq_false_iff_eq, not_true_eq_false, not_false_eq_true, if_true, if_false, reduceIte, and_true, true_and, and_false, false_and, or_false, false_or, or_true, true_or, List.getD_cons_zero, List.getD_cons_succ, List.length_cons, List.length_nil, List.cons_append, List.nil_append, Nat.reduceAdd, Nat.reduceEqDiff, reduceCtorEq, Bool.not_true, Bool.not_false, Bool.true_and, Bool.and_true, Bool.false_and, Bool.and_false, Bool.or_true, Bool.true_or, Bool.or_false, Bool.false_or, Bool.false_eq_true, Bool.true_eq_false, Sc.int_i, Sc.bool_b, Sc.list_l, Sc.str_s, Int.reduceEq, Int.reduceLT, Int.reduceLE, Int.reduceNe, decide_true, decide_false, decide_not, eq_self, Classical.not_not, List.getElem?_cons_zero, List.getElem?_cons_succ, beq_self_eq_true, bne_self_eq_false]
  by_cases h3 : 2000 < xs.length
  · have h3' : (2000 : Int) < xs.length := by omega
    simp only [h1, h2, h3, h3', Int.natCast_nonneg, bne_iff_ne, beq_iff_eq, ne_eq, decide_eq_true_eq, Bool.and_eq_true, Bool.or_eq_true, Bool.not_eq_true', decide_eq_false_iff_not, beq_eq_false_iff_ne, bne_eq_false_iff_eq, not_true_eq_false, not_false_eq_true, if_true, if_false, reduceIte, and_true, true_and, and_false, false_and, or_false, false_or, or_true, true_or, List.getD_cons_zero, List.getD_cons_succ, List.length_cons, List.length_nil, List.cons_append, List.nil_append, Nat.reduceAdd, Nat.reduceEqDiff, reduceCtorEq, Bool.not_true, Bool.not_false, Bool.true_and, Bool.and_true, Bool.false_and, Bool.and_false, Bool.or_true, Bool.true_or, Bool.or_false, Bool.false_or, Bool.false_eq_true, Bool.true_eq_false, Sc.int_i, Sc.bool_b, Sc.list_l, Sc.str_s, Int.reduceEq, Int.reduceLT, Int.reduceLE, Int.reduceNe, decide_true, decide_false, decide_not, eq_self, Classical.not_not, List.getElem?_cons_zero, List.getElem?_cons_succ, beq_self_eq_true, bne_self_eq_false]
  have h3' : ¬ (2000 : Int) < xs.length := by omega
  obtain ⟨N, rfl⟩ : ∃ N : Nat, n = N := ⟨n.toNat, by omega⟩
  simp only [h1, h2, h3, h3', Int.toNat_natCast, Int.natCast_nonneg, bne_iff_ne, beq_iff_eq, ne_eq, decide_eq_true_eq, Bool.and_eq_true, Bool.or_eq_true, Bool.not_eq_true', decide_eq_false_iff_not, beq_eq_false_iff_ne, bne_eq_false_iff_eq, not_true_eq_false, not_false_eq_true, if_true, if_false, reduceIte, and_true, true_and, and_false, false_and, or_false, false_or, or_true, true_or, List.getD_cons_zero, List.getD_cons_succ, List.length_cons, List.length_nil, List.cons_append, List.nil_append, Nat.reduceAdd, Nat.reduceEqDiff, reduceCtorEq, Bool.not_true, Bool.not_false, Bool.true_and, Bool.and_true, Bool.false_and, Bool.and_false, Bool.or_true, Bool.true_or, Bool.or_false, Bool.false_or, Bool.false_eq_true, Bool.true_eq_false, Sc.int_i, Sc.bool_b, Sc.list_l, Sc.str_s, Int.reduceEq, Int.reduceLT, Int.reduceLE, Int.reduceNe, decide_true, decide_false, decide_not, eq_self, Classical.not_not, List.getElem?_cons_zero, List.getElem?_cons_succ, beq_self_eq_true, bne_self_eq_false]
  refine (loop_rounds (S := Nat) (fun k => [.i k]) (fun k => some (if (xs.drop k).all valB = true then [.l (mvL xs N (xs.length + 1 - N)), .i 0] else [.l [], .i 2])) (fun k => k ≤ xs.length ∧ (xs.take k).all valB = true) (fun k => xs.length - k) ?_ 0 ⟨by omega, rfl⟩ (by omega)).trans (by simp)
  rintro k rec ⟨hk, hall⟩ hrec
  by_cases h : k < xs.length
  · have hkl : (k : Int) < xs.length := by omega
    have hi := idx_map Sc.i xs k h
    have hw := succ_w (n := xs.length) h (by omega)
    have hts := all_take_succ valB xs k h
    have hd := drop_all h
    have ho := observation_F xs[k]
    cases hv : valB xs[k]
    · rw [hv] at ho
      rw [hv, Bool.false_and] at hd
      simp only [hkl, hi, ho, hd, Int.natCast_nonneg, bne_iff_ne, beq_iff_eq, ne_eq, decide_eq_true_eq, Bool.and_eq_true, Bool.or_eq_true, Bool.not_eq_true', decide_eq_false_iff_not, beq_eq_false_iff_ne, bne_eq_false_iff_eq, not_true_eq_false, not_false_eq_true, if_true, if_false, reduceIte, and_true, true_and, and_false, false_and, or_false, false_or, or_true, true_or, List.getD_cons_zero, List.getD_cons_succ, List.length_cons, List.length_nil, List.cons_append, List.nil_append, Nat.reduceAdd, Nat.reduceEqDiff, reduceCtorEq, Bool.not_true, Bool.not_false, Bool.true_and, Bool.and_true, Bool.false_and, Bool.and_false, Bool.or_true, Bool.true_or, Bool.or_false, Bool.false_or, Bool.false_eq_true, Bool.true_eq_false, Sc.int_i, Sc.bool_b, Sc.list_l, Sc.str_s, Int.reduceEq, Int.reduceLT, Int.reduceLE, Int.reduceNe, decide_true, decide_false, decide_not, eq_self, Classical.not_not, List.getElem?_cons_zero, List.getElem?_cons_succ, beq_self_eq_true, bne_self_eq_false]
    · rw [hv] at ho
      rw [hv, Bool.true_and] at hd
      rw [hv, hall] at hts
      have hr := hrec (k + 1) ⟨by omega, hts⟩ (by omega)
      simp only [hkl, hi, ho, hd, hw, hr, Int.natCast_nonneg, bne_iff_ne, beq_iff_eq, ne_eq, decide_eq_true_eq, Bool.and_eq_true, Bool.or_eq_true, Bool.not_eq_true', decide_eq_false_iff_not, beq_eq_false_iff_ne, bne_eq_false_iff_eq, not_true_eq_false, not_false_eq_true, if_true, if_false, reduceIte, and_true, true_and, and_false, false_and, or_false, false_or, or_true, true_or, List.getD_cons_zero, List.getD_cons_succ, List.length_cons, List.length_nil, List.cons_append, List.nil_append, Nat.reduceAdd, Nat.reduceEqDiff, reduceCtorEq, Bool.not_true, Bool.not_false, Bool.true_and, Bool.and_true, Bool.false_and, Bool.and_false, Bool.or_true, Bool.true_or, Bool.or_false, Bool.false_or, Bool.false_eq_true, Bool.true_eq_false, Sc.int_i, Sc.bool_b, Sc.list_l, Sc.str_s, Int.reduceEq, Int.reduceLT, Int.reduceLE, Int.reduceNe, decide_true, decide_false, decide_not, eq_self, Classical.not_not, List.getElem?_cons_zero, List.getElem?_cons_succ, beq_self_eq_true, bne_self_eq_false]
  · have e : k = xs.length := by omega
    have hkl : ¬ (k : Int) < xs.length := by omega
    have hdn : xs.drop k = [] := List.drop_eq_nil_of_le (by omega)
    rw [hdn]
    simp only [hkl, List.all_nil, Int.natCast_nonneg, bne_iff_ne, beq_iff_eq, ne_eq, decide_eq_true_eq, Bool.and_eq_true, Bool.or_eq_true, Bool.not_eq_true', decide_eq_false_iff_not, beq_eq_false_iff_ne, bne_eq_false_iff_eq, not_true_eq_false, not_false_eq_true, if_true, if_false, reduceIte, and_true, true_and, and_false, false_and, or_false, false_or, or_true, true_or, List.getD_cons_zero, List.getD_cons_succ, List.length_cons, List.length_nil, List.cons_append, List.nil_append, Nat.reduceAdd, Nat.reduceEqDiff, reduceCtorEq, Bool.not_true, Bool.not_false, Bool.true_and, Bool.and_true, Bool.false_and, Bool.and_false, Bool.or_true, Bool.true_or, Bool.or_false, Bool.false_or, Bool.false_eq_true, Bool.true_eq_false, Sc.int_i, Sc.bool_b, Sc.list_l, Sc.str_s, Int.reduceEq, Int.reduceLT, Int.reduceLE, Int.reduceNe, decide_true, decide_false, decide_not, eq_self, Classical.not_not, List.getElem?_cons_zero, List.getElem?_cons_succ, beq_self_eq_true, bne_self_eq_false]
    have hwN : IntKind.i64.wrap ((N : Int) - 1) = (N : Int) - 1 := wr64 (by omega) (by omega)
    have hall2 : (xs.take xs.length).all valB = true := by rw [← e]; exact hall
    have conv : ([.l [], .i (IntKind.i64.wrap ((N : Int) - 1))] : List Sc) = [.l (mvL xs N 0), .i ((N : Int) - 1 + ((0 : Nat) : Int))] := by rw [hwN]; simp [mvL]
    rw [conv]
    refine loop_rounds (S := Nat) (fun j => [.l (mvL xs N j), .i ((N : Int) - 1 + j)]) (fun _ => some [.l (mvL xs N (xs.length + 1 - N)), .i 0]) (fun j => j ≤ xs.length + 1 - N) (fun j => xs.length + 1 - N - j) ?_ 0 (by omega) (by omega)
    intro j rec2 hj hrec2
    by_cases hj2 : j < xs.length + 1 - N
    · have hc : (N : Int) - 1 + j < xs.length := by omega
      have hw1 : IntKind.i64.wrap ((N : Int) - 1 + j - N) = (j : Int) - 1 := by rw [wr64 (by omega) (by omega)]; omega
      have hw2 : IntKind.i64.wrap ((j : Int) - 1 + 1) = j := by rw [wr64 (by omega) (by omega)]; omega
      have hw3 : IntKind.i64.wrap ((N : Int) - 1 + j + 1) = (N : Int) - 1 + ((j + 1 : Nat) : Int) := by rw [wr64 (by omega) (by omega)]; omega
      have hr2 := hrec2 (j + 1) (by omega) (by omega)
      simp only [hc, hw1, hw2, Int.natCast_nonneg, bne_iff_ne, beq_iff_eq, ne_eq, decide_eq_true_eq, Bool.and_eq_true, Bool.or_eq_true, Bool.not_eq_true', decide_eq_false_iff_not, beq_eq_false_iff_ne, bne_eq_false_iff_eq, not_true_eq_false, not_false_eq_true, if_true, if_false, reduceIte, and_true, true_and, and_false, false_and, or_false, false_or, or_true, true_or, List.getD_cons_zero, List.getD_cons_succ, List.length_cons, List.length_nil, List.cons_append, List.nil_append, Nat.reduceAdd, Nat.reduceEqDiff, reduceCtorEq, Bool.not_true, Bool.not_false, Bool.true_and, Bool.and_true, Bool.false_and, Bool.and_false, Bool.or_true, Bool.true_or, Bool.or_false, Bool.false_or, Bool.false_eq_true, Bool.true_eq_false, Sc.int_i, Sc.bool_b, Sc.list_l, Sc.str_s, Int.reduceEq, Int.reduceLT, Int.reduceLE, Int.reduceNe, decide_true, decide_false, decide_not, eq_self, Classical.not_not, List.getElem?_cons_zero, List.getElem?_cons_succ, beq_self_eq_true, bne_self_eq_false]
      have conv2 : ([.i 0, .i j] : List Sc) = [.i (pre xs (j + 0) - pre xs j), .i ((j + 0 : Nat) : Int)] := by simp
      rw [conv2]
      refine loop_rounds (S := Nat) (fun k => [.i (pre xs (j + k) - pre xs j), .i ((j + k : Nat) : Int)]) (fun _ => some [.l (mvL xs N (xs.length + 1 - N)), .i 0]) (fun k => k ≤ N) (fun k => N - k) ?_ 0 (by omega) (by omega)
      intro i rec3 hi3 hrec3
      have hb1 := pre_bound hall2 (by omega) (show j + i ≤ xs.length by omega)
      have hb2 := pre_bound hall2 (by omega) (show j ≤ xs.length by omega)
      by_cases hin : i < N
      · have hc3 : ((j + i : Nat) : Int) ≤ (N : Int) - 1 + j := by omega
        have hlt : j + i < xs.length := by omega
        have hlt' : ((j + i : Nat) : Int) < xs.length := by omega
        have hii := idx_map Sc.i xs (j + i) hlt
        have hp := pre_succ hlt
        have hb3 := pre_bound hall2 (by omega) (show j + i + 1 ≤ xs.length by omega)
        have hr3 := hrec3 (i + 1) (by omega) (by omega)
        rw [← Nat.add_assoc, hp] at hr3
        rw [hp] at hb3
        have hs : IntKind.i64.wrap (pre xs (j + i) - pre xs j + xs[j + i]) = pre xs (j + i) + xs[j + i] - pre xs j := by rw [wr64 (by omega) (by omega)]; omega
        have hwi := succ_w (n := xs.length) hlt (by omega)
        simp only [hc3, hlt', hii, hs, hwi, hr3, Int.natCast_nonneg, bne_iff_ne, beq_iff_eq, ne_eq, decide_eq_true_eq, Bool.and_eq_true, Bool.or_eq_true, Bool.not_eq_true', decide_eq_false_iff_not, beq_eq_false_iff_ne, bne_eq_false_iff_eq, not_true_eq_false, not_false_eq_true, if_true, if_false, reduceIte, and_true, true_and, and_false, false_and, or_false, false_or, or_true, true_or, List.getD_cons_zero, List.getD_cons_succ, List.length_cons, List.length_nil, List.cons_append, List.nil_append, Nat.reduceAdd, Nat.reduceEqDiff, reduceCtorEq, Bool.not_true, Bool.not_false, Bool.true_and, Bool.and_true, Bool.false_and, Bool.and_false, Bool.or_true, Bool.true_or, Bool.or_false, Bool.false_or, Bool.false_eq_true, Bool.true_eq_false, Sc.int_i, Sc.bool_b, Sc.list_l, Sc.str_s, Int.reduceEq, Int.reduceLT, Int.reduceLE, Int.reduceNe, decide_true, decide_false, decide_not, eq_self, Classical.not_not, List.getElem?_cons_zero, List.getElem?_cons_succ, beq_self_eq_true, bne_self_eq_false]
      · have ei : i = N := by omega
        subst ei
        have hc3 : ¬ ((j + i : Nat) : Int) ≤ (i : Int) - 1 + j := by omega
        have hof := rOf_F (pre xs (j + i) - pre xs j) i ⟨by omega, by omega⟩ ⟨by omega, by omega⟩
        rw [ofQ_fit (by omega) (by unfold maxN; omega) (by unfold maxD; omega)] at hof
        rw [mvL_succ] at hr2
        unfold mvF at hr2
        have hlen := one_more (x := Sc.l [Sc.i (Rat.divInt (pre xs (j + i) - pre xs j) i).num, Sc.i (Rat.divInt (pre xs (j + i) - pre xs j) i).den]) (B := 8796093022208) (out := mvL xs i j) (k := j) (by rw [mvL_len]; omega) (by omega)
        simp only [hc3, hof, hlen, hw3, hr2, Int.natCast_nonneg, bne_iff_ne, beq_iff_eq, ne_eq, decide_eq_true_eq, Bool.and_eq_true, Bool.or_eq_true, Bool.not_eq_true', decide_eq_false_iff_not, beq_eq_false_iff_ne, bne_eq_false_iff_eq, not_true_eq_false, not_false_eq_true, if_true, if_false, reduceIte, and_true, true_and, and_false, false_and, or_false, false_or, or_true, true_or, List.getD_cons_zero, List.getD_cons_succ, List.length_cons, List.length_nil, List.cons_append, List.nil_append, Nat.reduceAdd, Nat.reduceEqDiff, reduceCtorEq, Bool.not_true, Bool.not_false, Bool.true_and, Bool.and_true, Bool.false_and, Bool.and_false, Bool.or_true, Bool.true_or, Bool.or_false, Bool.false_or, Bool.false_eq_true, Bool.true_eq_false, Sc.int_i, Sc.bool_b, Sc.list_l, Sc.str_s, Int.reduceEq, Int.reduceLT, Int.reduceLE, Int.reduceNe, decide_true, decide_false, decide_not, eq_self, Classical.not_not, List.getElem?_cons_zero, List.getElem?_cons_succ, beq_self_eq_true, bne_self_eq_false]
    · have ej : j = xs.length + 1 - N := by omega
      have hc : ¬ (N : Int) - 1 + j < xs.length := by omega
      rw [← ej]
      simp only [hc, Int.natCast_nonneg, bne_iff_ne, beq_iff_eq, ne_eq, decide_eq_true_eq, Bool.and_eq_true, Bool.or_eq_true, Bool.not_eq_true', decide_eq_false_iff_not, beq_eq_false_iff_ne, bne_eq_false_iff_eq, not_true_eq_false, not_false_eq_true, if_true, if_false, reduceIte, and_true, true_and, and_false, false_and, or_false, false_or, or_true, true_or, List.getD_cons_zero, List.getD_cons_succ, List.length_cons, List.length_nil, List.cons_append, List.nil_append, Nat.reduceAdd, Nat.reduceEqDiff, reduceCtorEq, Bool.not_true, Bool.not_false, Bool.true_and, Bool.and_true, Bool.false_and, Bool.and_false, Bool.or_true, Bool.true_or, Bool.or_false, Bool.false_or, Bool.false_eq_true, Bool.true_eq_false, Sc.int_i, Sc.bool_b, Sc.list_l, Sc.str_s, Int.reduceEq, Int.reduceLT, Int.reduceLE, Int.reduceNe, decide_true, decide_false, decide_not, eq_self, Classical.not_not, List.getElem?_cons_zero, List.getElem?_cons_succ, beq_self_eq_true, bne_self_eq_false]
end Go.Proofs.Ytfaghnapfkpdhaa
