/-
  ref04.tabled: the run. 
-/
import Derived.Test.YtmaocifplceopaaDoorM04y
namespace Go.Proofs.YtmaocifplceopaaDoor
set_option linter.unusedSimpArgs false
set_option linter.unusedVariables false

/-- Sum of the weights of some indices. -/
def wsum (ws : List Int) : List Nat → Int
  | [] => 0
  | i :: r => ws.getD i 0 + wsum ws r
theorem wsum_perm (ws : List Int) {a b : List Nat} (h : a.Perm b) : wsum ws a = wsum ws b := by
  induction h with
  | nil => rfl
  | cons x _ ih => simp only [wsum, ih]
  | swap x y l => simp only [wsum]; omega
  | trans _ _ h1 h2 => exact h1.trans h2
theorem wsum_app (ws : List Int) : ∀ (a b : List Nat), wsum ws (a ++ b) = wsum ws a + wsum ws b
  | [], b => by simp [wsum]
  | x :: a, b => by simp only [List.cons_append, wsum, wsum_app ws a b]; omega
theorem wsum_range (ws : List Int) : wsum ws (List.range ws.length) = sumI ws := by
  have key : ∀ k, k ≤ ws.length → wsum ws (List.range k) = sumI (ws.take k) := by
    intro k
    induction k with
    | zero => intro _; rfl
    | succ k ih =>
      intro hk
      have t : ws.take (k + 1) = ws.take k ++ [ws[k]] := by rw [List.take_add_one, List.getElem?_eq_getElem (by omega)]; rfl
      rw [List.range_succ, wsum_app, ih (by omega), t, sumI_append]
      simp only [wsum, sumI, List.getD_eq_getElem?_getD, List.getElem?_eq_getElem (show k < ws.length by omega), Option.getD_some]
  rw [key ws.length (Nat.le_refl _), List.take_length]
def usedL (n : Nat) (S : List Nat) : List Sc := (List.range n).map fun i => Sc.b (decide (i ∈ S))
theorem used_len (n : Nat) (S : List Nat) : (usedL n S).length = n := by simp [usedL]
theorem used_at {n : Nat} (S : List Nat) {i : Nat} (h : i < n) : (usedL n S).getD ((i : Int)).toNat (.i 0) = .b (decide (i ∈ S)) := by
  rw [Int.toNat_natCast, List.getD_eq_getElem?_getD, usedL, List.getElem?_map, List.getElem?_range h]; rfl
theorem used_set {n : Nat} (S : List Nat) {i : Nat} (h : i < n) : (usedL n S).set ((i : Int)).toNat (.b true) = usedL n (S ++ [i]) := by
  apply List.ext_getElem?
  intro j
  rw [Int.toNat_natCast, List.getElem?_set]
  simp only [usedL, List.length_map, List.length_range, List.getElem?_map]
  by_cases hj : j < n
  · rw [List.getElem?_range hj]
    by_cases e : i = j
    · subst e; simp [h]
    · have : j ≠ i := fun x => e x.symm
      simp [e, this]
  · have : ¬ i = j := by omega
    rw [if_neg this, List.getElem?_eq_none (by simp; omega)]; rfl
/-- The best of the indices below t that are not used; the number -1: none. -/
def bestOk (v : Nat → Int) (S : List Nat) (t : Nat) (b : Int) : Prop :=
  (b = -1 ∧ ∀ i, i < t → i ∈ S) ∨ ∃ c : Nat, b = c ∧ c < t ∧ c ∉ S ∧ ∀ i, i < t → i ∉ S → i = c ∨ ltI v c i
theorem best_step {v : Nat → Int} {S : List Nat} {t : Nat} {b : Int} (h : bestOk v S t b) :
    (t ∈ S → bestOk v S (t + 1) b) ∧ (t ∉ S → b < 0 → bestOk v S (t + 1) t) ∧ (t ∉ S → ¬ b < 0 → ∃ c : Nat, b = c ∧ c < t ∧ (v t < v c → bestOk v S (t + 1) t) ∧ (¬ v t < v c → bestOk v S (t + 1) b)) := by
  refine ⟨fun ht => ?_, fun ht hb => ?_, fun ht hb => ?_⟩
  · rcases h with ⟨e, h⟩ | ⟨c, e, h1, h2, h3⟩
    · refine .inl ⟨e, fun i hi => ?_⟩
      by_cases q : i = t
      · subst q; exact ht
      · exact h i (by omega)
    · refine .inr ⟨c, e, by omega, h2, fun i hi hn => ?_⟩
      by_cases q : i = t
      · subst q; exact absurd ht hn
      · exact h3 i (by omega) hn
  · rcases h with ⟨e, h⟩ | ⟨c, e, h1, h2, h3⟩
    · refine .inr ⟨t, rfl, by omega, ht, fun i hi hn => ?_⟩
      by_cases q : i = t
      · exact .inl q
      · exact absurd (h i (by omega)) hn
    · omega
  · rcases h with ⟨e, h⟩ | ⟨c, e, h1, h2, h3⟩
    · omega
    · refine ⟨c, e, h1, fun q => .inr ⟨t, rfl, by omega, ht, fun i hi hn => ?_⟩, fun q => .inr ⟨c, e, by omega, h2, fun i hi hn => ?_⟩⟩
      · by_cases z : i = t
        · exact .inl z
        · right
          rcases h3 i (by omega) hn with rfl | h4
          · exact .inl q
          · exact ltI_trans (.inl q) h4
      · by_cases z : i = t
        · subst z; right; unfold ltI; omega
        · exact h3 i (by omega) hn
/-- With m taken, the best one is the next of the order. -/
theorem best_next {v : Nat → Int} {n m : Nat} {b : Int} (hm : m < n) (h : bestOk v ((srt v n).take m) n b) : b = ((srt v n)[m]'(by rw [srt_len]; exact hm) : Nat) := by
  have hl : m < (srt v n).length := by rw [srt_len]; exact hm
  have hs := srt_sorted v n
  have e : (srt v n) = (srt v n).take m ++ (srt v n)[m] :: (srt v n).drop (m + 1) := by rw [← List.drop_eq_getElem_cons hl, List.take_append_drop]
  have hd := srt_lt (List.getElem_mem hl)
  have hmem : ∀ i, i < n → i ∈ srt v n := fun i hi => (srt_perm v n).mem_iff.2 (List.mem_range.2 hi)
  generalize (srt v n)[m] = x at *
  generalize ht : (srt v n).take m = A at *
  generalize hdd : (srt v n).drop (m + 1) = B at *
  rw [e] at hs hmem
  obtain ⟨p1, p2, p3⟩ := List.pairwise_append.1 hs
  obtain ⟨p4, p5⟩ := List.pairwise_cons.1 p2
  have hx : x ∉ A := fun hx => ltI_irr (p3 x hx x (List.mem_cons_self ..))
  rcases h with ⟨e, h⟩ | ⟨c, e, h1, h2, h3⟩
  · exact absurd (h x hd) hx
  · subst e
    rcases h3 x hd hx with h | h
    · omega
    · rcases List.mem_append.1 (hmem c h1) with h4 | h4
      · exact absurd h4 h2
      · rcases List.mem_cons.1 h4 with rfl | h5
        · rfl
        · exact absurd (ltI_trans h (p4 c h5)) ltI_irr
theorem tabled_F (op a b n : Int) (vs ws : List Int) (u : Nat) (hl : vs.length = ws.length) (h1 : 1 ≤ vs.length) (h20 : vs.length ≤ 20) (hw : ∀ x ∈ ws, 1 ≤ x ∧ x ≤ 1000) (hu : u < 18446744073709551616) : k_simulatorref04_tabled.F [.i op, .i a, .i b, .i n, .l (vs.map .i), .l (ws.map .i), .i u] = some [.i (tabV vs ws u)] := by
  have W := rsum_F ws hw (by omega)
  have sb := sum_bound (B := 1000) (by omega) ws (fun x hx => by have := hw x hx; omega)
  have sp : 0 ≤ sumI ws := sum_nn ws fun x hx => by have := hw x hx; omega
  obtain ⟨S, hS⟩ : ∃ S : Nat, sumI ws = S := ⟨(sumI ws).toNat, by omega⟩
  have hS0 : 0 < S := by
    cases ws with
    | nil => simp only [List.length_nil] at hl; omega
    | cons x r =>
      have := sum_nn r fun y hy => by have := hw y (List.mem_cons_of_mem _ hy); omega
      have := hw x (List.mem_cons_self ..)
      simp only [sumI] at hS; omega
  have U := rupper_F u S hu (by omega)
  have hk0 : 0 ≤ hiW (u * S) ∧ hiW (u * S) < S := by
    refine ⟨hi_nonneg _, ?_⟩
    have : u * S / 18446744073709551616 < S := by
      rw [Nat.div_lt_iff_lt_mul (by omega), Nat.mul_comm u S]
      exact Nat.mul_lt_mul_of_pos_left hu hS0
    unfold hiW; omega
  have hws : ∀ i ∈ srt (vat vs) vs.length, 1 ≤ ws.getD i 0 ∧ ws.getD i 0 ≤ 1000 := fun i hi => by
    have := srt_lt hi
    rw [List.getD_eq_getElem?_getD, List.getElem?_eq_getElem (by omega)]
    exact hw _ (List.getElem_mem _)
  have tot : wsum ws (srt (vat vs) vs.length) = S := by rw [wsum_perm ws (srt_perm _ _), hl, wsum_range, hS]
  have eT : tabV vs ws u = pickS vs ws (srt (vat vs) vs.length) (hiW (u * S)) := by unfold tabV; rw [hS]; rfl
  rw [eT]
  have wS : IntKind.u64.wrap (S : Int) = S := by rw [IntKind.wrap_u64]; omega
  have wK : IntKind.i64.wrap (hiW (u * S)) = hiW (u * S) := wrJ (by omega) (by omega)
  generalize hiW (u * S) = k0 at *
  simp only [k_simulatorref04_tabled_F, tk_simulatorref04_tabled, k_simulatorref04_Sum_f, k_simulatorref04_Upper_f, List.length_map, W, hS, wS, U, wK, Go.Proofs.YtmaocifplceopaaDoor.T.den, Ex.ev, U1.ev, U2.ev, U3.ev, gam, List.map, List.getD_cons_zero, List.getD_cons_succ, List.length, List.cons_append, List.nil_append, if_true, int_n, bool_n, list_n, Sc.str_s, Nat.reduceEqDiff, if_false, List.getElem?_cons_zero, List.getElem?_cons_succ]
  have n1 : (0 : Int) ≤ vs.length := by omega
  have n2 : (vs.length : Int) ≤ 16777216 := by omega
  have n3 : (vs.length : Int) ≤ vs.length := by omega
  simp only [n1, n2, n3, decide_true, if_true]
  have ln := srt_len (vat vs) vs.length
  have hlt := fun i (hi : i ∈ srt (vat vs) vs.length) => srt_lt hi
  have bn : ∀ (m : Nat) (b : Int), m < vs.length → bestOk (vat vs) ((srt (vat vs) vs.length).take m) vs.length b → ∀ x : Nat, (srt (vat vs) vs.length)[m]? = some x → b = x := fun m b hm h x hx => by
    rw [best_next hm h, (List.getElem?_eq_some_iff.1 hx).2]
  generalize srt (vat vs) vs.length = L at *
  have er : List.replicate (vs.length : Int).toNat (Sc.b false) = usedL vs.length (L.take 0) := by
    rw [Int.toNat_natCast]
    apply List.ext_getElem (by simp [usedL])
    intro i h1 h2
    simp [usedL]
  rw [er]
  refine loop_rounds (S := Nat × Int × Int) (fun s => [.i s.2.1, .i s.2.2, .i (s.1 : Int), .l (usedL vs.length (L.take s.1))]) (fun s => some [.i (pickS vs ws (L.drop s.1) s.2.2)]) (fun s => s.1 ≤ vs.length ∧ 0 ≤ s.2.2 ∧ s.2.2 < wsum ws (L.drop s.1) ∧ s.2.2 < 1000000) (fun s => vs.length - s.1) ?_ (0, 0, k0) ⟨by simp only; omega, hk0.1, by simp only [List.drop_zero]; omega, by simp only; omega⟩ (by simp only; omega)
  rintro ⟨m, b0, k⟩ rec ⟨i1, i2, i3, i4⟩ hrec
  simp only at i1 i2 i3 i4 hrec ⊢
  have hm : m < vs.length := by
    rcases Nat.lt_or_ge m vs.length with h | h
    · exact h
    · rw [List.drop_eq_nil_of_le (by omega)] at i3; simp only [wsum] at i3; omega
  have k1 : (m : Int) < vs.length := by omega
  simp only [k1, Int.natCast_nonneg, bne_iff_ne, beq_iff_eq, ne_eq, decide_eq_true_eq, Bool.and_eq_true, Bool.or_eq_true, Bool.not_eq_true', decide_eq_false_iff_not, beq_eq_false_iff_ne, bne_eq_false_iff_eq, not_true_eq_false, not_false_eq_true, if_true, if_false, reduceIte, and_true, true_and, and_false, false_and, or_false, false_or, or_true, true_or, List.getD_cons_zero, List.getD_cons_succ, List.length_cons, List.length_nil, List.cons_append, List.nil_append, Nat.reduceAdd, Nat.reduceEqDiff, reduceCtorEq, Bool.not_true, Bool.not_false, Bool.true_and, Bool.and_true, Bool.false_and, Bool.and_false, Bool.or_true, Bool.true_or, Bool.or_false, Bool.false_or, Bool.false_eq_true, Bool.true_eq_false, int_n, bool_n, list_n, Sc.str_s, Int.reduceEq, Int.reduceLT, Int.reduceLE, Int.reduceNe, decide_true, decide_false, decide_not, eq_self, Classical.not_not, List.getElem?_cons_zero, List.getElem?_cons_succ, beq_self_eq_true, bne_self_eq_false]
  refine loop_rounds (S := Nat × Int) (fun s => [.i s.2, .i (s.1 : Int)]) (fun _ => some [.i (pickS vs ws (L.drop m) k)]) (fun s => s.1 ≤ vs.length ∧ bestOk (vat vs) (L.take m) s.1 s.2) (fun s => vs.length - s.1) ?_ (0, -1) ⟨by simp only; omega, .inl ⟨rfl, by simp only; omega⟩⟩ (by simp only; omega)
  rintro ⟨t, b1⟩ rec2 ⟨j1, j2⟩ hrec2
  simp only at j1 j2 hrec2 ⊢
  by_cases ht : t < vs.length
  · have k2 : (t : Int) < vs.length := by omega
    have ul : (t : Int) < ((usedL vs.length (L.take m)).length : Int) := by rw [used_len]; omega
    have ua := used_at (n := vs.length) (L.take m) ht
    have hs := succ_w (n := vs.length) ht (by omega)
    have hr := fun b h => hrec2 (t + 1, b) ⟨by simp only; omega, h⟩ (by simp only; omega)
    simp only at hr
    obtain ⟨s1, s2, s3⟩ := best_step j2
    by_cases c1 : t ∈ L.take m
    · have h := hr b1 (s1 c1)
      simp only [k2, ul, ua, c1, hs, h, Int.natCast_nonneg, bne_iff_ne, beq_iff_eq, ne_eq, decide_eq_true_eq, Bool.and_eq_true, Bool.or_eq_true, Bool.not_eq_true', decide_eq_false_iff_not, beq_eq_false_iff_ne, bne_eq_false_iff_eq, not_true_eq_false, not_false_eq_true, if_true, if_false, reduceIte, and_true, true_and, and_false, false_and, or_false, false_or, or_true, true_or, List.getD_cons_zero, List.getD_cons_succ, List.length_cons, List.length_nil, List.cons_append, List.nil_append, Nat.reduceAdd, Nat.reduceEqDiff, reduceCtorEq, Bool.not_true, Bool.not_false, Bool.true_and, Bool.and_true, Bool.false_and, Bool.and_false, Bool.or_true, Bool.true_or, Bool.or_false, Bool.false_or, Bool.false_eq_true, Bool.true_eq_false, int_n, bool_n, list_n, Sc.str_s, Int.reduceEq, Int.reduceLT, Int.reduceLE, Int.reduceNe, decide_true, decide_false, decide_not, eq_self, Classical.not_not, List.getElem?_cons_zero, List.getElem?_cons_succ, beq_self_eq_true, bne_self_eq_false]
    by_cases c2 : b1 < 0
    · have h := hr t (s2 c1 c2)
      simp only [k2, ul, ua, c1, c2, hs, h, Int.natCast_nonneg, bne_iff_ne, beq_iff_eq, ne_eq, decide_eq_true_eq, Bool.and_eq_true, Bool.or_eq_true, Bool.not_eq_true', decide_eq_false_iff_not, beq_eq_false_iff_ne, bne_eq_false_iff_eq, not_true_eq_false, not_false_eq_true, if_true, if_false, reduceIte, and_true, true_and, and_false, false_and, or_false, false_or, or_true, true_or, List.getD_cons_zero, List.getD_cons_succ, List.length_cons, List.length_nil, List.cons_append, List.nil_append, Nat.reduceAdd, Nat.reduceEqDiff, reduceCtorEq, Bool.not_true, Bool.not_false, Bool.true_and, Bool.and_true, Bool.false_and, Bool.and_false, Bool.or_true, Bool.true_or, Bool.or_false, Bool.false_or, Bool.false_eq_true, Bool.true_eq_false, int_n, bool_n, list_n, Sc.str_s, Int.reduceEq, Int.reduceLT, Int.reduceLE, Int.reduceNe, decide_true, decide_false, decide_not, eq_self, Classical.not_not, List.getElem?_cons_zero, List.getElem?_cons_succ, beq_self_eq_true, bne_self_eq_false]
    obtain ⟨c, rfl, c3, c4, c5⟩ := s3 c1 c2
    have d1 := idxD vs t ht
    have d2 := idxD vs c (by omega)
    have k3 : (c : Int) < vs.length := by omega
    unfold vat at c4 c5
    by_cases c6 : vs.getD t 0 < vs.getD c 0
    · have h := hr t (c4 c6)
      simp only [k2, k3, ul, ua, c1, c2, c6, d1, d2, hs, h, Int.natCast_nonneg, bne_iff_ne, beq_iff_eq, ne_eq, decide_eq_true_eq, Bool.and_eq_true, Bool.or_eq_true, Bool.not_eq_true', decide_eq_false_iff_not, beq_eq_false_iff_ne, bne_eq_false_iff_eq, not_true_eq_false, not_false_eq_true, if_true, if_false, reduceIte, and_true, true_and, and_false, false_and, or_false, false_or, or_true, true_or, List.getD_cons_zero, List.getD_cons_succ, List.length_cons, List.length_nil, List.cons_append, List.nil_append, Nat.reduceAdd, Nat.reduceEqDiff, reduceCtorEq, Bool.not_true, Bool.not_false, Bool.true_and, Bool.and_true, Bool.false_and, Bool.and_false, Bool.or_true, Bool.true_or, Bool.or_false, Bool.false_or, Bool.false_eq_true, Bool.true_eq_false, int_n, bool_n, list_n, Sc.str_s, Int.reduceEq, Int.reduceLT, Int.reduceLE, Int.reduceNe, decide_true, decide_false, decide_not, eq_self, Classical.not_not, List.getElem?_cons_zero, List.getElem?_cons_succ, beq_self_eq_true, bne_self_eq_false]
    · have h := hr c (c5 c6)
      simp only [k2, k3, ul, ua, c1, c2, c6, d1, d2, hs, h, Int.natCast_nonneg, bne_iff_ne, beq_iff_eq, ne_eq, decide_eq_true_eq, Bool.and_eq_true, Bool.or_eq_true, Bool.not_eq_true', decide_eq_false_iff_not, beq_eq_false_iff_ne, bne_eq_false_iff_eq, not_true_eq_false, not_false_eq_true, if_true, if_false, reduceIte, and_true, true_and, and_false, false_and, or_false, false_or, or_true, true_or, List.getD_cons_zero, List.getD_cons_succ, List.length_cons, List.length_nil, List.cons_append, List.nil_append, Nat.reduceAdd, Nat.reduceEqDiff, reduceCtorEq, Bool.not_true, Bool.not_false, Bool.true_and, Bool.and_true, Bool.false_and, Bool.and_false, Bool.or_true, Bool.true_or, Bool.or_false, Bool.false_or, Bool.false_eq_true, Bool.true_eq_false, int_n, bool_n, list_n, Sc.str_s, Int.reduceEq, Int.reduceLT, Int.reduceLE, Int.reduceNe, decide_true, decide_false, decide_not, eq_self, Classical.not_not, List.getElem?_cons_zero, List.getElem?_cons_succ, beq_self_eq_true, bne_self_eq_false]
  · have et : t = vs.length := by omega
    subst et
    have k2 : ¬ (vs.length : Int) < vs.length := by omega
    have hm' : m < L.length := by omega
    have eb := bn m b1 hm j2 _ (List.getElem?_eq_getElem hm')
    have hj := hlt _ (List.getElem_mem hm')
    have hb := hws _ (List.getElem_mem hm')
    have ed : L.drop m = L[m] :: L.drop (m + 1) := List.drop_eq_getElem_cons hm'
    have et : L.take (m + 1) = L.take m ++ [L[m]] := by rw [List.take_add_one, List.getElem?_eq_getElem hm']; rfl
    have hrec := hrec
    have hR := fun b q h1 h2 => hrec (m + 1, b, q) h1 h2
    simp only [et] at hR
    rw [ed] at i3 ⊢
    subst eb
    generalize L[m] = j at *
    simp only [wsum] at i3
    have d1 := idxD vs j hj
    have d2 := idxD ws j (by omega)
    have q1 : (j : Int) < vs.length := by omega
    have q2 : (j : Int) < ws.length := by omega
    have q3 : (j : Int) < ((usedL vs.length (L.take m)).length : Int) := by rw [used_len]; omega
    have q4 : IntKind.i64.wrap (k - ws.getD j 0) = k - ws.getD j 0 := wrJ (by omega) (by omega)
    have us := used_set (n := vs.length) (L.take m) hj
    have hs := succ_w (n := vs.length) hm (by omega)
    unfold pickS
    by_cases c : k < ws.getD j 0
    · have c' : k - ws.getD j 0 < 0 := by omega
      rw [if_pos c]
      simp only [k2, q1, q2, q3, q4, d1, d2, c', Int.natCast_nonneg, bne_iff_ne, beq_iff_eq, ne_eq, decide_eq_true_eq, Bool.and_eq_true, Bool.or_eq_true, Bool.not_eq_true', decide_eq_false_iff_not, beq_eq_false_iff_ne, bne_eq_false_iff_eq, not_true_eq_false, not_false_eq_true, if_true, if_false, reduceIte, and_true, true_and, and_false, false_and, or_false, false_or, or_true, true_or, List.getD_cons_zero, List.getD_cons_succ, List.length_cons, List.length_nil, List.cons_append, List.nil_append, Nat.reduceAdd, Nat.reduceEqDiff, reduceCtorEq, Bool.not_true, Bool.not_false, Bool.true_and, Bool.and_true, Bool.false_and, Bool.and_false, Bool.or_true, Bool.true_or, Bool.or_false, Bool.false_or, Bool.false_eq_true, Bool.true_eq_false, int_n, bool_n, list_n, Sc.str_s, Int.reduceEq, Int.reduceLT, Int.reduceLE, Int.reduceNe, decide_true, decide_false, decide_not, eq_self, Classical.not_not, List.getElem?_cons_zero, List.getElem?_cons_succ, beq_self_eq_true, bne_self_eq_false]
    · have c' : ¬ k - ws.getD j 0 < 0 := by omega
      rw [if_neg c]
      have hr := hR (j : Int) (k - ws.getD j 0) ⟨by omega, by omega, by omega, by omega⟩ (by omega)
      simp only [k2, q1, q2, q3, q4, d1, d2, c', us, hs, hr, Int.natCast_nonneg, bne_iff_ne, beq_iff_eq, ne_eq, decide_eq_true_eq, Bool.and_eq_true, Bool.or_eq_true, Bool.not_eq_true', decide_eq_false_iff_not, beq_eq_false_iff_ne, bne_eq_false_iff_eq, not_true_eq_false, not_false_eq_true, if_true, if_false, reduceIte, and_true, true_and, and_false, false_and, or_false, false_or, or_true, true_or, List.getD_cons_zero, List.getD_cons_succ, List.length_cons, List.length_nil, List.cons_append, List.nil_append, Nat.reduceAdd, Nat.reduceEqDiff, reduceCtorEq, Bool.not_true, Bool.not_false, Bool.true_and, Bool.and_true, Bool.false_and, Bool.and_false, Bool.or_true, Bool.true_or, Bool.or_false, Bool.false_or, Bool.false_eq_true, Bool.true_eq_false, int_n, bool_n, list_n, Sc.str_s, Int.reduceEq, Int.reduceLT, Int.reduceLE, Int.reduceNe, decide_true, decide_false, decide_not, eq_self, Classical.not_not, List.getElem?_cons_zero, List.getElem?_cons_succ, beq_self_eq_true, bne_self_eq_false]
end Go.Proofs.YtmaocifplceopaaDoor
