/-
  dist.choose: the run. 
-/
import Derived.Test.YtmaocifplceopaaDoorM04x
namespace Go.Proofs.YtmaocifplceopaaDoor
set_option linter.unusedSimpArgs false
set_option linter.unusedVariables false

theorem cmp_F (a b : Int) : k_cmp_Compare_int_.F [.i a, .i b] = some [.i (if a < b then -1 else if b < a then 1 else 0)] := by
  have z : ∀ x : Int, k_cmp_isNaN_int_.F [.i x] = some [.b false] := fun x => by
    simp only [k_cmp_isNaN_int__F, tk_cmp_isNaN_int_, Go.Proofs.YtmaocifplceopaaDoor.T.den, Ex.ev, U1.ev, U2.ev, U3.ev, gam, List.map, List.getD_cons_zero, List.getD_cons_succ, List.length, List.cons_append, List.nil_append, if_true, int_n, bool_n, list_n, Sc.str_s, Nat.reduceEqDiff, if_false, List.getElem?_cons_zero, List.getElem?_cons_succ]
    simp
  simp only [k_cmp_Compare_int__F, tk_cmp_Compare_int_, k_cmp_isNaN_int__f, z, Go.Proofs.YtmaocifplceopaaDoor.T.den, Ex.ev, U1.ev, U2.ev, U3.ev, gam, List.map, List.getD_cons_zero, List.getD_cons_succ, List.length, List.cons_append, List.nil_append, if_true, int_n, bool_n, list_n, Sc.str_s, Nat.reduceEqDiff, if_false, List.getElem?_cons_zero, List.getElem?_cons_succ]
  by_cases h1 : a < b
  · simp only [h1, Int.natCast_nonneg, bne_iff_ne, beq_iff_eq, ne_eq, decide_eq_true_eq, Bool.and_eq_true, Bool.or_eq_true, Bool.not_eq_true', decide_eq_false_iff_not, beq_eq_false_iff_ne, bne_eq_false_iff_eq, not_true_eq_false, not_false_eq_true, if_true, if_false, reduceIte, and_true, true_and, and_false, false_and, or_false, false_or, or_true, true_or, List.getD_cons_zero, List.getD_cons_succ, List.length_cons, List.length_nil, List.cons_append, List.nil_append, Nat.reduceAdd, Nat.reduceEqDiff, reduceCtorEq, Bool.not_true, Bool.not_false, Bool.true_and, Bool.and_true, Bool.false_and, Bool.and_false, Bool.or_true, Bool.true_or, Bool.or_false, Bool.false_or, Bool.false_eq_true, Bool.true_eq_false, int_n, bool_n, list_n, Sc.str_s, Int.reduceEq, Int.reduceLT, Int.reduceLE, Int.reduceNe, decide_true, decide_false, decide_not, eq_self, Classical.not_not, List.getElem?_cons_zero, List.getElem?_cons_succ, beq_self_eq_true, bne_self_eq_false]
  by_cases h2 : b < a
  · simp only [h1, h2, Int.natCast_nonneg, bne_iff_ne, beq_iff_eq, ne_eq, decide_eq_true_eq, Bool.and_eq_true, Bool.or_eq_true, Bool.not_eq_true', decide_eq_false_iff_not, beq_eq_false_iff_ne, bne_eq_false_iff_eq, not_true_eq_false, not_false_eq_true, if_true, if_false, reduceIte, and_true, true_and, and_false, false_and, or_false, false_or, or_true, true_or, List.getD_cons_zero, List.getD_cons_succ, List.length_cons, List.length_nil, List.cons_append, List.nil_append, Nat.reduceAdd, Nat.reduceEqDiff, reduceCtorEq, Bool.not_true, Bool.not_false, Bool.true_and, Bool.and_true, Bool.false_and, Bool.and_false, Bool.or_true, Bool.true_or, Bool.or_false, Bool.false_or, Bool.false_eq_true, Bool.true_eq_false, int_n, bool_n, list_n, Sc.str_s, Int.reduceEq, Int.reduceLT, Int.reduceLE, Int.reduceNe, decide_true, decide_false, decide_not, eq_self, Classical.not_not, List.getElem?_cons_zero, List.getElem?_cons_succ, beq_self_eq_true, bne_self_eq_false]
  simp only [h1, h2, Int.natCast_nonneg, bne_iff_ne, beq_iff_eq, ne_eq, decide_eq_true_eq, Bool.and_eq_true, Bool.or_eq_true, Bool.not_eq_true', decide_eq_false_iff_not, beq_eq_false_iff_ne, bne_eq_false_iff_eq, not_true_eq_false, not_false_eq_true, if_true, if_false, reduceIte, and_true, true_and, and_false, false_and, or_false, false_or, or_true, true_or, List.getD_cons_zero, List.getD_cons_succ, List.length_cons, List.length_nil, List.cons_append, List.nil_append, Nat.reduceAdd, Nat.reduceEqDiff, reduceCtorEq, Bool.not_true, Bool.not_false, Bool.true_and, Bool.and_true, Bool.false_and, Bool.and_false, Bool.or_true, Bool.true_or, Bool.or_false, Bool.false_or, Bool.false_eq_true, Bool.true_eq_false, int_n, bool_n, list_n, Sc.str_s, Int.reduceEq, Int.reduceLT, Int.reduceLE, Int.reduceNe, decide_true, decide_false, decide_not, eq_self, Classical.not_not, List.getElem?_cons_zero, List.getElem?_cons_succ, beq_self_eq_true, bne_self_eq_false]
theorem cmp_lt (a b : Int) : (if a < b then (-1 : Int) else if b < a then 1 else 0) < 0 ↔ a < b := by
  split
  · omega
  split <;> omega

/-- The sorted order of the first i indices. -/
def srt (v : Nat → Int) : Nat → List Nat
  | 0 => []
  | i + 1 => insR v (srt v i).reverse i []
theorem insR_app (v : Nat → Int) : ∀ (r : List Nat) (x : Nat) (post q : List Nat), insR v r x (post ++ q) = insR v r x post ++ q
  | [], x, post, q => rfl
  | y :: r, x, post, q => by
    unfold insR
    split
    · exact insR_app v r x (y :: post) q
    · simp
theorem srt_perm (v : Nat → Int) : ∀ i, (srt v i).Perm (List.range i)
  | 0 => List.Perm.refl _
  | i + 1 => by
    unfold srt
    refine (insR_perm v _ i []).trans ?_
    rw [List.reverse_reverse, List.range_succ]
    exact (srt_perm v i).append_right _
theorem srt_lt {v : Nat → Int} {i y : Nat} (h : y ∈ srt v i) : y < i := List.mem_range.1 ((srt_perm v i).mem_iff.1 h)
theorem srt_len (v : Nat → Int) (i : Nat) : (srt v i).length = i := by rw [(srt_perm v i).length_eq, List.length_range]
theorem srt_sorted (v : Nat → Int) : ∀ i, (srt v i).Pairwise (ltI v)
  | 0 => List.Pairwise.nil
  | i + 1 => by
    unfold srt
    refine insR_sorted v _ i [] ?_ ?_ List.Pairwise.nil ?_ ?_
    · rw [List.reverse_reverse]; exact srt_sorted v i
    · intro y hy; exact srt_lt (List.mem_reverse.1 hy)
    · intro y _ z hz; cases hz
    · intro z hz; cases hz
def encN (l : List Nat) : List Sc := l.map fun (i : Nat) => Sc.i (i : Int)
theorem encN_len (l : List Nat) : (encN l).length = l.length := List.length_map ..
theorem encN_x (r : List Nat) (y x : Nat) (post : List Nat) : (encN (r.reverse ++ y :: x :: post)).getD (((r.length + 1 : Nat) : Int)).toNat (.i 0) = .i x := by
  simp [encN, List.getD_eq_getElem?_getD, List.getElem?_append_right]
theorem encN_y (r : List Nat) (y x : Nat) (post : List Nat) : (encN (r.reverse ++ y :: x :: post)).getD (((r.length : Nat) : Int)).toNat (.i 0) = .i y := by
  simp [encN, List.getD_eq_getElem?_getD, List.getElem?_append_right]
theorem encN_sw (r : List Nat) (y x : Nat) (post : List Nat) : ((encN (r.reverse ++ y :: x :: post)).set (((r.length + 1 : Nat) : Int)).toNat (.i y)).set (((r.length : Nat) : Int)).toNat (.i x) = encN (r.reverse ++ x :: y :: post) := by
  simp [encN]
/-- The inner loop of the insertion. -/
theorem ins_inner {g : (List Sc → Option (List Sc)) → List Sc → Option (List Sc)} {R : List Sc → Option (List Sc)} (v : Nat → Int) (n : Nat)
    (h0 : ∀ rec x post, g rec [.i 0, .l (encN (x :: post))] = R (encN (x :: post)))
    (h1 : ∀ rec (y : Nat) (r : List Nat) (x : Nat) (post : List Nat), y < n → x < n → r.length + 1 + 1 + post.length = n → (v x < v y → g rec [.i ((r.length + 1 : Nat) : Int), .l (encN (r.reverse ++ y :: x :: post))] = rec [.i (r.length : Int), .l (encN (r.reverse ++ x :: y :: post))]) ∧ (¬ v x < v y → g rec [.i ((r.length + 1 : Nat) : Int), .l (encN (r.reverse ++ y :: x :: post))] = R (encN (r.reverse ++ y :: x :: post))))
    (r : List Nat) (x : Nat) (post : List Nat) (hr : ∀ y ∈ r, y < n) (hx : x < n) (hl : r.length + 1 + post.length = n) (hn : n ≤ 20) : loopN g rounds [.i (r.length : Int), .l (encN (r.reverse ++ x :: post))] = R (encN (insR v r x post)) := by
  refine loop_rounds (S := List Nat × List Nat) (fun s => [.i (s.1.length : Int), .l (encN (s.1.reverse ++ x :: s.2))]) (fun s => R (encN (insR v s.1 x s.2))) (fun s => (∀ y ∈ s.1, y < n) ∧ s.1.length + 1 + s.2.length = n) (fun s => s.1.length) ?_ (r, post) ⟨hr, hl⟩ (by simp only; omega)
  rintro ⟨r, post⟩ rec ⟨q1, q2⟩ hrec
  simp only at q1 q2 hrec ⊢
  cases r with
  | nil => exact h0 rec x post
  | cons y r =>
    simp only [List.length_cons] at q2
    have hh := h1 rec y r x post (q1 y (List.mem_cons_self ..)) hx (by omega)
    have e : (y :: r).reverse ++ x :: post = r.reverse ++ y :: x :: post := by simp
    rw [e]
    unfold insR
    split
    · rename_i hlt
      have := hrec (r, y :: post) ⟨fun z hz => q1 z (List.mem_cons_of_mem _ hz), by simp only [List.length_cons]; omega⟩ (by simp)
      exact (hh.1 hlt).trans this
    · rename_i hlt
      rw [← e] at hh ⊢
      exact (hh.2 hlt).trans (by rw [e])

theorem ins_at {g : (List Sc → Option (List Sc)) → List Sc → Option (List Sc)} {v : Nat → Int} {n : Nat} {r : List Nat} {x : Nat} {post : List Nat} {j : Nat} {L : List Nat} {res : Option (List Sc)} (R : List Sc → Option (List Sc)) 
    (hr : ∀ y ∈ r, y < n) (hx : x < n) (hl : r.length + 1 + post.length = n) (hn : n ≤ 20) (ej : r.length = j) (eL : L = r.reverse ++ x :: post) (er : R (encN (insR v r x post)) = res)
    (h0 : ∀ rec x post, g rec [.i 0, .l (encN (x :: post))] = R (encN (x :: post)))
    (h1 : ∀ rec (y : Nat) (r : List Nat) (x : Nat) (post : List Nat), y < n → x < n → r.length + 1 + 1 + post.length = n → (v x < v y → g rec [.i ((r.length + 1 : Nat) : Int), .l (encN (r.reverse ++ y :: x :: post))] = rec [.i (r.length : Int), .l (encN (r.reverse ++ x :: y :: post))]) ∧ (¬ v x < v y → g rec [.i ((r.length + 1 : Nat) : Int), .l (encN (r.reverse ++ y :: x :: post))] = R (encN (r.reverse ++ y :: x :: post)))) :
    loopN g rounds [.i (j : Int), .l (encN L)] = res := by
  rw [← ej, eL, ← er]; exact ins_inner v n h0 h1 r x post hr hx hl hn
/-- The value for the place k of the weights. -/
def pickS (vs ws : List Int) : List Nat → Int → Int
  | [], _ => 0
  | i :: r, k => if k < ws.getD i 0 then vs.getD i 0 else pickS vs ws r (k - ws.getD i 0)
theorem idxD (xs : List Int) (i : Nat) (h : i < xs.length) : (xs.map Sc.i).getD ((i : Int)).toNat (.i 0) = .i (xs.getD i 0) := by
  rw [idx_map Sc.i xs i h, List.getD_eq_getElem?_getD, List.getElem?_eq_getElem h]; rfl
theorem pick_loop {g : (List Sc → Option (List Sc)) → List Sc → Option (List Sc)} (vs ws : List Int) (L : List Nat) (k0 : Int)
    (h : ∀ rec k m (hm : m < L.length), -1000000 ≤ k → k ≤ 1000000 → (k < ws.getD L[m] 0 → g rec [.i k, .i (m : Int)] = some [.i (vs.getD L[m] 0)]) ∧ (¬ k < ws.getD L[m] 0 → g rec [.i k, .i (m : Int)] = rec [.i (k - ws.getD L[m] 0), .i ((m + 1 : Nat) : Int)]))
    (h2 : ∀ rec k, g rec [.i k, .i (L.length : Int)] = some [.i 0]) (hL : L.length ≤ 20) (hk : 0 ≤ k0 ∧ k0 ≤ 1000000) (hw : ∀ i ∈ L, 1 ≤ ws.getD i 0 ∧ ws.getD i 0 ≤ 1000) : loopN g rounds [.i k0, .i 0] = some [.i (pickS vs ws L k0)] := by
  refine loop_rounds (S := Nat × Int) (fun s => [.i s.2, .i (s.1 : Int)]) (fun s => some [.i (pickS vs ws (L.drop s.1) s.2)]) (fun s => s.1 ≤ L.length ∧ 0 ≤ s.2 ∧ s.2 ≤ 1000000) (fun s => L.length - s.1) ?_ (0, k0) ⟨Nat.zero_le _, hk⟩ (by simp only; omega)
  rintro ⟨m, k⟩ rec ⟨q1, q2, q3⟩ hrec
  simp only at q1 q2 q3 hrec ⊢
  by_cases hm : m < L.length
  · obtain ⟨a, b⟩ := h rec k m hm (by omega) q3
    rw [List.drop_eq_getElem_cons hm]
    have hb := hw _ (List.getElem_mem hm)
    unfold pickS
    split
    · rename_i c; exact a c
    · rename_i c; exact (b c).trans (hrec (m + 1, k - ws.getD L[m] 0) ⟨by simp only; omega, by simp only; omega, by simp only; omega⟩ (by simp only; omega))
  · have e : m = L.length := by omega
    subst e
    rw [List.drop_length]; exact h2 rec k
def vat (vs : List Int) (i : Nat) : Int := vs.getD i 0
noncomputable def tabV (vs ws : List Int) (u : Nat) : Int := pickS vs ws (srt (vat vs) vs.length) (hiW (u * (sumI ws).toNat))
theorem sum_nn : ∀ (xs : List Int), (∀ x ∈ xs, 0 ≤ x) → 0 ≤ sumI xs
  | [], _ => Int.le_refl _
  | x :: xs, h => by
    have := sum_nn xs fun y hy => h y (List.mem_cons_of_mem _ hy)
    have := h x (List.mem_cons_self ..)
    unfold sumI; omega
theorem choose_F (op a b n : Int) (vs ws : List Int) (u : Nat) (hl : vs.length = ws.length) (h1 : 1 ≤ vs.length) (h20 : vs.length ≤ 20) (hw : ∀ x ∈ ws, 1 ≤ x ∧ x ≤ 1000) (hu : u < 18446744073709551616) : k_dist_choose.F [.i op, .i a, .i b, .i n, .l (vs.map .i), .l (ws.map .i), .i u] = some [.i (tabV vs ws u)] := by
  have W := weight_F op a b n (vs.map .i) ws hw (by omega)
  have sb := sum_bound (B := 1000) (by omega) ws (fun x hx => by have := hw x hx; omega)
  have sp : 0 ≤ sumI ws := sum_nn ws fun x hx => by have := hw x hx; omega
  obtain ⟨S, hS⟩ : ∃ S : Nat, sumI ws = S := ⟨(sumI ws).toNat, by omega⟩
  have U := fupper_F u S hu (by omega)
  have hk0 : 0 ≤ hiW (u * S) ∧ hiW (u * S) ≤ 1000000 := by
    refine ⟨hi_nonneg _, ?_⟩
    have hS2 : S ≤ 20000 := by omega
    have : u * S / 18446744073709551616 ≤ 20000 := Nat.div_le_of_le_mul (Nat.le_trans (Nat.mul_le_mul (Nat.le_of_lt hu) hS2) (by omega))
    unfold hiW; omega
  have hws : ∀ i ∈ srt (vat vs) vs.length, 1 ≤ ws.getD i 0 ∧ ws.getD i 0 ≤ 1000 := fun i hi => by
    have := srt_lt hi
    rw [List.getD_eq_getElem?_getD, List.getElem?_eq_getElem (by omega)]
    exact hw _ (List.getElem_mem _)
  simp only [k_dist_choose_F, tk_dist_choose, k_dist_weight_f, k_dist_upper_f, k_cmp_Compare_int__f, List.length_map, W, hS, Go.Proofs.YtmaocifplceopaaDoor.T.den, Ex.ev, U1.ev, U2.ev, U3.ev, gam, List.map, List.getD_cons_zero, List.getD_cons_succ, List.length, List.cons_append, List.nil_append, if_true, int_n, bool_n, list_n, Sc.str_s, Nat.reduceEqDiff, if_false, List.getElem?_cons_zero, List.getElem?_cons_succ]
  have n1 : (0 : Int) ≤ vs.length := by omega
  have n2 : (vs.length : Int) ≤ 16777216 := by omega
  have eT : tabV vs ws u = pickS vs ws (srt (vat vs) vs.length) (hiW (u * S)) := by unfold tabV; rw [hS]; rfl
  rw [eT]
  simp only [n1, n2, decide_true, if_true, Int.toNat_zero, List.replicate_zero]
  refine loop_rounds (S := Nat) (fun m => [.l (encN (List.range m)), .i (m : Int)]) (fun _ => some [.i (pickS vs ws (srt (vat vs) vs.length) (hiW (u * S)))]) (fun m => m ≤ vs.length) (fun m => vs.length - m) ?_ 0 (by omega) (by omega)
  intro m rec hm hrec
  by_cases hlt : m < vs.length
  · have k1 : (m : Int) < vs.length := by omega
    have k2 : ((m + 1 : Nat) : Int) ≤ 17592186044416 := by omega
    have hs := succ_w (n := vs.length) hlt (by omega)
    have hr := hrec (m + 1) (by omega) (by omega)
    have e : encN (List.range (m + 1)) = encN (List.range m) ++ [.i (m : Int)] := by simp [encN, List.range_succ]
    rw [e] at hr
    simp only [k1, k2, hs, hr, encN_len, List.length_append, List.length_range, Int.natCast_nonneg, bne_iff_ne, beq_iff_eq, ne_eq, decide_eq_true_eq, Bool.and_eq_true, Bool.or_eq_true, Bool.not_eq_true', decide_eq_false_iff_not, beq_eq_false_iff_ne, bne_eq_false_iff_eq, not_true_eq_false, not_false_eq_true, if_true, if_false, reduceIte, and_true, true_and, and_false, false_and, or_false, false_or, or_true, true_or, List.getD_cons_zero, List.getD_cons_succ, List.length_cons, List.length_nil, List.cons_append, List.nil_append, Nat.reduceAdd, Nat.reduceEqDiff, reduceCtorEq, Bool.not_true, Bool.not_false, Bool.true_and, Bool.and_true, Bool.false_and, Bool.and_false, Bool.or_true, Bool.true_or, Bool.or_false, Bool.false_or, Bool.false_eq_true, Bool.true_eq_false, int_n, bool_n, list_n, Sc.str_s, Int.reduceEq, Int.reduceLT, Int.reduceLE, Int.reduceNe, decide_true, decide_false, decide_not, eq_self, Classical.not_not, List.getElem?_cons_zero, List.getElem?_cons_succ, beq_self_eq_true, bne_self_eq_false]
  · have k1 : ¬ (m : Int) < vs.length := by omega
    have e : m = vs.length := by omega
    subst e
    simp only [k1, encN_len, List.length_range, Int.natCast_nonneg, bne_iff_ne, beq_iff_eq, ne_eq, decide_eq_true_eq, Bool.and_eq_true, Bool.or_eq_true, Bool.not_eq_true', decide_eq_false_iff_not, beq_eq_false_iff_ne, bne_eq_false_iff_eq, not_true_eq_false, not_false_eq_true, if_true, if_false, reduceIte, and_true, true_and, and_false, false_and, or_false, false_or, or_true, true_or, List.getD_cons_zero, List.getD_cons_succ, List.length_cons, List.length_nil, List.cons_append, List.nil_append, Nat.reduceAdd, Nat.reduceEqDiff, reduceCtorEq, Bool.not_true, Bool.not_false, Bool.true_and, Bool.and_true, Bool.false_and, Bool.and_false, Bool.or_true, Bool.true_or, Bool.or_false, Bool.false_or, Bool.false_eq_true, Bool.true_eq_false, int_n, bool_n, list_n, Sc.str_s, Int.reduceEq, Int.reduceLT, Int.reduceLE, Int.reduceNe, decide_true, decide_false, decide_not, eq_self, Classical.not_not, List.getElem?_cons_zero, List.getElem?_cons_succ, beq_self_eq_true, bne_self_eq_false]
    have m20 : ¬ (20 : Int) < vs.length := by omega
    have e0 : encN (List.range vs.length) = encN (srt (vat vs) 1 ++ List.range' 1 (vs.length - 1)) := by
      rw [List.range_eq_range', show vs.length = (vs.length - 1) + 1 by omega, List.range'_succ]; rfl
    have et : srt (vat vs) vs.length ++ List.range' vs.length (vs.length - vs.length) = srt (vat vs) vs.length := by simp
    have mid : ∀ i, i < vs.length → (srt (vat vs) i ++ List.range' i (vs.length - i) = ((srt (vat vs) i).reverse).reverse ++ i :: List.range' (i + 1) (vs.length - (i + 1))) ∧ insR (vat vs) (srt (vat vs) i).reverse i (List.range' (i + 1) (vs.length - (i + 1))) = srt (vat vs) (i + 1) ++ List.range' (i + 1) (vs.length - (i + 1)) := fun i hlt2 => by
      constructor
      · rw [List.reverse_reverse, show vs.length - i = (vs.length - (i + 1)) + 1 by omega, List.range'_succ]
      · conv => lhs; rw [show List.range' (i + 1) (vs.length - (i + 1)) = [] ++ List.range' (i + 1) (vs.length - (i + 1)) from rfl, insR_app]
        rfl
    by_cases c20 : vs.length = 20
    · have c20i : (20 : Int) ≤ vs.length := by omega
      refine loop_rounds (S := Bool) (fun s => if s = true then [.i 20, .i 40, .l (encN (srt (vat vs) vs.length))] else [.i 0, .i 20, .l (encN (List.range vs.length))]) (fun _ => some [.i (pickS vs ws (srt (vat vs) vs.length) (hiW (u * S)))]) (fun _ => True) (fun s => if s = true then 0 else 1) ?_ false trivial (by decide)
      intro s rec' _ hrec'
      have hb := hrec' true trivial
      cases s
      · have hb := hb (by decide)
        simp only [if_true] at hb
        rw [e0]
        simp only [c20i, encN_len, List.length_append, srt_len, List.length_range', show IntKind.i64.wrap (0 + 1) = 1 by decide, Int.natCast_nonneg, bne_iff_ne, beq_iff_eq, ne_eq, decide_eq_true_eq, Bool.and_eq_true, Bool.or_eq_true, Bool.not_eq_true', decide_eq_false_iff_not, beq_eq_false_iff_ne, bne_eq_false_iff_eq, not_true_eq_false, not_false_eq_true, if_true, if_false, reduceIte, and_true, true_and, and_false, false_and, or_false, false_or, or_true, true_or, List.getD_cons_zero, List.getD_cons_succ, List.length_cons, List.length_nil, List.cons_append, List.nil_append, Nat.reduceAdd, Nat.reduceEqDiff, reduceCtorEq, Bool.not_true, Bool.not_false, Bool.true_and, Bool.and_true, Bool.false_and, Bool.and_false, Bool.or_true, Bool.true_or, Bool.or_false, Bool.false_or, Bool.false_eq_true, Bool.true_eq_false, int_n, bool_n, list_n, Sc.str_s, Int.reduceEq, Int.reduceLT, Int.reduceLE, Int.reduceNe, decide_true, decide_false, decide_not, eq_self, Classical.not_not, List.getElem?_cons_zero, List.getElem?_cons_succ, beq_self_eq_true, bne_self_eq_false]
        have c20j : (20 : Int) ≤ ((1 + (vs.length - 1) : Nat) : Int) := by omega
        try simp only [c20j, Int.natCast_nonneg, bne_iff_ne, beq_iff_eq, ne_eq, decide_eq_true_eq, Bool.and_eq_true, Bool.or_eq_true, Bool.not_eq_true', decide_eq_false_iff_not, beq_eq_false_iff_ne, bne_eq_false_iff_eq, not_true_eq_false, not_false_eq_true, if_true, if_false, reduceIte, and_true, true_and, and_false, false_and, or_false, false_or, or_true, true_or, List.getD_cons_zero, List.getD_cons_succ, List.length_cons, List.length_nil, List.cons_append, List.nil_append, Nat.reduceAdd, Nat.reduceEqDiff, reduceCtorEq, Bool.not_true, Bool.not_false, Bool.true_and, Bool.and_true, Bool.false_and, Bool.and_false, Bool.or_true, Bool.true_or, Bool.or_false, Bool.false_or, Bool.false_eq_true, Bool.true_eq_false, int_n, bool_n, list_n, Sc.str_s, Int.reduceEq, Int.reduceLT, Int.reduceLE, Int.reduceNe, decide_true, decide_false, decide_not, eq_self, Classical.not_not, List.getElem?_cons_zero, List.getElem?_cons_succ, beq_self_eq_true, bne_self_eq_false]
        refine loop_rounds (S := Nat) (fun i => [.i (i : Int), .l (encN (srt (vat vs) i ++ List.range' i (vs.length - i)))]) (fun _ => some [.i (pickS vs ws (srt (vat vs) vs.length) (hiW (u * S)))]) (fun i => 1 ≤ i ∧ i ≤ vs.length) (fun i => vs.length - i) ?_ 1 ⟨Nat.le_refl _, h1⟩ (by omega)
        intro i rec2 hi hrec2
        by_cases hlt2 : i < vs.length
        · have k2 : (i : Int) < 20 := by omega
          simp only [k2, Int.natCast_nonneg, bne_iff_ne, beq_iff_eq, ne_eq, decide_eq_true_eq, Bool.and_eq_true, Bool.or_eq_true, Bool.not_eq_true', decide_eq_false_iff_not, beq_eq_false_iff_ne, bne_eq_false_iff_eq, not_true_eq_false, not_false_eq_true, if_true, if_false, reduceIte, and_true, true_and, and_false, false_and, or_false, false_or, or_true, true_or, List.getD_cons_zero, List.getD_cons_succ, List.length_cons, List.length_nil, List.cons_append, List.nil_append, Nat.reduceAdd, Nat.reduceEqDiff, reduceCtorEq, Bool.not_true, Bool.not_false, Bool.true_and, Bool.and_true, Bool.false_and, Bool.and_false, Bool.or_true, Bool.true_or, Bool.or_false, Bool.false_or, Bool.false_eq_true, Bool.true_eq_false, int_n, bool_n, list_n, Sc.str_s, Int.reduceEq, Int.reduceLT, Int.reduceLE, Int.reduceNe, decide_true, decide_false, decide_not, eq_self, Classical.not_not, List.getElem?_cons_zero, List.getElem?_cons_succ, beq_self_eq_true, bne_self_eq_false]
          have lr : (srt (vat vs) i).reverse.length = i := by rw [List.length_reverse, srt_len]
          have hs := succ_w (n := vs.length) hlt2 (by omega)
          have hr := hrec2 (i + 1) (by omega) (by omega)
          have es := mid i hlt2
          refine ins_at (v := vat vs) (fun l => rec2 [.i ((i + 1 : Nat) : Int), .l l]) (fun y hy => Nat.lt_trans (srt_lt (List.mem_reverse.1 hy)) hlt2) hlt2 (by rw [lr, List.length_range']; omega) h20 lr es.1 ((congrArg (fun l => rec2 [.i ((i + 1 : Nat) : Int), .l (encN l)]) es.2).trans hr) ?_ ?_
          · intro rec3 x post
            simp only [hs, Int.lt_irrefl, Int.natCast_nonneg, bne_iff_ne, beq_iff_eq, ne_eq, decide_eq_true_eq, Bool.and_eq_true, Bool.or_eq_true, Bool.not_eq_true', decide_eq_false_iff_not, beq_eq_false_iff_ne, bne_eq_false_iff_eq, not_true_eq_false, not_false_eq_true, if_true, if_false, reduceIte, and_true, true_and, and_false, false_and, or_false, false_or, or_true, true_or, List.getD_cons_zero, List.getD_cons_succ, List.length_cons, List.length_nil, List.cons_append, List.nil_append, Nat.reduceAdd, Nat.reduceEqDiff, reduceCtorEq, Bool.not_true, Bool.not_false, Bool.true_and, Bool.and_true, Bool.false_and, Bool.and_false, Bool.or_true, Bool.true_or, Bool.or_false, Bool.false_or, Bool.false_eq_true, Bool.true_eq_false, int_n, bool_n, list_n, Sc.str_s, Int.reduceEq, Int.reduceLT, Int.reduceLE, Int.reduceNe, decide_true, decide_false, decide_not, eq_self, Classical.not_not, List.getElem?_cons_zero, List.getElem?_cons_succ, beq_self_eq_true, bne_self_eq_false]
          · intro rec3 y r x post hy hx hlen
            have q1 : (0 : Int) < ((r.length + 1 : Nat) : Int) := by omega
            have q2 : ((r.length + 1 : Nat) : Int) < ((encN (r.reverse ++ y :: x :: post)).length : Int) := by rw [encN_len]; simp; omega
            have q3 : IntKind.i64.wrap (((r.length + 1 : Nat) : Int) - 1) = (r.length : Int) := by rw [wrJ (by omega) (by omega)]; omega
            have q4 : ((r.length : Nat) : Int) < ((encN (r.reverse ++ y :: x :: post)).length : Int) := by rw [encN_len]; simp; omega
            have q5 : (x : Int) < vs.length := by omega
            have q6 : (y : Int) < vs.length := by omega
            have d1 := idxD vs x hx
            have d2 := idxD vs y hy
            have cl := cmp_lt (vs.getD x 0) (vs.getD y 0)
            constructor
            · intro c
              unfold vat at c
              have cl := cl.2 c
              simp only [q1, q2, q3, q4, q5, q6, d1, d2, encN_x, encN_y, encN_sw, cmp_F, cl, List.length_set, Int.natCast_nonneg, bne_iff_ne, beq_iff_eq, ne_eq, decide_eq_true_eq, Bool.and_eq_true, Bool.or_eq_true, Bool.not_eq_true', decide_eq_false_iff_not, beq_eq_false_iff_ne, bne_eq_false_iff_eq, not_true_eq_false, not_false_eq_true, if_true, if_false, reduceIte, and_true, true_and, and_false, false_and, or_false, false_or, or_true, true_or, List.getD_cons_zero, List.getD_cons_succ, List.length_cons, List.length_nil, List.cons_append, List.nil_append, Nat.reduceAdd, Nat.reduceEqDiff, reduceCtorEq, Bool.not_true, Bool.not_false, Bool.true_and, Bool.and_true, Bool.false_and, Bool.and_false, Bool.or_true, Bool.true_or, Bool.or_false, Bool.false_or, Bool.false_eq_true, Bool.true_eq_false, int_n, bool_n, list_n, Sc.str_s, Int.reduceEq, Int.reduceLT, Int.reduceLE, Int.reduceNe, decide_true, decide_false, decide_not, eq_self, Classical.not_not, List.getElem?_cons_zero, List.getElem?_cons_succ, beq_self_eq_true, bne_self_eq_false]
            · intro c
              unfold vat at c
              have cl := mt cl.1 c
              simp only [q1, q2, q3, q4, q5, q6, d1, d2, encN_x, encN_y, encN_sw, cmp_F, cl, hs, Int.natCast_nonneg, bne_iff_ne, beq_iff_eq, ne_eq, decide_eq_true_eq, Bool.and_eq_true, Bool.or_eq_true, Bool.not_eq_true', decide_eq_false_iff_not, beq_eq_false_iff_ne, bne_eq_false_iff_eq, not_true_eq_false, not_false_eq_true, if_true, if_false, reduceIte, and_true, true_and, and_false, false_and, or_false, false_or, or_true, true_or, List.getD_cons_zero, List.getD_cons_succ, List.length_cons, List.length_nil, List.cons_append, List.nil_append, Nat.reduceAdd, Nat.reduceEqDiff, reduceCtorEq, Bool.not_true, Bool.not_false, Bool.true_and, Bool.and_true, Bool.false_and, Bool.and_false, Bool.or_true, Bool.true_or, Bool.or_false, Bool.false_or, Bool.false_eq_true, Bool.true_eq_false, int_n, bool_n, list_n, Sc.str_s, Int.reduceEq, Int.reduceLT, Int.reduceLE, Int.reduceNe, decide_true, decide_false, decide_not, eq_self, Classical.not_not, List.getElem?_cons_zero, List.getElem?_cons_succ, beq_self_eq_true, bne_self_eq_false]
        · have k2 : ¬ (i : Int) < 20 := by omega
          have e : i = vs.length := by omega
          subst e
          rw [et]
          simp only [k2, show IntKind.i64.wrap (20 + 20) = 40 by decide, hb, Int.natCast_nonneg, bne_iff_ne, beq_iff_eq, ne_eq, decide_eq_true_eq, Bool.and_eq_true, Bool.or_eq_true, Bool.not_eq_true', decide_eq_false_iff_not, beq_eq_false_iff_ne, bne_eq_false_iff_eq, not_true_eq_false, not_false_eq_true, if_true, if_false, reduceIte, and_true, true_and, and_false, false_and, or_false, false_or, or_true, true_or, List.getD_cons_zero, List.getD_cons_succ, List.length_cons, List.length_nil, List.cons_append, List.nil_append, Nat.reduceAdd, Nat.reduceEqDiff, reduceCtorEq, Bool.not_true, Bool.not_false, Bool.true_and, Bool.and_true, Bool.false_and, Bool.and_false, Bool.or_true, Bool.true_or, Bool.or_false, Bool.false_or, Bool.false_eq_true, Bool.true_eq_false, int_n, bool_n, list_n, Sc.str_s, Int.reduceEq, Int.reduceLT, Int.reduceLE, Int.reduceNe, decide_true, decide_false, decide_not, eq_self, Classical.not_not, List.getElem?_cons_zero, List.getElem?_cons_succ, beq_self_eq_true, bne_self_eq_false]
      · have c40 : ¬ (40 : Int) ≤ vs.length := by omega
        simp only [c40, encN_len, srt_len, show IntKind.i64.wrap (20 + 1) = 21 by decide, Int.natCast_nonneg, bne_iff_ne, beq_iff_eq, ne_eq, decide_eq_true_eq, Bool.and_eq_true, Bool.or_eq_true, Bool.not_eq_true', decide_eq_false_iff_not, beq_eq_false_iff_ne, bne_eq_false_iff_eq, not_true_eq_false, not_false_eq_true, if_true, if_false, reduceIte, and_true, true_and, and_false, false_and, or_false, false_or, or_true, true_or, List.getD_cons_zero, List.getD_cons_succ, List.length_cons, List.length_nil, List.cons_append, List.nil_append, Nat.reduceAdd, Nat.reduceEqDiff, reduceCtorEq, Bool.not_true, Bool.not_false, Bool.true_and, Bool.and_true, Bool.false_and, Bool.and_false, Bool.or_true, Bool.true_or, Bool.or_false, Bool.false_or, Bool.false_eq_true, Bool.true_eq_false, int_n, bool_n, list_n, Sc.str_s, Int.reduceEq, Int.reduceLT, Int.reduceLE, Int.reduceNe, decide_true, decide_false, decide_not, eq_self, Classical.not_not, List.getElem?_cons_zero, List.getElem?_cons_succ, beq_self_eq_true, bne_self_eq_false]
        refine loop_rounds (S := Unit) (fun s => [.i 21, .l (encN (srt (vat vs) vs.length))]) (fun _ => some [.i (pickS vs ws (srt (vat vs) vs.length) (hiW (u * S)))]) (fun _ => True) (fun s => 0) ?_ () trivial (by decide)
        intro s rec3 _ _
        have c21 : ¬ (21 : Int) < vs.length := by omega
        simp only [c21, encN_len, srt_len, Int.natCast_nonneg, bne_iff_ne, beq_iff_eq, ne_eq, decide_eq_true_eq, Bool.and_eq_true, Bool.or_eq_true, Bool.not_eq_true', decide_eq_false_iff_not, beq_eq_false_iff_ne, bne_eq_false_iff_eq, not_true_eq_false, not_false_eq_true, if_true, if_false, reduceIte, and_true, true_and, and_false, false_and, or_false, false_or, or_true, true_or, List.getD_cons_zero, List.getD_cons_succ, List.length_cons, List.length_nil, List.cons_append, List.nil_append, Nat.reduceAdd, Nat.reduceEqDiff, reduceCtorEq, Bool.not_true, Bool.not_false, Bool.true_and, Bool.and_true, Bool.false_and, Bool.and_false, Bool.or_true, Bool.true_or, Bool.or_false, Bool.false_or, Bool.false_eq_true, Bool.true_eq_false, int_n, bool_n, list_n, Sc.str_s, Int.reduceEq, Int.reduceLT, Int.reduceLE, Int.reduceNe, decide_true, decide_false, decide_not, eq_self, Classical.not_not, List.getElem?_cons_zero, List.getElem?_cons_succ, beq_self_eq_true, bne_self_eq_false]
        refine loop_rounds (S := Unit) (fun s => [.i 20, .i 40, .i 20]) (fun _ => some [.i (pickS vs ws (srt (vat vs) vs.length) (hiW (u * S)))]) (fun _ => True) (fun s => 0) ?_ () trivial (by decide)
        intro s rec4 _ _
        simp only [U, m20, Int.lt_irrefl, Int.natCast_nonneg, bne_iff_ne, beq_iff_eq, ne_eq, decide_eq_true_eq, Bool.and_eq_true, Bool.or_eq_true, Bool.not_eq_true', decide_eq_false_iff_not, beq_eq_false_iff_ne, bne_eq_false_iff_eq, not_true_eq_false, not_false_eq_true, if_true, if_false, reduceIte, and_true, true_and, and_false, false_and, or_false, false_or, or_true, true_or, List.getD_cons_zero, List.getD_cons_succ, List.length_cons, List.length_nil, List.cons_append, List.nil_append, Nat.reduceAdd, Nat.reduceEqDiff, reduceCtorEq, Bool.not_true, Bool.not_false, Bool.true_and, Bool.and_true, Bool.false_and, Bool.and_false, Bool.or_true, Bool.true_or, Bool.or_false, Bool.false_or, Bool.false_eq_true, Bool.true_eq_false, int_n, bool_n, list_n, Sc.str_s, Int.reduceEq, Int.reduceLT, Int.reduceLE, Int.reduceNe, decide_true, decide_false, decide_not, eq_self, Classical.not_not, List.getElem?_cons_zero, List.getElem?_cons_succ, beq_self_eq_true, bne_self_eq_false]
        refine pick_loop vs ws (srt (vat vs) vs.length) (hiW (u * S)) ?_ ?_ (by rw [srt_len]; exact h20) hk0 hws
        · intro rec5 k m hm k1 k2
          have q1 : (m : Int) < ((encN (srt (vat vs) vs.length)).length : Int) := by rw [encN_len]; omega
          have q1b : (m : Int) < vs.length := by rw [srt_len] at hm; omega
          have hj := srt_lt (List.getElem_mem hm)
          have q0 : (encN (srt (vat vs) vs.length)).getD ((m : Int)).toNat (.i 0) = .i ((srt (vat vs) vs.length)[m] : Nat) := idx_map (fun (i : Nat) => Sc.i (i : Int)) _ m hm
          have hs := succ_w (n := (srt (vat vs) vs.length).length) hm (by rw [srt_len]; omega)
          have hb := hws _ (List.getElem_mem hm)
          generalize (srt (vat vs) vs.length)[m] = j at *
          have d1 := idxD vs j hj
          have d2 := idxD ws j (by omega)
          have q2 : (j : Int) < vs.length := by omega
          have q3 : (j : Int) < ws.length := by omega
          have q4 : IntKind.i64.wrap (k - ws.getD j 0) = k - ws.getD j 0 := wrJ (by omega) (by omega)
          constructor
          · intro c
            simp only [q0, q1, q1b, q2, q3, d1, d2, c, Int.natCast_nonneg, bne_iff_ne, beq_iff_eq, ne_eq, decide_eq_true_eq, Bool.and_eq_true, Bool.or_eq_true, Bool.not_eq_true', decide_eq_false_iff_not, beq_eq_false_iff_ne, bne_eq_false_iff_eq, not_true_eq_false, not_false_eq_true, if_true, if_false, reduceIte, and_true, true_and, and_false, false_and, or_false, false_or, or_true, true_or, List.getD_cons_zero, List.getD_cons_succ, List.length_cons, List.length_nil, List.cons_append, List.nil_append, Nat.reduceAdd, Nat.reduceEqDiff, reduceCtorEq, Bool.not_true, Bool.not_false, Bool.true_and, Bool.and_true, Bool.false_and, Bool.and_false, Bool.or_true, Bool.true_or, Bool.or_false, Bool.false_or, Bool.false_eq_true, Bool.true_eq_false, int_n, bool_n, list_n, Sc.str_s, Int.reduceEq, Int.reduceLT, Int.reduceLE, Int.reduceNe, decide_true, decide_false, decide_not, eq_self, Classical.not_not, List.getElem?_cons_zero, List.getElem?_cons_succ, beq_self_eq_true, bne_self_eq_false]
          · intro c
            simp only [q0, q1, q1b, q2, q3, q4, d1, d2, c, hs, Int.natCast_nonneg, bne_iff_ne, beq_iff_eq, ne_eq, decide_eq_true_eq, Bool.and_eq_true, Bool.or_eq_true, Bool.not_eq_true', decide_eq_false_iff_not, beq_eq_false_iff_ne, bne_eq_false_iff_eq, not_true_eq_false, not_false_eq_true, if_true, if_false, reduceIte, and_true, true_and, and_false, false_and, or_false, false_or, or_true, true_or, List.getD_cons_zero, List.getD_cons_succ, List.length_cons, List.length_nil, List.cons_append, List.nil_append, Nat.reduceAdd, Nat.reduceEqDiff, reduceCtorEq, Bool.not_true, Bool.not_false, Bool.true_and, Bool.and_true, Bool.false_and, Bool.and_false, Bool.or_true, Bool.true_or, Bool.or_false, Bool.false_or, Bool.false_eq_true, Bool.true_eq_false, int_n, bool_n, list_n, Sc.str_s, Int.reduceEq, Int.reduceLT, Int.reduceLE, Int.reduceNe, decide_true, decide_false, decide_not, eq_self, Classical.not_not, List.getElem?_cons_zero, List.getElem?_cons_succ, beq_self_eq_true, bne_self_eq_false]
        · intro rec5 k
          have q1 : ¬ (((srt (vat vs) vs.length).length : Nat) : Int) < ((encN (srt (vat vs) vs.length)).length : Int) := by rw [encN_len]; omega
          have q1b : ¬ (((srt (vat vs) vs.length).length : Nat) : Int) < vs.length := by rw [srt_len]; omega
          simp only [q1, q1b, Int.natCast_nonneg, bne_iff_ne, beq_iff_eq, ne_eq, decide_eq_true_eq, Bool.and_eq_true, Bool.or_eq_true, Bool.not_eq_true', decide_eq_false_iff_not, beq_eq_false_iff_ne, bne_eq_false_iff_eq, not_true_eq_false, not_false_eq_true, if_true, if_false, reduceIte, and_true, true_and, and_false, false_and, or_false, false_or, or_true, true_or, List.getD_cons_zero, List.getD_cons_succ, List.length_cons, List.length_nil, List.cons_append, List.nil_append, Nat.reduceAdd, Nat.reduceEqDiff, reduceCtorEq, Bool.not_true, Bool.not_false, Bool.true_and, Bool.and_true, Bool.false_and, Bool.and_false, Bool.or_true, Bool.true_or, Bool.or_false, Bool.false_or, Bool.false_eq_true, Bool.true_eq_false, int_n, bool_n, list_n, Sc.str_s, Int.reduceEq, Int.reduceLT, Int.reduceLE, Int.reduceNe, decide_true, decide_false, decide_not, eq_self, Classical.not_not, List.getElem?_cons_zero, List.getElem?_cons_succ, beq_self_eq_true, bne_self_eq_false]
    · have c21 : ¬ (20 : Int) ≤ vs.length := by omega
      refine loop_rounds (S := Unit) (fun s => [.i 0, .i 20, .l (encN (List.range vs.length))]) (fun _ => some [.i (pickS vs ws (srt (vat vs) vs.length) (hiW (u * S)))]) (fun _ => True) (fun s => 0) ?_ () trivial (by decide)
      intro s rec' _ hrec'
      rw [e0]
      simp only [c21, show IntKind.i64.wrap (0 + 1) = 1 by decide, Int.natCast_nonneg, bne_iff_ne, beq_iff_eq, ne_eq, decide_eq_true_eq, Bool.and_eq_true, Bool.or_eq_true, Bool.not_eq_true', decide_eq_false_iff_not, beq_eq_false_iff_ne, bne_eq_false_iff_eq, not_true_eq_false, not_false_eq_true, if_true, if_false, reduceIte, and_true, true_and, and_false, false_and, or_false, false_or, or_true, true_or, List.getD_cons_zero, List.getD_cons_succ, List.length_cons, List.length_nil, List.cons_append, List.nil_append, Nat.reduceAdd, Nat.reduceEqDiff, reduceCtorEq, Bool.not_true, Bool.not_false, Bool.true_and, Bool.and_true, Bool.false_and, Bool.and_false, Bool.or_true, Bool.true_or, Bool.or_false, Bool.false_or, Bool.false_eq_true, Bool.true_eq_false, int_n, bool_n, list_n, Sc.str_s, Int.reduceEq, Int.reduceLT, Int.reduceLE, Int.reduceNe, decide_true, decide_false, decide_not, eq_self, Classical.not_not, List.getElem?_cons_zero, List.getElem?_cons_succ, beq_self_eq_true, bne_self_eq_false]
      refine loop_rounds (S := Nat) (fun i => [.i (i : Int), .l (encN (srt (vat vs) i ++ List.range' i (vs.length - i)))]) (fun _ => some [.i (pickS vs ws (srt (vat vs) vs.length) (hiW (u * S)))]) (fun i => 1 ≤ i ∧ i ≤ vs.length) (fun i => vs.length - i) ?_ 1 ⟨Nat.le_refl _, h1⟩ (by omega)
      intro i rec2 hi hrec2
      by_cases hlt2 : i < vs.length
      · have k2 : (i : Int) < vs.length := by omega
        simp only [k2, Int.natCast_nonneg, bne_iff_ne, beq_iff_eq, ne_eq, decide_eq_true_eq, Bool.and_eq_true, Bool.or_eq_true, Bool.not_eq_true', decide_eq_false_iff_not, beq_eq_false_iff_ne, bne_eq_false_iff_eq, not_true_eq_false, not_false_eq_true, if_true, if_false, reduceIte, and_true, true_and, and_false, false_and, or_false, false_or, or_true, true_or, List.getD_cons_zero, List.getD_cons_succ, List.length_cons, List.length_nil, List.cons_append, List.nil_append, Nat.reduceAdd, Nat.reduceEqDiff, reduceCtorEq, Bool.not_true, Bool.not_false, Bool.true_and, Bool.and_true, Bool.false_and, Bool.and_false, Bool.or_true, Bool.true_or, Bool.or_false, Bool.false_or, Bool.false_eq_true, Bool.true_eq_false, int_n, bool_n, list_n, Sc.str_s, Int.reduceEq, Int.reduceLT, Int.reduceLE, Int.reduceNe, decide_true, decide_false, decide_not, eq_self, Classical.not_not, List.getElem?_cons_zero, List.getElem?_cons_succ, beq_self_eq_true, bne_self_eq_false]
        have lr : (srt (vat vs) i).reverse.length = i := by rw [List.length_reverse, srt_len]
        have hs := succ_w (n := vs.length) hlt2 (by omega)
        have hr := hrec2 (i + 1) (by omega) (by omega)
        have es := mid i hlt2
        refine ins_at (v := vat vs) (fun l => rec2 [.i ((i + 1 : Nat) : Int), .l l]) (fun y hy => Nat.lt_trans (srt_lt (List.mem_reverse.1 hy)) hlt2) hlt2 (by rw [lr, List.length_range']; omega) h20 lr es.1 ((congrArg (fun l => rec2 [.i ((i + 1 : Nat) : Int), .l (encN l)]) es.2).trans hr) ?_ ?_
        · intro rec3 x post
          simp only [hs, Int.lt_irrefl, Int.natCast_nonneg, bne_iff_ne, beq_iff_eq, ne_eq, decide_eq_true_eq, Bool.and_eq_true, Bool.or_eq_true, Bool.not_eq_true', decide_eq_false_iff_not, beq_eq_false_iff_ne, bne_eq_false_iff_eq, not_true_eq_false, not_false_eq_true, if_true, if_false, reduceIte, and_true, true_and, and_false, false_and, or_false, false_or, or_true, true_or, List.getD_cons_zero, List.getD_cons_succ, List.length_cons, List.length_nil, List.cons_append, List.nil_append, Nat.reduceAdd, Nat.reduceEqDiff, reduceCtorEq, Bool.not_true, Bool.not_false, Bool.true_and, Bool.and_true, Bool.false_and, Bool.and_false, Bool.or_true, Bool.true_or, Bool.or_false, Bool.false_or, Bool.false_eq_true, Bool.true_eq_false, int_n, bool_n, list_n, Sc.str_s, Int.reduceEq, Int.reduceLT, Int.reduceLE, Int.reduceNe, decide_true, decide_false, decide_not, eq_self, Classical.not_not, List.getElem?_cons_zero, List.getElem?_cons_succ, beq_self_eq_true, bne_self_eq_false]
        · intro rec3 y r x post hy hx hlen
          have q1 : (0 : Int) < ((r.length + 1 : Nat) : Int) := by omega
          have q2 : ((r.length + 1 : Nat) : Int) < ((encN (r.reverse ++ y :: x :: post)).length : Int) := by rw [encN_len]; simp; omega
          have q3 : IntKind.i64.wrap (((r.length + 1 : Nat) : Int) - 1) = (r.length : Int) := by rw [wrJ (by omega) (by omega)]; omega
          have q4 : ((r.length : Nat) : Int) < ((encN (r.reverse ++ y :: x :: post)).length : Int) := by rw [encN_len]; simp; omega
          have q5 : (x : Int) < vs.length := by omega
          have q6 : (y : Int) < vs.length := by omega
          have d1 := idxD vs x hx
          have d2 := idxD vs y hy
          have cl := cmp_lt (vs.getD x 0) (vs.getD y 0)
          constructor
          · intro c
            unfold vat at c
            have cl := cl.2 c
            simp only [q1, q2, q3, q4, q5, q6, d1, d2, encN_x, encN_y, encN_sw, cmp_F, cl, List.length_set, Int.natCast_nonneg, bne_iff_ne, beq_iff_eq, ne_eq, decide_eq_true_eq, Bool.and_eq_true, Bool.or_eq_true, Bool.not_eq_true', decide_eq_false_iff_not, beq_eq_false_iff_ne, bne_eq_false_iff_eq, not_true_eq_false, not_false_eq_true, if_true, if_false, reduceIte, and_true, true_and, and_false, false_and, or_false, false_or, or_true, true_or, List.getD_cons_zero, List.getD_cons_succ, List.length_cons, List.length_nil, List.cons_append, List.nil_append, Nat.reduceAdd, Nat.reduceEqDiff, reduceCtorEq, Bool.not_true, Bool.not_false, Bool.true_and, Bool.and_true, Bool.false_and, Bool.and_false, Bool.or_true, Bool.true_or, Bool.or_false, Bool.false_or, Bool.false_eq_true, Bool.true_eq_false, int_n, bool_n, list_n, Sc.str_s, Int.reduceEq, Int.reduceLT, Int.reduceLE, Int.reduceNe, decide_true, decide_false, decide_not, eq_self, Classical.not_not, List.getElem?_cons_zero, List.getElem?_cons_succ, beq_self_eq_true, bne_self_eq_false]
          · intro c
            unfold vat at c
            have cl := mt cl.1 c
            simp only [q1, q2, q3, q4, q5, q6, d1, d2, encN_x, encN_y, encN_sw, cmp_F, cl, hs, Int.natCast_nonneg, bne_iff_ne, beq_iff_eq, ne_eq, decide_eq_true_eq, Bool.and_eq_true, Bool.or_eq_true, Bool.not_eq_true', decide_eq_false_iff_not, beq_eq_false_iff_ne, bne_eq_false_iff_eq, not_true_eq_false, not_false_eq_true, if_true, if_false, reduceIte, and_true, true_and, and_false, false_and, or_false, false_or, or_true, true_or, List.getD_cons_zero, List.getD_cons_succ, List.length_cons, List.length_nil, List.cons_append, List.nil_append, Nat.reduceAdd, Nat.reduceEqDiff, reduceCtorEq, Bool.not_true, Bool.not_false, Bool.true_and, Bool.and_true, Bool.false_and, Bool.and_false, Bool.or_true, Bool.true_or, Bool.or_false, Bool.false_or, Bool.false_eq_true, Bool.true_eq_false, int_n, bool_n, list_n, Sc.str_s, Int.reduceEq, Int.reduceLT, Int.reduceLE, Int.reduceNe, decide_true, decide_false, decide_not, eq_self, Classical.not_not, List.getElem?_cons_zero, List.getElem?_cons_succ, beq_self_eq_true, bne_self_eq_false]
      · have k2 : ¬ (i : Int) < vs.length := by omega
        have e : i = vs.length := by omega
        subst e
        rw [et]
        simp only [k2, Int.natCast_nonneg, bne_iff_ne, beq_iff_eq, ne_eq, decide_eq_true_eq, Bool.and_eq_true, Bool.or_eq_true, Bool.not_eq_true', decide_eq_false_iff_not, beq_eq_false_iff_ne, bne_eq_false_iff_eq, not_true_eq_false, not_false_eq_true, if_true, if_false, reduceIte, and_true, true_and, and_false, false_and, or_false, false_or, or_true, true_or, List.getD_cons_zero, List.getD_cons_succ, List.length_cons, List.length_nil, List.cons_append, List.nil_append, Nat.reduceAdd, Nat.reduceEqDiff, reduceCtorEq, Bool.not_true, Bool.not_false, Bool.true_and, Bool.and_true, Bool.false_and, Bool.and_false, Bool.or_true, Bool.true_or, Bool.or_false, Bool.false_or, Bool.false_eq_true, Bool.true_eq_false, int_n, bool_n, list_n, Sc.str_s, Int.reduceEq, Int.reduceLT, Int.reduceLE, Int.reduceNe, decide_true, decide_false, decide_not, eq_self, Classical.not_not, List.getElem?_cons_zero, List.getElem?_cons_succ, beq_self_eq_true, bne_self_eq_false]
        refine loop_rounds (S := Unit) (fun s => [.i 0, .i 20, .i 20]) (fun _ => some [.i (pickS vs ws (srt (vat vs) vs.length) (hiW (u * S)))]) (fun _ => True) (fun s => 0) ?_ () trivial (by decide)
        intro s rec4 _ _
        simp only [U, m20, Int.lt_irrefl, Int.natCast_nonneg, bne_iff_ne, beq_iff_eq, ne_eq, decide_eq_true_eq, Bool.and_eq_true, Bool.or_eq_true, Bool.not_eq_true', decide_eq_false_iff_not, beq_eq_false_iff_ne, bne_eq_false_iff_eq, not_true_eq_false, not_false_eq_true, if_true, if_false, reduceIte, and_true, true_and, and_false, false_and, or_false, false_or, or_true, true_or, List.getD_cons_zero, List.getD_cons_succ, List.length_cons, List.length_nil, List.cons_append, List.nil_append, Nat.reduceAdd, Nat.reduceEqDiff, reduceCtorEq, Bool.not_true, Bool.not_false, Bool.true_and, Bool.and_true, Bool.false_and, Bool.and_false, Bool.or_true, Bool.true_or, Bool.or_false, Bool.false_or, Bool.false_eq_true, Bool.true_eq_false, int_n, bool_n, list_n, Sc.str_s, Int.reduceEq, Int.reduceLT, Int.reduceLE, Int.reduceNe, decide_true, decide_false, decide_not, eq_self, Classical.not_not, List.getElem?_cons_zero, List.getElem?_cons_succ, beq_self_eq_true, bne_self_eq_false]
        refine pick_loop vs ws (srt (vat vs) vs.length) (hiW (u * S)) ?_ ?_ (by rw [srt_len]; exact h20) hk0 hws
        · intro rec5 k m hm k1 k2
          have q1 : (m : Int) < ((encN (srt (vat vs) vs.length)).length : Int) := by rw [encN_len]; omega
          have q1b : (m : Int) < vs.length := by rw [srt_len] at hm; omega
          have hj := srt_lt (List.getElem_mem hm)
          have q0 : (encN (srt (vat vs) vs.length)).getD ((m : Int)).toNat (.i 0) = .i ((srt (vat vs) vs.length)[m] : Nat) := idx_map (fun (i : Nat) => Sc.i (i : Int)) _ m hm
          have hs := succ_w (n := (srt (vat vs) vs.length).length) hm (by rw [srt_len]; omega)
          have hb := hws _ (List.getElem_mem hm)
          generalize (srt (vat vs) vs.length)[m] = j at *
          have d1 := idxD vs j hj
          have d2 := idxD ws j (by omega)
          have q2 : (j : Int) < vs.length := by omega
          have q3 : (j : Int) < ws.length := by omega
          have q4 : IntKind.i64.wrap (k - ws.getD j 0) = k - ws.getD j 0 := wrJ (by omega) (by omega)
          constructor
          · intro c
            simp only [q0, q1, q1b, q2, q3, d1, d2, c, Int.natCast_nonneg, bne_iff_ne, beq_iff_eq, ne_eq, decide_eq_true_eq, Bool.and_eq_true, Bool.or_eq_true, Bool.not_eq_true', decide_eq_false_iff_not, beq_eq_false_iff_ne, bne_eq_false_iff_eq, not_true_eq_false, not_false_eq_true, if_true, if_false, reduceIte, and_true, true_and, and_false, false_and, or_false, false_or, or_true, true_or, List.getD_cons_zero, List.getD_cons_succ, List.length_cons, List.length_nil, List.cons_append, List.nil_append, Nat.reduceAdd, Nat.reduceEqDiff, reduceCtorEq, Bool.not_true, Bool.not_false, Bool.true_and, Bool.and_true, Bool.false_and, Bool.and_false, Bool.or_true, Bool.true_or, Bool.or_false, Bool.false_or, Bool.false_eq_true, Bool.true_eq_false, int_n, bool_n, list_n, Sc.str_s, Int.reduceEq, Int.reduceLT, Int.reduceLE, Int.reduceNe, decide_true, decide_false, decide_not, eq_self, Classical.not_not, List.getElem?_cons_zero, List.getElem?_cons_succ, beq_self_eq_true, bne_self_eq_false]
          · intro c
            simp only [q0, q1, q1b, q2, q3, q4, d1, d2, c, hs, Int.natCast_nonneg, bne_iff_ne, beq_iff_eq, ne_eq, decide_eq_true_eq, Bool.and_eq_true, Bool.or_eq_true, Bool.not_eq_true', decide_eq_false_iff_not, beq_eq_false_iff_ne, bne_eq_false_iff_eq, not_true_eq_false, not_false_eq_true, if_true, if_false, reduceIte, and_true, true_and, and_false, false_and, or_false, false_or, or_true, true_or, List.getD_cons_zero, List.getD_cons_succ, List.length_cons, List.length_nil, List.cons_append, List.nil_append, Nat.reduceAdd, Nat.reduceEqDiff, reduceCtorEq, Bool.not_true, Bool.not_false, Bool.true_and, Bool.and_true, Bool.false_and, Bool.and_false, Bool.or_true, Bool.true_or, Bool.or_false, Bool.false_or, Bool.false_eq_true, Bool.true_eq_false, int_n, bool_n, list_n, Sc.str_s, Int.reduceEq, Int.reduceLT, Int.reduceLE, Int.reduceNe, decide_true, decide_false, decide_not, eq_self, Classical.not_not, List.getElem?_cons_zero, List.getElem?_cons_succ, beq_self_eq_true, bne_self_eq_false]
        · intro rec5 k
          have q1 : ¬ (((srt (vat vs) vs.length).length : Nat) : Int) < ((encN (srt (vat vs) vs.length)).length : Int) := by rw [encN_len]; omega
          have q1b : ¬ (((srt (vat vs) vs.length).length : Nat) : Int) < vs.length := by rw [srt_len]; omega
          simp only [q1, q1b, Int.natCast_nonneg, bne_iff_ne, beq_iff_eq, ne_eq, decide_eq_true_eq, Bool.and_eq_true, Bool.or_eq_true, Bool.not_eq_true', decide_eq_false_iff_not, beq_eq_false_iff_ne, bne_eq_false_iff_eq, not_true_eq_false, not_false_eq_true, if_true, if_false, reduceIte, and_true, true_and, and_false, false_and, or_false, false_or, or_true, true_or, List.getD_cons_zero, List.getD_cons_succ, List.length_cons, List.length_nil, List.cons_append, List.nil_append, Nat.reduceAdd, Nat.reduceEqDiff, reduceCtorEq, Bool.not_true, Bool.not_false, Bool.true_and, Bool.and_true, Bool.false_and, Bool.and_false, Bool.or_true, Bool.true_or, Bool.or_false, Bool.false_or, Bool.false_eq_true, Bool.true_eq_false, int_n, bool_n, list_n, Sc.str_s, Int.reduceEq, Int.reduceLT, Int.reduceLE, Int.reduceNe, decide_true, decide_false, decide_not, eq_self, Classical.not_not, List.getElem?_cons_zero, List.getElem?_cons_succ, beq_self_eq_true, bne_self_eq_false]
end Go.Proofs.YtmaocifplceopaaDoor
