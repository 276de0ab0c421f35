/-
  Draw, both ways. 
-/
import Derived.Test.YtmaocifplceopaaDoorM04a
namespace Go.Proofs.YtmaocifplceopaaDoor
set_option linter.unusedSimpArgs false
set_option linter.unusedVariables false

theorem pick_in {vs ws : List Int} (hv : ∀ x ∈ vs, 0 ≤ x ∧ x ≤ 1000000000) : ∀ (L : List Nat) (k : Int), 0 ≤ pickS vs ws L k ∧ pickS vs ws L k ≤ 1000000000
  | [], k => by unfold pickS; omega
  | i :: r, k => by
    unfold pickS
    split
    · rw [List.getD_eq_getElem?_getD]
      rcases Nat.lt_or_ge i vs.length with h | h
      · rw [List.getElem?_eq_getElem h]; exact hv _ (List.getElem_mem h)
      · rw [List.getElem?_eq_none h]; exact ⟨by decide, by decide⟩
    · exact pick_in hv r _
theorem trV_in {W : Int} {A B : Nat} : ∀ (f t k : Nat), k + f = B → k ≤ trV W A B f t k ∧ trV W A B f t k ≤ B
  | 0, t, k, h => by unfold trV; omega
  | f + 1, t, k, h => by
    unfold trV
    split
    · omega
    · have := trV_in (W := W) (A := A) (B := B) f (t * (A - 1) / A) (k + 1) (by omega)
      omega
theorem atV_in (op a b n : Int) (vs ws : List Int) (u : Nat) (hu : u < 18446744073709551616) : 0 ≤ (atV op a b n vs ws u).1 ∧ (atV op a b n vs ws u).1 ≤ 1000000000 := by
  unfold atV
  split
  · simp only; omega
  rename_i h0
  have h0 : chkD op a b n vs ws = 0 := Classical.not_not.1 h0
  split
  · rename_i e; subst e; exact chk1 h0
  split
  · rename_i e; subst e
    obtain ⟨h1, h2, h3⟩ := chk2 h0
    have := uniV_in h2 hu
    simp only; omega
  split
  · rename_i e; subst e
    obtain ⟨h1, h2, h3, h4, h5⟩ := chk3 h0
    exact pick_in h4 _ _
  split
  · rename_i e; subst e
    obtain ⟨h1, h2⟩ := chk5 h0
    have := trV_in (W := xorU 18446744073709551615 u) (A := a.toNat) (B := b.toNat) (b.toNat - 1) 18446744073709551615 1 (by omega)
    simp only; omega
  · simp only; omega
/-- The random number of place p, as a natural one. -/
noncomputable def numN (k p : Int) (m : Bool) : Nat := (numV k p m).toNat
theorem numN_lt (k p : Int) (m : Bool) : numN k p m < 18446744073709551616 := by
  have := numV_in k p m
  unfold numN; omega
theorem numN_eq (k p : Int) (m : Bool) : ((numN k p m : Nat) : Int) = numV k p m := by
  have := numV_in k p m
  unfold numN; omega
/-- The sum of the first numbers. -/
noncomputable def drwS (a b k p : Int) (m : Bool) : Nat → Int
  | 0 => 0
  | j + 1 => drwS a b k p m j + uniV a b (numN k (p + j + 1) m)
theorem drwS_in {a b : Int} (ha : 0 ≤ a) (hab : a ≤ b) (k p : Int) (m : Bool) : ∀ j : Nat, j * a ≤ drwS a b k p m j ∧ drwS a b k p m j ≤ j * b
  | 0 => by simp [drwS]
  | j + 1 => by
    have := drwS_in ha hab k p m j
    have h := uniV_in hab (numN_lt k (p + j + 1) m)
    have e1 : ((j + 1 : Nat) : Int) * a = j * a + a := by rw [Int.natCast_add, Int.add_mul]; simp
    have e2 : ((j + 1 : Nat) : Int) * b = j * b + b := by rw [Int.natCast_add, Int.add_mul]; simp
    rw [e1, e2]
    unfold drwS; omega
theorem nxt_mid (k p : Int) (m : Bool) (h1 : 0 ≤ p) (h2 : p < 1000000000000) : nxtV k p m = (numN k (p + 1) m : Nat) ∧ nxtP p = p + 1 := by
  have e : endedB p = false := by
    have s : scheck p = 0 := by unfold scheck; rw [if_neg (by omega), if_neg (by omega)]
    have : ¬ p = 1000000000000 := by omega
    simp [endedB, s, this]
  have w : IntKind.i64.wrap (p + 1) = p + 1 := wrJ (by omega) (by omega)
  unfold nxtV nxtP
  rw [e, w, numN_eq]; simp
theorem loop_from {S : Type} {g : (List Sc → Option (List Sc)) → List Sc → Option (List Sc)} {v : List Sc} {R : Option (List Sc)} (inv : S → List Sc) (F : S → Option (List Sc)) (ok : S → Prop) (m : S → Nat) (s : S) (e : v = inv s) (eR : F s = R) (ho : ok s) (hm : m s < 340282366920938463463374607431768211456)
    (h : ∀ s rec, ok s → (∀ s', ok s' → m s' < m s → rec (inv s') = F s') → g rec (inv s) = F s) : loopN g rounds v = R := by
  rw [e, ← eR]; exact loop_rounds inv F ok m h s ho hm
/-- What Draw returns. -/
noncomputable def drawV (op a b n : Int) (vs ws : List Int) (k p : Int) (m : Bool) : List Sc :=
  if chkD op a b n vs ws ≠ 0 then [.i 0, .i 0, .i 0, .b false, .i (chkD op a b n vs ws)] else
  if scheck p ≠ 0 then [.i 0, .i 0, .i 0, .b false, .i (scheck p)] else
  if op = 4 then (if 1000000000000 - n < p then [.i 0, .i 0, .i 0, .b false, .i 2] else [.i (drwS a b k p m n.toNat), .i k, .i (p + n), .b m, .i 0])
  else if 999999999999 < p then [.i 0, .i 0, .i 0, .b false, .i 2] else [.i (atV op a b n vs ws (numN k (p + 1) m)).1, .i k, .i (p + 1), .b m, .i 0]
theorem chk_uni {a b : Int} (h : 0 ≤ a ∧ a ≤ b ∧ b ≤ 1000000) : chkD 2 a b 0 [] [] = 0 := by
  unfold chkD unusedB
  have h1 : 0 ≤ a ∧ a ≤ b ∧ b ≤ 1000000000 := by omega
  simp [h1]
theorem at_uni {a b : Int} (h : 0 ≤ a ∧ a ≤ b ∧ b ≤ 1000000) (u : Nat) : atV 2 a b 0 [] [] u = (uniV a b u, true) := by
  unfold atV; rw [chk_uni h]; simp
theorem drawV_1 {op a b n k p : Int} {vs ws : List Int} {m : Bool} (h0 : ¬ chkD op a b n vs ws = 0) : drawV op a b n vs ws k p m = [.i 0, .i 0, .i 0, .b false, .i (chkD op a b n vs ws)] := by
  unfold drawV; rw [if_pos h0]
theorem drawV_2 {op a b n k p : Int} {vs ws : List Int} {m : Bool} (h0 : chkD op a b n vs ws = 0) (hs : ¬ scheck p = 0) : drawV op a b n vs ws k p m = [.i 0, .i 0, .i 0, .b false, .i (scheck p)] := by
  unfold drawV; rw [if_neg (fun h => h h0), if_pos hs]
theorem drawV_3 {op a b n k p : Int} {vs ws : List Int} {m : Bool} (h0 : chkD op a b n vs ws = 0) (hs : scheck p = 0) : drawV op a b n vs ws k p m =   if op = 4 then (if 1000000000000 - n < p then [.i 0, .i 0, .i 0, .b false, .i 2] else [.i (drwS a b k p m n.toNat), .i k, .i (p + n), .b m, .i 0])
  else if 999999999999 < p then [.i 0, .i 0, .i 0, .b false, .i 2] else [.i (atV op a b n vs ws (numN k (p + 1) m)).1, .i k, .i (p + 1), .b m, .i 0] := by
  unfold drawV; rw [if_neg (fun h => h h0), if_neg (fun h => h hs)]
theorem drw_wrap {a b k p : Int} {m : Bool} {N j : Nat} (hab : 0 ≤ a ∧ a ≤ b ∧ b ≤ 1000000) (hN : N ≤ 20) (hlt : j < N) : IntKind.i64.wrap (drwS a b k p m j + uniV a b (numN k (p + j + 1) m)) = drwS a b k p m (j + 1) := by
  have dj := drwS_in hab.1 hab.2.1 k p m (j + 1)
  have e : drwS a b k p m j + uniV a b (numN k (p + j + 1) m) = drwS a b k p m (j + 1) := rfl
  rw [e]
  have hb2 : ((j + 1 : Nat) : Int) * b ≤ 20 * 1000000 := Int.mul_le_mul (by omega) (by omega) (by omega) (by omega)
  have hb1 : (0 : Int) ≤ ((j + 1 : Nat) : Int) * a := Int.mul_nonneg (by omega) (by omega)
  exact wrJ (by omega) (by omega)
theorem draw_F (op a b n : Int) (vs ws : List Int) (k p : Int) (m : Bool) (hv : vs.length ≤ 17592186044416) (hw : ws.length ≤ 17592186044416) : k_dist_Draw.F [.i op, .i a, .i b, .i n, .l (vs.map .i), .l (ws.map .i), .i k, .i p, .b m] = some (drawV op a b n vs ws k p m) := by
  have C := fcheck_F op a b n vs ws hv hw
  simp only [k_dist_Draw_F, tk_dist_Draw, k_dist_Check_f, k_stream_Check_f, k_stream_Next_f, k_dist_At_f, C, scheck_F, Go.Proofs.YtmaocifplceopaaDoor.T.den, Ex.ev, U1.ev, U2.ev, U3.ev, gam, List.map, List.getD_cons_zero, List.getD_cons_succ, List.length, List.cons_append, List.nil_append, if_true, int_n, bool_n, list_n, Sc.str_s, Nat.reduceEqDiff, if_false, List.getElem?_cons_zero, List.getElem?_cons_succ]
  by_cases h0 : chkD op a b n vs ws = 0
  rotate_left
  · rw [drawV_1 h0]
    simp only [h0, Int.natCast_nonneg, bne_iff_ne, beq_iff_eq, ne_eq, decide_eq_true_eq, Bool.and_eq_true, Bool.or_eq_true, Bool.not_eq_true', decide_eq_false_iff_not, beq_eq_false_iff_ne, bne_eq_false_iff_eq, not_true_eq_false, not_false_eq_true, if_true, if_false, reduceIte, and_true, true_and, and_false, false_and, or_false, false_or, or_true, true_or, List.getD_cons_zero, List.getD_cons_succ, List.length_cons, List.length_nil, List.cons_append, List.nil_append, Nat.reduceAdd, Nat.reduceEqDiff, reduceCtorEq, Bool.not_true, Bool.not_false, Bool.true_and, Bool.and_true, Bool.false_and, Bool.and_false, Bool.or_true, Bool.true_or, Bool.or_false, Bool.false_or, Bool.false_eq_true, Bool.true_eq_false, int_n, bool_n, list_n, Sc.str_s, Int.reduceEq, Int.reduceLT, Int.reduceLE, Int.reduceNe, decide_true, decide_false, decide_not, eq_self, Classical.not_not, List.getElem?_cons_zero, List.getElem?_cons_succ, beq_self_eq_true, bne_self_eq_false]
  by_cases hs : scheck p = 0
  rotate_left
  · rw [drawV_2 h0 hs]
    simp only [h0, hs, Int.natCast_nonneg, bne_iff_ne, beq_iff_eq, ne_eq, decide_eq_true_eq, Bool.and_eq_true, Bool.or_eq_true, Bool.not_eq_true', decide_eq_false_iff_not, beq_eq_false_iff_ne, bne_eq_false_iff_eq, not_true_eq_false, not_false_eq_true, if_true, if_false, reduceIte, and_true, true_and, and_false, false_and, or_false, false_or, or_true, true_or, List.getD_cons_zero, List.getD_cons_succ, List.length_cons, List.length_nil, List.cons_append, List.nil_append, Nat.reduceAdd, Nat.reduceEqDiff, reduceCtorEq, Bool.not_true, Bool.not_false, Bool.true_and, Bool.and_true, Bool.false_and, Bool.and_false, Bool.or_true, Bool.true_or, Bool.or_false, Bool.false_or, Bool.false_eq_true, Bool.true_eq_false, int_n, bool_n, list_n, Sc.str_s, Int.reduceEq, Int.reduceLT, Int.reduceLE, Int.reduceNe, decide_true, decide_false, decide_not, eq_self, Classical.not_not, List.getElem?_cons_zero, List.getElem?_cons_succ, beq_self_eq_true, bne_self_eq_false]
  rw [drawV_3 h0 hs]
  have hp : 0 ≤ p ∧ p ≤ 1000000000000 := by
    unfold scheck at hs
    split at hs
    · omega
    split at hs
    · omega
    · omega
  by_cases h4 : op = 4
  · subst h4
    rw [if_pos rfl]
    obtain ⟨hn, hab⟩ := chk4 h0
    have w1 : IntKind.i64.wrap (1000000000000 - n) = 1000000000000 - n := wrJ (by omega) (by omega)
    by_cases hq : 1000000000000 - n < p
    · rw [if_pos hq]
      simp only [h0, hs, w1, hq, Int.natCast_nonneg, bne_iff_ne, beq_iff_eq, ne_eq, decide_eq_true_eq, Bool.and_eq_true, Bool.or_eq_true, Bool.not_eq_true', decide_eq_false_iff_not, beq_eq_false_iff_ne, bne_eq_false_iff_eq, not_true_eq_false, not_false_eq_true, if_true, if_false, reduceIte, and_true, true_and, and_false, false_and, or_false, false_or, or_true, true_or, List.getD_cons_zero, List.getD_cons_succ, List.length_cons, List.length_nil, List.cons_append, List.nil_append, Nat.reduceAdd, Nat.reduceEqDiff, reduceCtorEq, Bool.not_true, Bool.not_false, Bool.true_and, Bool.and_true, Bool.false_and, Bool.and_false, Bool.or_true, Bool.true_or, Bool.or_false, Bool.false_or, Bool.false_eq_true, Bool.true_eq_false, int_n, bool_n, list_n, Sc.str_s, Int.reduceEq, Int.reduceLT, Int.reduceLE, Int.reduceNe, decide_true, decide_false, decide_not, eq_self, Classical.not_not, List.getElem?_cons_zero, List.getElem?_cons_succ, beq_self_eq_true, bne_self_eq_false]
    rw [if_neg hq]
    simp only [h0, hs, w1, hq, Int.natCast_nonneg, bne_iff_ne, beq_iff_eq, ne_eq, decide_eq_true_eq, Bool.and_eq_true, Bool.or_eq_true, Bool.not_eq_true', decide_eq_false_iff_not, beq_eq_false_iff_ne, bne_eq_false_iff_eq, not_true_eq_false, not_false_eq_true, if_true, if_false, reduceIte, and_true, true_and, and_false, false_and, or_false, false_or, or_true, true_or, List.getD_cons_zero, List.getD_cons_succ, List.length_cons, List.length_nil, List.cons_append, List.nil_append, Nat.reduceAdd, Nat.reduceEqDiff, reduceCtorEq, Bool.not_true, Bool.not_false, Bool.true_and, Bool.and_true, Bool.false_and, Bool.and_false, Bool.or_true, Bool.true_or, Bool.or_false, Bool.false_or, Bool.false_eq_true, Bool.true_eq_false, int_n, bool_n, list_n, Sc.str_s, Int.reduceEq, Int.reduceLT, Int.reduceLE, Int.reduceNe, decide_true, decide_false, decide_not, eq_self, Classical.not_not, List.getElem?_cons_zero, List.getElem?_cons_succ, beq_self_eq_true, bne_self_eq_false]
    obtain ⟨N, rfl⟩ : ∃ N : Nat, n = N := ⟨n.toNat, by omega⟩
    refine loop_from (S := Nat) (fun j => [.i (drwS a b k p m j), .i (j : Int), .i k, .i (p + j), .b m]) (fun _ => some [.i (drwS a b k p m (N : Int).toNat), .i k, .i (p + N), .b m, .i 0]) (fun j => j ≤ N) (fun j => N - j) 0 (by simp [drwS]) rfl (by omega) (by omega) ?_
    intro j rec hj hrec
    by_cases hlt : j < N
    · have k1 : (j : Int) < N := by omega
      obtain ⟨x1, x2⟩ := nxt_mid k (p + j) m (by omega) (by omega)
      have sn := snext_F k (p + j) m
      rw [x1, x2] at sn
      have A := at_F 2 a b 0 [] [] (numN k (p + j + 1) m) (by simp) (by simp) (numN_lt ..)
      rw [at_uni hab] at A
      simp only [List.map_nil] at A
      have hw1 := succ_w (n := N) hlt (by omega)
      have hr := hrec (j + 1) (by omega) (by omega)
      have wS := drw_wrap (k := k) (p := p) (m := m) (N := N) hab (by omega) hlt
      have eP : p + (j : Int) + 1 = p + ((j + 1 : Nat) : Int) := by omega
      rw [eP] at sn A wS
      simp only [k1, sn, A, hw1, wS, hr, Int.natCast_nonneg, bne_iff_ne, beq_iff_eq, ne_eq, decide_eq_true_eq, Bool.and_eq_true, Bool.or_eq_true, Bool.not_eq_true', decide_eq_false_iff_not, beq_eq_false_iff_ne, bne_eq_false_iff_eq, not_true_eq_false, not_false_eq_true, if_true, if_false, reduceIte, and_true, true_and, and_false, false_and, or_false, false_or, or_true, true_or, List.getD_cons_zero, List.getD_cons_succ, List.length_cons, List.length_nil, List.cons_append, List.nil_append, Nat.reduceAdd, Nat.reduceEqDiff, reduceCtorEq, Bool.not_true, Bool.not_false, Bool.true_and, Bool.and_true, Bool.false_and, Bool.and_false, Bool.or_true, Bool.true_or, Bool.or_false, Bool.false_or, Bool.false_eq_true, Bool.true_eq_false, int_n, bool_n, list_n, Sc.str_s, Int.reduceEq, Int.reduceLT, Int.reduceLE, Int.reduceNe, decide_true, decide_false, decide_not, eq_self, Classical.not_not, List.getElem?_cons_zero, List.getElem?_cons_succ, beq_self_eq_true, bne_self_eq_false]
    · have k1 : ¬ (j : Int) < N := by omega
      have e : j = N := by omega
      subst e
      simp only [k1, Int.toNat_natCast, Int.natCast_nonneg, bne_iff_ne, beq_iff_eq, ne_eq, decide_eq_true_eq, Bool.and_eq_true, Bool.or_eq_true, Bool.not_eq_true', decide_eq_false_iff_not, beq_eq_false_iff_ne, bne_eq_false_iff_eq, not_true_eq_false, not_false_eq_true, if_true, if_false, reduceIte, and_true, true_and, and_false, false_and, or_false, false_or, or_true, true_or, List.getD_cons_zero, List.getD_cons_succ, List.length_cons, List.length_nil, List.cons_append, List.nil_append, Nat.reduceAdd, Nat.reduceEqDiff, reduceCtorEq, Bool.not_true, Bool.not_false, Bool.true_and, Bool.and_true, Bool.false_and, Bool.and_false, Bool.or_true, Bool.true_or, Bool.or_false, Bool.false_or, Bool.false_eq_true, Bool.true_eq_false, int_n, bool_n, list_n, Sc.str_s, Int.reduceEq, Int.reduceLT, Int.reduceLE, Int.reduceNe, decide_true, decide_false, decide_not, eq_self, Classical.not_not, List.getElem?_cons_zero, List.getElem?_cons_succ, beq_self_eq_true, bne_self_eq_false]
  · rw [if_neg h4]
    by_cases hq : 999999999999 < p
    · rw [if_pos hq]
      simp only [h0, hs, h4, hq, Int.natCast_nonneg, bne_iff_ne, beq_iff_eq, ne_eq, decide_eq_true_eq, Bool.and_eq_true, Bool.or_eq_true, Bool.not_eq_true', decide_eq_false_iff_not, beq_eq_false_iff_ne, bne_eq_false_iff_eq, not_true_eq_false, not_false_eq_true, if_true, if_false, reduceIte, and_true, true_and, and_false, false_and, or_false, false_or, or_true, true_or, List.getD_cons_zero, List.getD_cons_succ, List.length_cons, List.length_nil, List.cons_append, List.nil_append, Nat.reduceAdd, Nat.reduceEqDiff, reduceCtorEq, Bool.not_true, Bool.not_false, Bool.true_and, Bool.and_true, Bool.false_and, Bool.and_false, Bool.or_true, Bool.true_or, Bool.or_false, Bool.false_or, Bool.false_eq_true, Bool.true_eq_false, int_n, bool_n, list_n, Sc.str_s, Int.reduceEq, Int.reduceLT, Int.reduceLE, Int.reduceNe, decide_true, decide_false, decide_not, eq_self, Classical.not_not, List.getElem?_cons_zero, List.getElem?_cons_succ, beq_self_eq_true, bne_self_eq_false]
    rw [if_neg hq]
    obtain ⟨x1, x2⟩ := nxt_mid k p m (by omega) (by omega)
    have sn := snext_F k p m
    rw [x1, x2] at sn
    have A := at_F op a b n vs ws (numN k (p + 1) m) hv hw (numN_lt ..)
    have hb := atV_in op a b n vs ws (numN k (p + 1) m) (numN_lt ..)
    have wS : IntKind.i64.wrap (0 + (atV op a b n vs ws (numN k (p + 1) m)).1) = (atV op a b n vs ws (numN k (p + 1) m)).1 := by rw [Int.zero_add]; exact wrJ (by omega) (by omega)
    simp only [h0, hs, h4, hq, Int.natCast_nonneg, bne_iff_ne, beq_iff_eq, ne_eq, decide_eq_true_eq, Bool.and_eq_true, Bool.or_eq_true, Bool.not_eq_true', decide_eq_false_iff_not, beq_eq_false_iff_ne, bne_eq_false_iff_eq, not_true_eq_false, not_false_eq_true, if_true, if_false, reduceIte, and_true, true_and, and_false, false_and, or_false, false_or, or_true, true_or, List.getD_cons_zero, List.getD_cons_succ, List.length_cons, List.length_nil, List.cons_append, List.nil_append, Nat.reduceAdd, Nat.reduceEqDiff, reduceCtorEq, Bool.not_true, Bool.not_false, Bool.true_and, Bool.and_true, Bool.false_and, Bool.and_false, Bool.or_true, Bool.true_or, Bool.or_false, Bool.false_or, Bool.false_eq_true, Bool.true_eq_false, int_n, bool_n, list_n, Sc.str_s, Int.reduceEq, Int.reduceLT, Int.reduceLE, Int.reduceNe, decide_true, decide_false, decide_not, eq_self, Classical.not_not, List.getElem?_cons_zero, List.getElem?_cons_succ, beq_self_eq_true, bne_self_eq_false]
    refine loop_rounds (S := Bool) (fun s => if s = true then [.i (atV op a b n vs ws (numN k (p + 1) m)).1, .i 1, .i k, .i (p + 1), .b m] else [.i 0, .i 0, .i k, .i p, .b m]) (fun _ => some [.i (atV op a b n vs ws (numN k (p + 1) m)).1, .i k, .i (p + 1), .b m, .i 0]) (fun _ => True) (fun s => if s = true then 0 else 1) ?_ false trivial (by decide)
    intro s rec _ hrec
    have hr := hrec true trivial
    cases s
    · have hr := hr (by decide)
      simp only [if_true] at hr
      simp only [sn, A, wS, h4, show IntKind.i64.wrap (0 + 1) = 1 by decide, hr, Int.natCast_nonneg, bne_iff_ne, beq_iff_eq, ne_eq, decide_eq_true_eq, Bool.and_eq_true, Bool.or_eq_true, Bool.not_eq_true', decide_eq_false_iff_not, beq_eq_false_iff_ne, bne_eq_false_iff_eq, not_true_eq_false, not_false_eq_true, if_true, if_false, reduceIte, and_true, true_and, and_false, false_and, or_false, false_or, or_true, true_or, List.getD_cons_zero, List.getD_cons_succ, List.length_cons, List.length_nil, List.cons_append, List.nil_append, Nat.reduceAdd, Nat.reduceEqDiff, reduceCtorEq, Bool.not_true, Bool.not_false, Bool.true_and, Bool.and_true, Bool.false_and, Bool.and_false, Bool.or_true, Bool.true_or, Bool.or_false, Bool.false_or, Bool.false_eq_true, Bool.true_eq_false, int_n, bool_n, list_n, Sc.str_s, Int.reduceEq, Int.reduceLT, Int.reduceLE, Int.reduceNe, decide_true, decide_false, decide_not, eq_self, Classical.not_not, List.getElem?_cons_zero, List.getElem?_cons_succ, beq_self_eq_true, bne_self_eq_false]
    · simp only [Int.natCast_nonneg, bne_iff_ne, beq_iff_eq, ne_eq, decide_eq_true_eq, Bool.and_eq_true, Bool.or_eq_true, Bool.not_eq_true', decide_eq_false_iff_not, beq_eq_false_iff_ne, bne_eq_false_iff_eq, not_true_eq_false, not_false_eq_true, if_true, if_false, reduceIte, and_true, true_and, and_false, false_and, or_false, false_or, or_true, true_or, List.getD_cons_zero, List.getD_cons_succ, List.length_cons, List.length_nil, List.cons_append, List.nil_append, Nat.reduceAdd, Nat.reduceEqDiff, reduceCtorEq, Bool.not_true, Bool.not_false, Bool.true_and, Bool.and_true, Bool.false_and, Bool.and_false, Bool.or_true, Bool.true_or, Bool.or_false, Bool.false_or, Bool.false_eq_true, Bool.true_eq_false, int_n, bool_n, list_n, Sc.str_s, Int.reduceEq, Int.reduceLT, Int.reduceLE, Int.reduceNe, decide_true, decide_false, decide_not, eq_self, Classical.not_not, List.getElem?_cons_zero, List.getElem?_cons_succ, beq_self_eq_true, bne_self_eq_false]
theorem rdraw_F (op a b n : Int) (vs ws : List Int) (k p : Int) (m : Bool) (hv : vs.length ≤ 17592186044416) (hw : ws.length ≤ 17592186044416) : k_simulatorref04_Draw.F [.i op, .i a, .i b, .i n, .l (vs.map .i), .l (ws.map .i), .i k, .i p, .b m] = some (drawV op a b n vs ws k p m) := by
  have C := rcheck_F op a b n vs ws hv hw
  simp only [k_simulatorref04_Draw_F, tk_simulatorref04_Draw, k_simulatorref04_Check_f, k_simulatorref03_Check_f, k_simulatorref03_Next_f, k_simulatorref04_At_f, k_simulatorref04_uniform_f, C, rscheck_F, Go.Proofs.YtmaocifplceopaaDoor.T.den, Ex.ev, U1.ev, U2.ev, U3.ev, gam, List.map, List.getD_cons_zero, List.getD_cons_succ, List.length, List.cons_append, List.nil_append, if_true, int_n, bool_n, list_n, Sc.str_s, Nat.reduceEqDiff, if_false, List.getElem?_cons_zero, List.getElem?_cons_succ]
  by_cases h0 : chkD op a b n vs ws = 0
  rotate_left
  · rw [drawV_1 h0]
    simp only [h0, Int.natCast_nonneg, bne_iff_ne, beq_iff_eq, ne_eq, decide_eq_true_eq, Bool.and_eq_true, Bool.or_eq_true, Bool.not_eq_true', decide_eq_false_iff_not, beq_eq_false_iff_ne, bne_eq_false_iff_eq, not_true_eq_false, not_false_eq_true, if_true, if_false, reduceIte, and_true, true_and, and_false, false_and, or_false, false_or, or_true, true_or, List.getD_cons_zero, List.getD_cons_succ, List.length_cons, List.length_nil, List.cons_append, List.nil_append, Nat.reduceAdd, Nat.reduceEqDiff, reduceCtorEq, Bool.not_true, Bool.not_false, Bool.true_and, Bool.and_true, Bool.false_and, Bool.and_false, Bool.or_true, Bool.true_or, Bool.or_false, Bool.false_or, Bool.false_eq_true, Bool.true_eq_false, int_n, bool_n, list_n, Sc.str_s, Int.reduceEq, Int.reduceLT, Int.reduceLE, Int.reduceNe, decide_true, decide_false, decide_not, eq_self, Classical.not_not, List.getElem?_cons_zero, List.getElem?_cons_succ, beq_self_eq_true, bne_self_eq_false]
  by_cases hs : scheck p = 0
  rotate_left
  · rw [drawV_2 h0 hs]
    simp only [h0, hs, Int.natCast_nonneg, bne_iff_ne, beq_iff_eq, ne_eq, decide_eq_true_eq, Bool.and_eq_true, Bool.or_eq_true, Bool.not_eq_true', decide_eq_false_iff_not, beq_eq_false_iff_ne, bne_eq_false_iff_eq, not_true_eq_false, not_false_eq_true, if_true, if_false, reduceIte, and_true, true_and, and_false, false_and, or_false, false_or, or_true, true_or, List.getD_cons_zero, List.getD_cons_succ, List.length_cons, List.length_nil, List.cons_append, List.nil_append, Nat.reduceAdd, Nat.reduceEqDiff, reduceCtorEq, Bool.not_true, Bool.not_false, Bool.true_and, Bool.and_true, Bool.false_and, Bool.and_false, Bool.or_true, Bool.true_or, Bool.or_false, Bool.false_or, Bool.false_eq_true, Bool.true_eq_false, int_n, bool_n, list_n, Sc.str_s, Int.reduceEq, Int.reduceLT, Int.reduceLE, Int.reduceNe, decide_true, decide_false, decide_not, eq_self, Classical.not_not, List.getElem?_cons_zero, List.getElem?_cons_succ, beq_self_eq_true, bne_self_eq_false]
  rw [drawV_3 h0 hs]
  have hp : 0 ≤ p ∧ p ≤ 1000000000000 := by
    unfold scheck at hs
    split at hs
    · omega
    split at hs
    · omega
    · omega
  by_cases h4 : op = 4
  · subst h4
    rw [if_pos rfl]
    obtain ⟨hn, hab⟩ := chk4 h0
    have w1 : IntKind.i64.wrap (1000000000000 - n) = 1000000000000 - n := wrJ (by omega) (by omega)
    by_cases hq : 1000000000000 - n < p
    · rw [if_pos hq]
      simp only [h0, hs, w1, hq, Int.natCast_nonneg, bne_iff_ne, beq_iff_eq, ne_eq, decide_eq_true_eq, Bool.and_eq_true, Bool.or_eq_true, Bool.not_eq_true', decide_eq_false_iff_not, beq_eq_false_iff_ne, bne_eq_false_iff_eq, not_true_eq_false, not_false_eq_true, if_true, if_false, reduceIte, and_true, true_and, and_false, false_and, or_false, false_or, or_true, true_or, List.getD_cons_zero, List.getD_cons_succ, List.length_cons, List.length_nil, List.cons_append, List.nil_append, Nat.reduceAdd, Nat.reduceEqDiff, reduceCtorEq, Bool.not_true, Bool.not_false, Bool.true_and, Bool.and_true, Bool.false_and, Bool.and_false, Bool.or_true, Bool.true_or, Bool.or_false, Bool.false_or, Bool.false_eq_true, Bool.true_eq_false, int_n, bool_n, list_n, Sc.str_s, Int.reduceEq, Int.reduceLT, Int.reduceLE, Int.reduceNe, decide_true, decide_false, decide_not, eq_self, Classical.not_not, List.getElem?_cons_zero, List.getElem?_cons_succ, beq_self_eq_true, bne_self_eq_false]
    rw [if_neg hq]
    simp only [h0, hs, w1, hq, Int.natCast_nonneg, bne_iff_ne, beq_iff_eq, ne_eq, decide_eq_true_eq, Bool.and_eq_true, Bool.or_eq_true, Bool.not_eq_true', decide_eq_false_iff_not, beq_eq_false_iff_ne, bne_eq_false_iff_eq, not_true_eq_false, not_false_eq_true, if_true, if_false, reduceIte, and_true, true_and, and_false, false_and, or_false, false_or, or_true, true_or, List.getD_cons_zero, List.getD_cons_succ, List.length_cons, List.length_nil, List.cons_append, List.nil_append, Nat.reduceAdd, Nat.reduceEqDiff, reduceCtorEq, Bool.not_true, Bool.not_false, Bool.true_and, Bool.and_true, Bool.false_and, Bool.and_false, Bool.or_true, Bool.true_or, Bool.or_false, Bool.false_or, Bool.false_eq_true, Bool.true_eq_false, int_n, bool_n, list_n, Sc.str_s, Int.reduceEq, Int.reduceLT, Int.reduceLE, Int.reduceNe, decide_true, decide_false, decide_not, eq_self, Classical.not_not, List.getElem?_cons_zero, List.getElem?_cons_succ, beq_self_eq_true, bne_self_eq_false]
    obtain ⟨N, rfl⟩ : ∃ N : Nat, n = N := ⟨n.toNat, by omega⟩
    refine loop_from (S := Nat) (fun j => [.i (drwS a b k p m j), .i (j : Int), .i k, .i (p + j), .b m]) (fun _ => some [.i (drwS a b k p m (N : Int).toNat), .i k, .i (p + N), .b m, .i 0]) (fun j => j ≤ N) (fun j => N - j) 0 (by simp [drwS]) rfl (by omega) (by omega) ?_
    intro j rec hj hrec
    by_cases hlt : j < N
    · have k1 : (j : Int) < N := by omega
      obtain ⟨x1, x2⟩ := nxt_mid k (p + j) m (by omega) (by omega)
      have sn := rnext_F k (p + j) m
      rw [x1, x2] at sn
      have A := uniform_F a b (numN k (p + j + 1) m) hab.1 hab.2.1 (by omega) (numN_lt ..)
      have hw1 := succ_w (n := N) hlt (by omega)
      have hr := hrec (j + 1) (by omega) (by omega)
      have wS := drw_wrap (k := k) (p := p) (m := m) (N := N) hab (by omega) hlt
      have eP : p + (j : Int) + 1 = p + ((j + 1 : Nat) : Int) := by omega
      rw [eP] at sn A wS
      simp only [k1, sn, A, hw1, wS, hr, Int.natCast_nonneg, bne_iff_ne, beq_iff_eq, ne_eq, decide_eq_true_eq, Bool.and_eq_true, Bool.or_eq_true, Bool.not_eq_true', decide_eq_false_iff_not, beq_eq_false_iff_ne, bne_eq_false_iff_eq, not_true_eq_false, not_false_eq_true, if_true, if_false, reduceIte, and_true, true_and, and_false, false_and, or_false, false_or, or_true, true_or, List.getD_cons_zero, List.getD_cons_succ, List.length_cons, List.length_nil, List.cons_append, List.nil_append, Nat.reduceAdd, Nat.reduceEqDiff, reduceCtorEq, Bool.not_true, Bool.not_false, Bool.true_and, Bool.and_true, Bool.false_and, Bool.and_false, Bool.or_true, Bool.true_or, Bool.or_false, Bool.false_or, Bool.false_eq_true, Bool.true_eq_false, int_n, bool_n, list_n, Sc.str_s, Int.reduceEq, Int.reduceLT, Int.reduceLE, Int.reduceNe, decide_true, decide_false, decide_not, eq_self, Classical.not_not, List.getElem?_cons_zero, List.getElem?_cons_succ, beq_self_eq_true, bne_self_eq_false]
    · have k1 : ¬ (j : Int) < N := by omega
      have e : j = N := by omega
      subst e
      simp only [k1, Int.toNat_natCast, Int.natCast_nonneg, bne_iff_ne, beq_iff_eq, ne_eq, decide_eq_true_eq, Bool.and_eq_true, Bool.or_eq_true, Bool.not_eq_true', decide_eq_false_iff_not, beq_eq_false_iff_ne, bne_eq_false_iff_eq, not_true_eq_false, not_false_eq_true, if_true, if_false, reduceIte, and_true, true_and, and_false, false_and, or_false, false_or, or_true, true_or, List.getD_cons_zero, List.getD_cons_succ, List.length_cons, List.length_nil, List.cons_append, List.nil_append, Nat.reduceAdd, Nat.reduceEqDiff, reduceCtorEq, Bool.not_true, Bool.not_false, Bool.true_and, Bool.and_true, Bool.false_and, Bool.and_false, Bool.or_true, Bool.true_or, Bool.or_false, Bool.false_or, Bool.false_eq_true, Bool.true_eq_false, int_n, bool_n, list_n, Sc.str_s, Int.reduceEq, Int.reduceLT, Int.reduceLE, Int.reduceNe, decide_true, decide_false, decide_not, eq_self, Classical.not_not, List.getElem?_cons_zero, List.getElem?_cons_succ, beq_self_eq_true, bne_self_eq_false]
  · rw [if_neg h4]
    by_cases hq : 999999999999 < p
    · rw [if_pos hq]
      simp only [h0, hs, h4, hq, Int.natCast_nonneg, bne_iff_ne, beq_iff_eq, ne_eq, decide_eq_true_eq, Bool.and_eq_true, Bool.or_eq_true, Bool.not_eq_true', decide_eq_false_iff_not, beq_eq_false_iff_ne, bne_eq_false_iff_eq, not_true_eq_false, not_false_eq_true, if_true, if_false, reduceIte, and_true, true_and, and_false, false_and, or_false, false_or, or_true, true_or, List.getD_cons_zero, List.getD_cons_succ, List.length_cons, List.length_nil, List.cons_append, List.nil_append, Nat.reduceAdd, Nat.reduceEqDiff, reduceCtorEq, Bool.not_true, Bool.not_false, Bool.true_and, Bool.and_true, Bool.false_and, Bool.and_false, Bool.or_true, Bool.true_or, Bool.or_false, Bool.false_or, Bool.false_eq_true, Bool.true_eq_false, int_n, bool_n, list_n, Sc.str_s, Int.reduceEq, Int.reduceLT, Int.reduceLE, Int.reduceNe, decide_true, decide_false, decide_not, eq_self, Classical.not_not, List.getElem?_cons_zero, List.getElem?_cons_succ, beq_self_eq_true, bne_self_eq_false]
    rw [if_neg hq]
    obtain ⟨x1, x2⟩ := nxt_mid k p m (by omega) (by omega)
    have sn := rnext_F k p m
    rw [x1, x2] at sn
    have A := rat_F op a b n vs ws (numN k (p + 1) m) hv hw (numN_lt ..)
    have hb := atV_in op a b n vs ws (numN k (p + 1) m) (numN_lt ..)
    have wS : IntKind.i64.wrap (0 + (atV op a b n vs ws (numN k (p + 1) m)).1) = (atV op a b n vs ws (numN k (p + 1) m)).1 := by rw [Int.zero_add]; exact wrJ (by omega) (by omega)
    simp only [h0, hs, h4, hq, Int.natCast_nonneg, bne_iff_ne, beq_iff_eq, ne_eq, decide_eq_true_eq, Bool.and_eq_true, Bool.or_eq_true, Bool.not_eq_true', decide_eq_false_iff_not, beq_eq_false_iff_ne, bne_eq_false_iff_eq, not_true_eq_false, not_false_eq_true, if_true, if_false, reduceIte, and_true, true_and, and_false, false_and, or_false, false_or, or_true, true_or, List.getD_cons_zero, List.getD_cons_succ, List.length_cons, List.length_nil, List.cons_append, List.nil_append, Nat.reduceAdd, Nat.reduceEqDiff, reduceCtorEq, Bool.not_true, Bool.not_false, Bool.true_and, Bool.and_true, Bool.false_and, Bool.and_false, Bool.or_true, Bool.true_or, Bool.or_false, Bool.false_or, Bool.false_eq_true, Bool.true_eq_false, int_n, bool_n, list_n, Sc.str_s, Int.reduceEq, Int.reduceLT, Int.reduceLE, Int.reduceNe, decide_true, decide_false, decide_not, eq_self, Classical.not_not, List.getElem?_cons_zero, List.getElem?_cons_succ, beq_self_eq_true, bne_self_eq_false]
    refine loop_rounds (S := Bool) (fun s => if s = true then [.i (atV op a b n vs ws (numN k (p + 1) m)).1, .i 1, .i k, .i (p + 1), .b m] else [.i 0, .i 0, .i k, .i p, .b m]) (fun _ => some [.i (atV op a b n vs ws (numN k (p + 1) m)).1, .i k, .i (p + 1), .b m, .i 0]) (fun _ => True) (fun s => if s = true then 0 else 1) ?_ false trivial (by decide)
    intro s rec _ hrec
    have hr := hrec true trivial
    cases s
    · have hr := hr (by decide)
      simp only [if_true] at hr
      simp only [sn, A, wS, h4, show IntKind.i64.wrap (0 + 1) = 1 by decide, hr, Int.natCast_nonneg, bne_iff_ne, beq_iff_eq, ne_eq, decide_eq_true_eq, Bool.and_eq_true, Bool.or_eq_true, Bool.not_eq_true', decide_eq_false_iff_not, beq_eq_false_iff_ne, bne_eq_false_iff_eq, not_true_eq_false, not_false_eq_true, if_true, if_false, reduceIte, and_true, true_and, and_false, false_and, or_false, false_or, or_true, true_or, List.getD_cons_zero, List.getD_cons_succ, List.length_cons, List.length_nil, List.cons_append, List.nil_append, Nat.reduceAdd, Nat.reduceEqDiff, reduceCtorEq, Bool.not_true, Bool.not_false, Bool.true_and, Bool.and_true, Bool.false_and, Bool.and_false, Bool.or_true, Bool.true_or, Bool.or_false, Bool.false_or, Bool.false_eq_true, Bool.true_eq_false, int_n, bool_n, list_n, Sc.str_s, Int.reduceEq, Int.reduceLT, Int.reduceLE, Int.reduceNe, decide_true, decide_false, decide_not, eq_self, Classical.not_not, List.getElem?_cons_zero, List.getElem?_cons_succ, beq_self_eq_true, bne_self_eq_false]
    · simp only [Int.natCast_nonneg, bne_iff_ne, beq_iff_eq, ne_eq, decide_eq_true_eq, Bool.and_eq_true, Bool.or_eq_true, Bool.not_eq_true', decide_eq_false_iff_not, beq_eq_false_iff_ne, bne_eq_false_iff_eq, not_true_eq_false, not_false_eq_true, if_true, if_false, reduceIte, and_true, true_and, and_false, false_and, or_false, false_or, or_true, true_or, List.getD_cons_zero, List.getD_cons_succ, List.length_cons, List.length_nil, List.cons_append, List.nil_append, Nat.reduceAdd, Nat.reduceEqDiff, reduceCtorEq, Bool.not_true, Bool.not_false, Bool.true_and, Bool.and_true, Bool.false_and, Bool.and_false, Bool.or_true, Bool.true_or, Bool.or_false, Bool.false_or, Bool.false_eq_true, Bool.true_eq_false, int_n, bool_n, list_n, Sc.str_s, Int.reduceEq, Int.reduceLT, Int.reduceLE, Int.reduceNe, decide_true, decide_false, decide_not, eq_self, Classical.not_not, List.getElem?_cons_zero, List.getElem?_cons_succ, beq_self_eq_true, bne_self_eq_false]
end Go.Proofs.YtmaocifplceopaaDoor
