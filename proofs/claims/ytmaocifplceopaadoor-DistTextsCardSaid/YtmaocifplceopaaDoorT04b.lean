/-
  Texts of distributions, both ways. 
-/
import Derived.Test.YtmaocifplceopaaDoorT04
namespace Go.Proofs.YtmaocifplceopaaDoor
set_option linter.unusedSimpArgs false
set_option linter.unusedVariables false

def joinL (w : List UInt8) : List Int → List UInt8
  | [] => w
  | n :: r => joinL (w ++ 32 :: Lib.itoa n) r
def tabP (p : Int × Int) : List UInt8 := 32 :: (Lib.itoa p.1 ++ 58 :: Lib.itoa p.2)
def tabL (vs ws : List Int) (j : Nat) : List UInt8 := ([116, 97, 98, 108, 101] : List UInt8) ++ ((vs.zip ws).take j).flatMap tabP
def wConst : List UInt8 := [99, 111, 110, 115, 116]
def wUni : List UInt8 := [117, 110, 105, 102, 111, 114, 109]
def wSum : List UInt8 := [115, 117, 109]
def wGeom : List UInt8 := [103, 101, 111, 109]
/-- A distribution's text. -/
def textD (op a b n : Int) (vs ws : List Int) : List UInt8 :=
  if chkD op a b n vs ws ≠ 0 then [] else
  if op = 1 then joinL wConst [a] else if op = 2 then joinL wUni [a, b] else if op = 4 then joinL wSum [n, a, b] else if op = 5 then joinL wGeom [a, b] else tabL vs ws vs.length
def okN (ns : List Int) : Prop := ∀ x ∈ ns, 0 ≤ x ∧ x ≤ 1000000000
theorem join_loop {g : (List Sc → Option (List Sc)) → List Sc → Option (List Sc)} (ns : List Int) (w0 : List UInt8) (hn : okN ns) (hl : ns.length ≤ 10) (hw : w0.length ≤ 100)
    (h1 : ∀ rec (w : List UInt8) (j : Nat) (hj : j < ns.length) (t : List UInt8), t.length ≤ 20 → w.length ≤ 1000 → k_num_Text.F [.i ns[j]] = some [bS t] → g rec [bS w, .i (j : Int)] = rec [bS (w ++ 32 :: t), .i ((j + 1 : Nat) : Int)])
    (h2 : ∀ rec (w : List UInt8), g rec [bS w, .i (ns.length : Int)] = some [bS w]) : loopN g rounds [bS w0, .i 0] = some [bS (joinL w0 ns)] := by
  refine loop_from (S := Nat × List UInt8) (fun s => [bS s.2, .i (s.1 : Int)]) (fun s => some [bS (joinL s.2 (ns.drop s.1))]) (fun s => s.1 ≤ ns.length ∧ s.2.length ≤ 100 + 21 * s.1) (fun s => ns.length - s.1) (0, w0) rfl (by rw [List.drop_zero]) ⟨Nat.zero_le _, by simp only; omega⟩ (by simp only; omega) ?_
  rintro ⟨j, w⟩ rec ⟨hj, hlw⟩ hrec
  simp only at hj hlw hrec ⊢
  by_cases hlt : j < ns.length
  · have hb := hn _ (List.getElem_mem hlt)
    have l := itoa_len ns[j] hb.1 hb.2
    rw [h1 rec w j hlt (Lib.itoa ns[j]) l (by omega) (numText_F _ hb.1 hb.2)]
    have := hrec (j + 1, w ++ 32 :: Lib.itoa ns[j]) ⟨by simp only; omega, by simp only [List.length_append, List.length_cons]; omega⟩ (by simp only; omega)
    rw [this, List.drop_eq_getElem_cons hlt]; rfl
  · have e : j = ns.length := by omega
    subst e
    rw [List.drop_length, h2]; rfl
theorem tab_len (vs ws : List Int) (hv : okN vs) (hw : okN ws) : ∀ j : Nat, (tabL vs ws j).length ≤ 5 + 42 * j := by
  intro j
  unfold tabL
  rw [List.length_append]
  have key : ∀ l : List (Int × Int), (∀ p ∈ l, (0 ≤ p.1 ∧ p.1 ≤ 1000000000) ∧ (0 ≤ p.2 ∧ p.2 ≤ 1000000000)) → (l.flatMap tabP).length ≤ 42 * l.length := by
    intro l
    induction l with
    | nil => intro _; simp
    | cons p r ih =>
      intro h
      have hp := h p (List.mem_cons_self ..)
      have l1 := itoa_len p.1 hp.1.1 hp.1.2
      have l2 := itoa_len p.2 hp.2.1 hp.2.2
      have := ih fun q hq => h q (List.mem_cons_of_mem _ hq)
      simp only [List.flatMap_cons, List.length_append, List.length_cons, tabP]; omega
  have := key ((vs.zip ws).take j) (fun p hp => by
    have := List.mem_of_mem_take hp
    exact ⟨hv _ (List.of_mem_zip this).1, hw _ (List.of_mem_zip this).2⟩)
  have l3 : ((vs.zip ws).take j).length ≤ j := by rw [List.length_take]; omega
  simp only [List.length_cons, List.length_nil]
  have : 42 * ((vs.zip ws).take j).length ≤ 42 * j := Nat.mul_le_mul_left _ l3
  omega
theorem tab_succ (vs ws : List Int) {j : Nat} (h1 : j < vs.length) (h2 : j < ws.length) : tabL vs ws (j + 1) = tabL vs ws j ++ 32 :: (Lib.itoa vs[j] ++ 58 :: Lib.itoa ws[j]) := by
  unfold tabL
  rw [List.take_add_one, List.getElem?_eq_getElem (show j < (vs.zip ws).length by rw [List.length_zip]; omega), List.flatMap_append]
  simp [tabP]
def bL (l : List UInt8) : Sc := .l (l.map fun b => Sc.i (b.toNat : Int))
theorem bytes_mk (l : List UInt8) : Sc.l (bytesL (ByteArray.mk l.toArray)) = bL l := rfl
theorem bL_app (a b : List UInt8) : Sc.l ((bL a).list ++ (bL b).list) = bL (a ++ b) := by
  unfold bL
  rw [List.map_append]; rfl
theorem bL_of (l : List UInt8) : ((bL l).list.map fun y => UInt8.ofNat y.int.toNat) = l := by
  unfold bL
  show List.map _ (List.map _ l) = l
  rw [List.map_map]
  conv => rhs; rw [← List.map_id l]
  apply List.map_congr_left
  intro x _
  simp
theorem bL_is (l : List UInt8) (h : l ≠ []) : (!(bL l).list.isEmpty && (bL l).list.all isByte) = true := by
  have e1 : (bL l).list.isEmpty = false := by cases l with | nil => exact absurd rfl h | cons x r => rfl
  have e2 : (bL l).list.all isByte = true := by
    rw [List.all_eq_true]
    intro x hx
    obtain ⟨y, _, rfl⟩ := List.mem_map.1 hx
    have := y.toNat_lt
    simp only [isByte, Bool.and_eq_true, decide_eq_true_eq]; omega
  rw [e1, e2]; rfl
theorem bL_len (l : List UInt8) : (bL l).list.length = l.length := List.length_map ..
theorem ftext_F (op a b n : Int) (vs ws : List Int) (hv : vs.length ≤ 17592186044416) (hw : ws.length ≤ 17592186044416) : k_dist_Text.F [.i op, .i a, .i b, .i n, .l (vs.map .i), .l (ws.map .i)] = some [bS (textD op a b n vs ws)] := by
  have C := fcheck_F op a b n vs ws hv hw
  simp only [k_dist_Text_F, tk_dist_Text, k_dist_Check_f, k_num_Text_f, List.length_map, C, Go.Proofs.YtmaocifplceopaaDoor.T.den, Ex.ev, U1.ev, U2.ev, U3.ev, gam, List.map, List.getD_cons_zero, List.getD_cons_succ, List.length, List.cons_append, List.nil_append, if_true, int_n, bool_n, list_n, Sc.str_s, Nat.reduceEqDiff, if_false, List.getElem?_cons_zero, List.getElem?_cons_succ]
  by_cases h0 : chkD op a b n vs ws = 0
  rotate_left
  · unfold textD; rw [if_pos h0]
    simp only [h0, Int.natCast_nonneg, bne_iff_ne, beq_iff_eq, ne_eq, decide_eq_true_eq, Bool.and_eq_true, Bool.or_eq_true, Bool.not_eq_true', decide_eq_false_iff_not, beq_eq_false_iff_ne, bne_eq_false_iff_eq, not_true_eq_false, not_false_eq_true, if_true, if_false, reduceIte, and_true, true_and, and_false, false_and, or_false, false_or, or_true, true_or, List.getD_cons_zero, List.getD_cons_succ, List.length_cons, List.length_nil, List.cons_append, List.nil_append, Nat.reduceAdd, Nat.reduceEqDiff, reduceCtorEq, Bool.not_true, Bool.not_false, Bool.true_and, Bool.and_true, Bool.false_and, Bool.and_false, Bool.or_true, Bool.true_or, Bool.or_false, Bool.false_or, Bool.false_eq_true, Bool.true_eq_false, int_n, bool_n, list_n, Sc.str_s, Int.reduceEq, Int.reduceLT, Int.reduceLE, Int.reduceNe, decide_true, decide_false, decide_not, eq_self, Classical.not_not, List.getElem?_cons_zero, List.getElem?_cons_succ, beq_self_eq_true, bne_self_eq_false]
    rfl
  have hT : textD op a b n vs ws = if op = 1 then joinL wConst [a] else if op = 2 then joinL wUni [a, b] else if op = 4 then joinL wSum [n, a, b] else if op = 5 then joinL wGeom [a, b] else tabL vs ws vs.length := by
    unfold textD; rw [if_neg (fun h => h h0)]
  rw [hT]
  have cat32 : ∀ t : List UInt8, ByteArray.mk #[UInt8.ofNat 32] ++ ByteArray.mk t.toArray = ByteArray.mk (32 :: t).toArray := fun t => cat_mk [32] t
  have cat58 : ∀ t : List UInt8, ByteArray.mk t.toArray ++ ByteArray.mk #[UInt8.ofNat 58] = ByteArray.mk (t ++ [58]).toArray := fun t => cat_mk t [58]
  rcases chk_op h0 with rfl | rfl | rfl | rfl | rfl
  · simp only [h0, Int.natCast_nonneg, bne_iff_ne, beq_iff_eq, ne_eq, decide_eq_true_eq, Bool.and_eq_true, Bool.or_eq_true, Bool.not_eq_true', decide_eq_false_iff_not, beq_eq_false_iff_ne, bne_eq_false_iff_eq, not_true_eq_false, not_false_eq_true, if_true, if_false, reduceIte, and_true, true_and, and_false, false_and, or_false, false_or, or_true, true_or, List.getD_cons_zero, List.getD_cons_succ, List.length_cons, List.length_nil, List.cons_append, List.nil_append, Nat.reduceAdd, Nat.reduceEqDiff, reduceCtorEq, Bool.not_true, Bool.not_false, Bool.true_and, Bool.and_true, Bool.false_and, Bool.and_false, Bool.or_true, Bool.true_or, Bool.or_false, Bool.false_or, Bool.false_eq_true, Bool.true_eq_false, int_n, bool_n, list_n, Sc.str_s, Int.reduceEq, Int.reduceLT, Int.reduceLE, Int.reduceNe, decide_true, decide_false, decide_not, eq_self, Classical.not_not, List.getElem?_cons_zero, List.getElem?_cons_succ, beq_self_eq_true, bne_self_eq_false]
    obtain ⟨i1, i2⟩ := chk1 h0
    refine join_loop [a] wConst (fun x hx => ?_) (by simp) (by decide) ?_ ?_
    · simp only [List.mem_cons, List.not_mem_nil, or_false] at hx; omega
    · intro rec w j hj t ht hw' hq
      have hj' : j < 1 := hj
      have k1 : (j : Int) < ((1 : Nat) : Int) := by omega
      have hx : ([Sc.i a] : List Sc).getD ((j : Int)).toNat (.i 0) = .i (([a] : List Int)[j]) := idx_map Sc.i [a] j hj
      have hs := succ_w (n := 1) hj' (by omega)
      generalize ([a] : List Int)[j] = x at *
      have s1 : ((t.length + 1 : Nat) : Int) ≤ 9223372036854775807 := long_ok (by omega)
      have s2 : ((w.length + (t.length + 1) : Nat) : Int) ≤ 9223372036854775807 := long_ok (by omega)
      unfold bS at hq ⊢
      simp only [k1, hx, hq, cat32, cat_mk, size_mk, List.length_append, s1, s2, hs, Int.natCast_nonneg, bne_iff_ne, beq_iff_eq, ne_eq, decide_eq_true_eq, Bool.and_eq_true, Bool.or_eq_true, Bool.not_eq_true', decide_eq_false_iff_not, beq_eq_false_iff_ne, bne_eq_false_iff_eq, not_true_eq_false, not_false_eq_true, if_true, if_false, reduceIte, and_true, true_and, and_false, false_and, or_false, false_or, or_true, true_or, List.getD_cons_zero, List.getD_cons_succ, List.length_cons, List.length_nil, List.cons_append, List.nil_append, Nat.reduceAdd, Nat.reduceEqDiff, reduceCtorEq, Bool.not_true, Bool.not_false, Bool.true_and, Bool.and_true, Bool.false_and, Bool.and_false, Bool.or_true, Bool.true_or, Bool.or_false, Bool.false_or, Bool.false_eq_true, Bool.true_eq_false, int_n, bool_n, list_n, Sc.str_s, Int.reduceEq, Int.reduceLT, Int.reduceLE, Int.reduceNe, decide_true, decide_false, decide_not, eq_self, Classical.not_not, List.getElem?_cons_zero, List.getElem?_cons_succ, beq_self_eq_true, bne_self_eq_false]
    · intro rec w
      unfold bS
      simp only [Int.lt_irrefl, Int.natCast_nonneg, bne_iff_ne, beq_iff_eq, ne_eq, decide_eq_true_eq, Bool.and_eq_true, Bool.or_eq_true, Bool.not_eq_true', decide_eq_false_iff_not, beq_eq_false_iff_ne, bne_eq_false_iff_eq, not_true_eq_false, not_false_eq_true, if_true, if_false, reduceIte, and_true, true_and, and_false, false_and, or_false, false_or, or_true, true_or, List.getD_cons_zero, List.getD_cons_succ, List.length_cons, List.length_nil, List.cons_append, List.nil_append, Nat.reduceAdd, Nat.reduceEqDiff, reduceCtorEq, Bool.not_true, Bool.not_false, Bool.true_and, Bool.and_true, Bool.false_and, Bool.and_false, Bool.or_true, Bool.true_or, Bool.or_false, Bool.false_or, Bool.false_eq_true, Bool.true_eq_false, int_n, bool_n, list_n, Sc.str_s, Int.reduceEq, Int.reduceLT, Int.reduceLE, Int.reduceNe, decide_true, decide_false, decide_not, eq_self, Classical.not_not, List.getElem?_cons_zero, List.getElem?_cons_succ, beq_self_eq_true, bne_self_eq_false]
  · simp only [h0, Int.natCast_nonneg, bne_iff_ne, beq_iff_eq, ne_eq, decide_eq_true_eq, Bool.and_eq_true, Bool.or_eq_true, Bool.not_eq_true', decide_eq_false_iff_not, beq_eq_false_iff_ne, bne_eq_false_iff_eq, not_true_eq_false, not_false_eq_true, if_true, if_false, reduceIte, and_true, true_and, and_false, false_and, or_false, false_or, or_true, true_or, List.getD_cons_zero, List.getD_cons_succ, List.length_cons, List.length_nil, List.cons_append, List.nil_append, Nat.reduceAdd, Nat.reduceEqDiff, reduceCtorEq, Bool.not_true, Bool.not_false, Bool.true_and, Bool.and_true, Bool.false_and, Bool.and_false, Bool.or_true, Bool.true_or, Bool.or_false, Bool.false_or, Bool.false_eq_true, Bool.true_eq_false, int_n, bool_n, list_n, Sc.str_s, Int.reduceEq, Int.reduceLT, Int.reduceLE, Int.reduceNe, decide_true, decide_false, decide_not, eq_self, Classical.not_not, List.getElem?_cons_zero, List.getElem?_cons_succ, beq_self_eq_true, bne_self_eq_false]
    obtain ⟨i1, i2, i3⟩ := chk2 h0
    refine join_loop [a, b] wUni (fun x hx => ?_) (by simp) (by decide) ?_ ?_
    · simp only [List.mem_cons, List.not_mem_nil, or_false] at hx; omega
    · intro rec w j hj t ht hw' hq
      have hj' : j < 2 := hj
      have k1 : (j : Int) < ((2 : Nat) : Int) := by omega
      have hx : ([Sc.i a, Sc.i b] : List Sc).getD ((j : Int)).toNat (.i 0) = .i (([a, b] : List Int)[j]) := idx_map Sc.i [a, b] j hj
      have hs := succ_w (n := 2) hj' (by omega)
      generalize ([a, b] : List Int)[j] = x at *
      have s1 : ((t.length + 1 : Nat) : Int) ≤ 9223372036854775807 := long_ok (by omega)
      have s2 : ((w.length + (t.length + 1) : Nat) : Int) ≤ 9223372036854775807 := long_ok (by omega)
      unfold bS at hq ⊢
      simp only [k1, hx, hq, cat32, cat_mk, size_mk, List.length_append, s1, s2, hs, Int.natCast_nonneg, bne_iff_ne, beq_iff_eq, ne_eq, decide_eq_true_eq, Bool.and_eq_true, Bool.or_eq_true, Bool.not_eq_true', decide_eq_false_iff_not, beq_eq_false_iff_ne, bne_eq_false_iff_eq, not_true_eq_false, not_false_eq_true, if_true, if_false, reduceIte, and_true, true_and, and_false, false_and, or_false, false_or, or_true, true_or, List.getD_cons_zero, List.getD_cons_succ, List.length_cons, List.length_nil, List.cons_append, List.nil_append, Nat.reduceAdd, Nat.reduceEqDiff, reduceCtorEq, Bool.not_true, Bool.not_false, Bool.true_and, Bool.and_true, Bool.false_and, Bool.and_false, Bool.or_true, Bool.true_or, Bool.or_false, Bool.false_or, Bool.false_eq_true, Bool.true_eq_false, int_n, bool_n, list_n, Sc.str_s, Int.reduceEq, Int.reduceLT, Int.reduceLE, Int.reduceNe, decide_true, decide_false, decide_not, eq_self, Classical.not_not, List.getElem?_cons_zero, List.getElem?_cons_succ, beq_self_eq_true, bne_self_eq_false]
    · intro rec w
      unfold bS
      simp only [Int.lt_irrefl, Int.natCast_nonneg, bne_iff_ne, beq_iff_eq, ne_eq, decide_eq_true_eq, Bool.and_eq_true, Bool.or_eq_true, Bool.not_eq_true', decide_eq_false_iff_not, beq_eq_false_iff_ne, bne_eq_false_iff_eq, not_true_eq_false, not_false_eq_true, if_true, if_false, reduceIte, and_true, true_and, and_false, false_and, or_false, false_or, or_true, true_or, List.getD_cons_zero, List.getD_cons_succ, List.length_cons, List.length_nil, List.cons_append, List.nil_append, Nat.reduceAdd, Nat.reduceEqDiff, reduceCtorEq, Bool.not_true, Bool.not_false, Bool.true_and, Bool.and_true, Bool.false_and, Bool.and_false, Bool.or_true, Bool.true_or, Bool.or_false, Bool.false_or, Bool.false_eq_true, Bool.true_eq_false, int_n, bool_n, list_n, Sc.str_s, Int.reduceEq, Int.reduceLT, Int.reduceLE, Int.reduceNe, decide_true, decide_false, decide_not, eq_self, Classical.not_not, List.getElem?_cons_zero, List.getElem?_cons_succ, beq_self_eq_true, bne_self_eq_false]
  · obtain ⟨l1, l2, l3, l4, l5⟩ := chk3 h0
    have nv : okN vs := l4
    have nw : okN ws := fun x hx => by have := l5 x hx; omega
    have z0 : ((([116, 97, 98, 108, 101] : List UInt8).length : Nat) : Int) ≤ 140737488355328 := by decide
    have b0 : Sc.l (bytesL (ByteArray.mk #[UInt8.ofNat 116, UInt8.ofNat 97, UInt8.ofNat 98, UInt8.ofNat 108, UInt8.ofNat 101])) = bL (tabL vs ws 0) := by
      unfold tabL; rw [List.take_zero]; rfl
    have b1 : bytesL (ByteArray.mk #[UInt8.ofNat 116, UInt8.ofNat 97, UInt8.ofNat 98, UInt8.ofNat 108, UInt8.ofNat 101]) = (bL (tabL vs ws 0)).list := congrArg Sc.list b0
    have z1 : (((tabL vs ws 0).length : Nat) : Int) ≤ 140737488355328 := by have := tab_len vs ws nv nw 0; omega
    simp only [h0, b0, b1, bL_len, z1, Int.natCast_nonneg, bne_iff_ne, beq_iff_eq, ne_eq, decide_eq_true_eq, Bool.and_eq_true, Bool.or_eq_true, Bool.not_eq_true', decide_eq_false_iff_not, beq_eq_false_iff_ne, bne_eq_false_iff_eq, not_true_eq_false, not_false_eq_true, if_true, if_false, reduceIte, and_true, true_and, and_false, false_and, or_false, false_or, or_true, true_or, List.getD_cons_zero, List.getD_cons_succ, List.length_cons, List.length_nil, List.cons_append, List.nil_append, Nat.reduceAdd, Nat.reduceEqDiff, reduceCtorEq, Bool.not_true, Bool.not_false, Bool.true_and, Bool.and_true, Bool.false_and, Bool.and_false, Bool.or_true, Bool.true_or, Bool.or_false, Bool.false_or, Bool.false_eq_true, Bool.true_eq_false, int_n, bool_n, list_n, Sc.str_s, Int.reduceEq, Int.reduceLT, Int.reduceLE, Int.reduceNe, decide_true, decide_false, decide_not, eq_self, Classical.not_not, List.getElem?_cons_zero, List.getElem?_cons_succ, beq_self_eq_true, bne_self_eq_false]
    refine loop_from (S := Nat) (fun j => [.i (j : Int), bL (tabL vs ws j)]) (fun _ => some [bS (tabL vs ws vs.length)]) (fun j => j ≤ vs.length) (fun j => vs.length - j) 0 (by rfl) rfl (by omega) (by omega) ?_
    intro j rec hj hrec
    by_cases hlt : j < vs.length
    · have hlt2 : j < ws.length := by omega
      have k1 : (j : Int) < vs.length := by omega
      have k2 : (j : Int) < ws.length := by omega
      have h1 := idx_map Sc.i vs j hlt
      have h2 := idx_map Sc.i ws j hlt2
      have hv1 := nv _ (List.getElem_mem hlt)
      have hw1 := nw _ (List.getElem_mem hlt2)
      have q1 := numText_F _ hv1.1 hv1.2
      have q2 := numText_F _ hw1.1 hw1.2
      have m1 := itoa_len _ hv1.1 hv1.2
      have m2 := itoa_len _ hw1.1 hw1.2
      have hs := succ_w (n := vs.length) hlt (by omega)
      have hr := hrec (j + 1) (by omega) (by omega)
      have tl := tab_len vs ws nv nw (j + 1)
      rw [tab_succ vs ws hlt hlt2] at hr tl
      generalize Lib.itoa vs[j] = t1 at *
      generalize Lib.itoa ws[j] = t2 at *
      unfold bS at q1 q2
      have e3 : 32 :: t1 ++ [58] ++ t2 = 32 :: (t1 ++ 58 :: t2) := by simp
      have s1 : ((t1.length + 1 : Nat) : Int) ≤ 9223372036854775807 := long_ok (by omega)
      have s2 : ((t1.length + 1 + 1 : Nat) : Int) ≤ 9223372036854775807 := long_ok (by omega)
      have s3 : ((t1.length + 1 + t2.length + 1 : Nat) : Int) ≤ 9223372036854775807 := long_ok (by omega)
      have e4 : bytesL (ByteArray.mk (32 :: (t1 ++ [58] ++ t2)).toArray) = (bL (32 :: (t1 ++ 58 :: t2))).list := by rw [show 32 :: (t1 ++ [58] ++ t2) = 32 :: (t1 ++ 58 :: t2) by simp]; rfl
      have e5 := bL_app (tabL vs ws j) (32 :: (t1 ++ 58 :: t2))
      have e6 : (((bL (tabL vs ws j)).list.length + (bL (32 :: (t1 ++ 58 :: t2))).list.length : Nat) : Int) ≤ 140737488355328 := by
        rw [bL_len, bL_len, ← List.length_append]; omega
      have n0 : (0 : Int) ≤ j := by omega
      simp only [k1, k2, h1, h2, q1, q2, cat32, cat58, cat_mk, size_mk, List.length_append, s1, s2, s3, hs, n0, e4, e5, e6, hr, Int.natCast_nonneg, bne_iff_ne, beq_iff_eq, ne_eq, decide_eq_true_eq, Bool.and_eq_true, Bool.or_eq_true, Bool.not_eq_true', decide_eq_false_iff_not, beq_eq_false_iff_ne, bne_eq_false_iff_eq, not_true_eq_false, not_false_eq_true, if_true, if_false, reduceIte, and_true, true_and, and_false, false_and, or_false, false_or, or_true, true_or, List.getD_cons_zero, List.getD_cons_succ, List.length_cons, List.length_nil, List.cons_append, List.nil_append, Nat.reduceAdd, Nat.reduceEqDiff, reduceCtorEq, Bool.not_true, Bool.not_false, Bool.true_and, Bool.and_true, Bool.false_and, Bool.and_false, Bool.or_true, Bool.true_or, Bool.or_false, Bool.false_or, Bool.false_eq_true, Bool.true_eq_false, int_n, bool_n, list_n, Sc.str_s, Int.reduceEq, Int.reduceLT, Int.reduceLE, Int.reduceNe, decide_true, decide_false, decide_not, eq_self, Classical.not_not, List.getElem?_cons_zero, List.getElem?_cons_succ, beq_self_eq_true, bne_self_eq_false]
    · have k1 : ¬ (j : Int) < vs.length := by omega
      have e : j = vs.length := by omega
      subst e
      have i1 := bL_is (tabL vs ws vs.length) (by unfold tabL; simp)
      have i2 := bL_of (tabL vs ws vs.length)
      rw [Bool.and_eq_true, Bool.not_eq_true'] at i1
      obtain ⟨i1, i3⟩ := i1
      unfold bS
      simp only [k1, i1, i2, i3, Int.natCast_nonneg, bne_iff_ne, beq_iff_eq, ne_eq, decide_eq_true_eq, Bool.and_eq_true, Bool.or_eq_true, Bool.not_eq_true', decide_eq_false_iff_not, beq_eq_false_iff_ne, bne_eq_false_iff_eq, not_true_eq_false, not_false_eq_true, if_true, if_false, reduceIte, and_true, true_and, and_false, false_and, or_false, false_or, or_true, true_or, List.getD_cons_zero, List.getD_cons_succ, List.length_cons, List.length_nil, List.cons_append, List.nil_append, Nat.reduceAdd, Nat.reduceEqDiff, reduceCtorEq, Bool.not_true, Bool.not_false, Bool.true_and, Bool.and_true, Bool.false_and, Bool.and_false, Bool.or_true, Bool.true_or, Bool.or_false, Bool.false_or, Bool.false_eq_true, Bool.true_eq_false, int_n, bool_n, list_n, Sc.str_s, Int.reduceEq, Int.reduceLT, Int.reduceLE, Int.reduceNe, decide_true, decide_false, decide_not, eq_self, Classical.not_not, List.getElem?_cons_zero, List.getElem?_cons_succ, beq_self_eq_true, bne_self_eq_false]
  · simp only [h0, Int.natCast_nonneg, bne_iff_ne, beq_iff_eq, ne_eq, decide_eq_true_eq, Bool.and_eq_true, Bool.or_eq_true, Bool.not_eq_true', decide_eq_false_iff_not, beq_eq_false_iff_ne, bne_eq_false_iff_eq, not_true_eq_false, not_false_eq_true, if_true, if_false, reduceIte, and_true, true_and, and_false, false_and, or_false, false_or, or_true, true_or, List.getD_cons_zero, List.getD_cons_succ, List.length_cons, List.length_nil, List.cons_append, List.nil_append, Nat.reduceAdd, Nat.reduceEqDiff, reduceCtorEq, Bool.not_true, Bool.not_false, Bool.true_and, Bool.and_true, Bool.false_and, Bool.and_false, Bool.or_true, Bool.true_or, Bool.or_false, Bool.false_or, Bool.false_eq_true, Bool.true_eq_false, int_n, bool_n, list_n, Sc.str_s, Int.reduceEq, Int.reduceLT, Int.reduceLE, Int.reduceNe, decide_true, decide_false, decide_not, eq_self, Classical.not_not, List.getElem?_cons_zero, List.getElem?_cons_succ, beq_self_eq_true, bne_self_eq_false]
    obtain ⟨i0, i1, i2, i3⟩ := chk4 h0
    refine join_loop [n, a, b] wSum (fun x hx => ?_) (by simp) (by decide) ?_ ?_
    · simp only [List.mem_cons, List.not_mem_nil, or_false] at hx; omega
    · intro rec w j hj t ht hw' hq
      have hj' : j < 3 := hj
      have k1 : (j : Int) < ((3 : Nat) : Int) := by omega
      have hx : ([Sc.i n, Sc.i a, Sc.i b] : List Sc).getD ((j : Int)).toNat (.i 0) = .i (([n, a, b] : List Int)[j]) := idx_map Sc.i [n, a, b] j hj
      have hs := succ_w (n := 3) hj' (by omega)
      generalize ([n, a, b] : List Int)[j] = x at *
      have s1 : ((t.length + 1 : Nat) : Int) ≤ 9223372036854775807 := long_ok (by omega)
      have s2 : ((w.length + (t.length + 1) : Nat) : Int) ≤ 9223372036854775807 := long_ok (by omega)
      unfold bS at hq ⊢
      simp only [k1, hx, hq, cat32, cat_mk, size_mk, List.length_append, s1, s2, hs, Int.natCast_nonneg, bne_iff_ne, beq_iff_eq, ne_eq, decide_eq_true_eq, Bool.and_eq_true, Bool.or_eq_true, Bool.not_eq_true', decide_eq_false_iff_not, beq_eq_false_iff_ne, bne_eq_false_iff_eq, not_true_eq_false, not_false_eq_true, if_true, if_false, reduceIte, and_true, true_and, and_false, false_and, or_false, false_or, or_true, true_or, List.getD_cons_zero, List.getD_cons_succ, List.length_cons, List.length_nil, List.cons_append, List.nil_append, Nat.reduceAdd, Nat.reduceEqDiff, reduceCtorEq, Bool.not_true, Bool.not_false, Bool.true_and, Bool.and_true, Bool.false_and, Bool.and_false, Bool.or_true, Bool.true_or, Bool.or_false, Bool.false_or, Bool.false_eq_true, Bool.true_eq_false, int_n, bool_n, list_n, Sc.str_s, Int.reduceEq, Int.reduceLT, Int.reduceLE, Int.reduceNe, decide_true, decide_false, decide_not, eq_self, Classical.not_not, List.getElem?_cons_zero, List.getElem?_cons_succ, beq_self_eq_true, bne_self_eq_false]
    · intro rec w
      unfold bS
      simp only [Int.lt_irrefl, Int.natCast_nonneg, bne_iff_ne, beq_iff_eq, ne_eq, decide_eq_true_eq, Bool.and_eq_true, Bool.or_eq_true, Bool.not_eq_true', decide_eq_false_iff_not, beq_eq_false_iff_ne, bne_eq_false_iff_eq, not_true_eq_false, not_false_eq_true, if_true, if_false, reduceIte, and_true, true_and, and_false, false_and, or_false, false_or, or_true, true_or, List.getD_cons_zero, List.getD_cons_succ, List.length_cons, List.length_nil, List.cons_append, List.nil_append, Nat.reduceAdd, Nat.reduceEqDiff, reduceCtorEq, Bool.not_true, Bool.not_false, Bool.true_and, Bool.and_true, Bool.false_and, Bool.and_false, Bool.or_true, Bool.true_or, Bool.or_false, Bool.false_or, Bool.false_eq_true, Bool.true_eq_false, int_n, bool_n, list_n, Sc.str_s, Int.reduceEq, Int.reduceLT, Int.reduceLE, Int.reduceNe, decide_true, decide_false, decide_not, eq_self, Classical.not_not, List.getElem?_cons_zero, List.getElem?_cons_succ, beq_self_eq_true, bne_self_eq_false]
  · simp only [h0, Int.natCast_nonneg, bne_iff_ne, beq_iff_eq, ne_eq, decide_eq_true_eq, Bool.and_eq_true, Bool.or_eq_true, Bool.not_eq_true', decide_eq_false_iff_not, beq_eq_false_iff_ne, bne_eq_false_iff_eq, not_true_eq_false, not_false_eq_true, if_true, if_false, reduceIte, and_true, true_and, and_false, false_and, or_false, false_or, or_true, true_or, List.getD_cons_zero, List.getD_cons_succ, List.length_cons, List.length_nil, List.cons_append, List.nil_append, Nat.reduceAdd, Nat.reduceEqDiff, reduceCtorEq, Bool.not_true, Bool.not_false, Bool.true_and, Bool.and_true, Bool.false_and, Bool.and_false, Bool.or_true, Bool.true_or, Bool.or_false, Bool.false_or, Bool.false_eq_true, Bool.true_eq_false, int_n, bool_n, list_n, Sc.str_s, Int.reduceEq, Int.reduceLT, Int.reduceLE, Int.reduceNe, decide_true, decide_false, decide_not, eq_self, Classical.not_not, List.getElem?_cons_zero, List.getElem?_cons_succ, beq_self_eq_true, bne_self_eq_false]
    obtain ⟨i1, i2⟩ := chk5 h0
    refine join_loop [a, b] wGeom (fun x hx => ?_) (by simp) (by decide) ?_ ?_
    · simp only [List.mem_cons, List.not_mem_nil, or_false] at hx; omega
    · intro rec w j hj t ht hw' hq
      have hj' : j < 2 := hj
      have k1 : (j : Int) < ((2 : Nat) : Int) := by omega
      have hx : ([Sc.i a, Sc.i b] : List Sc).getD ((j : Int)).toNat (.i 0) = .i (([a, b] : List Int)[j]) := idx_map Sc.i [a, b] j hj
      have hs := succ_w (n := 2) hj' (by omega)
      generalize ([a, b] : List Int)[j] = x at *
      have s1 : ((t.length + 1 : Nat) : Int) ≤ 9223372036854775807 := long_ok (by omega)
      have s2 : ((w.length + (t.length + 1) : Nat) : Int) ≤ 9223372036854775807 := long_ok (by omega)
      unfold bS at hq ⊢
      simp only [k1, hx, hq, cat32, cat_mk, size_mk, List.length_append, s1, s2, hs, Int.natCast_nonneg, bne_iff_ne, beq_iff_eq, ne_eq, decide_eq_true_eq, Bool.and_eq_true, Bool.or_eq_true, Bool.not_eq_true', decide_eq_false_iff_not, beq_eq_false_iff_ne, bne_eq_false_iff_eq, not_true_eq_false, not_false_eq_true, if_true, if_false, reduceIte, and_true, true_and, and_false, false_and, or_false, false_or, or_true, true_or, List.getD_cons_zero, List.getD_cons_succ, List.length_cons, List.length_nil, List.cons_append, List.nil_append, Nat.reduceAdd, Nat.reduceEqDiff, reduceCtorEq, Bool.not_true, Bool.not_false, Bool.true_and, Bool.and_true, Bool.false_and, Bool.and_false, Bool.or_true, Bool.true_or, Bool.or_false, Bool.false_or, Bool.false_eq_true, Bool.true_eq_false, int_n, bool_n, list_n, Sc.str_s, Int.reduceEq, Int.reduceLT, Int.reduceLE, Int.reduceNe, decide_true, decide_false, decide_not, eq_self, Classical.not_not, List.getElem?_cons_zero, List.getElem?_cons_succ, beq_self_eq_true, bne_self_eq_false]
    · intro rec w
      unfold bS
      simp only [Int.lt_irrefl, Int.natCast_nonneg, bne_iff_ne, beq_iff_eq, ne_eq, decide_eq_true_eq, Bool.and_eq_true, Bool.or_eq_true, Bool.not_eq_true', decide_eq_false_iff_not, beq_eq_false_iff_ne, bne_eq_false_iff_eq, not_true_eq_false, not_false_eq_true, if_true, if_false, reduceIte, and_true, true_and, and_false, false_and, or_false, false_or, or_true, true_or, List.getD_cons_zero, List.getD_cons_succ, List.length_cons, List.length_nil, List.cons_append, List.nil_append, Nat.reduceAdd, Nat.reduceEqDiff, reduceCtorEq, Bool.not_true, Bool.not_false, Bool.true_and, Bool.and_true, Bool.false_and, Bool.and_false, Bool.or_true, Bool.true_or, Bool.or_false, Bool.false_or, Bool.false_eq_true, Bool.true_eq_false, int_n, bool_n, list_n, Sc.str_s, Int.reduceEq, Int.reduceLT, Int.reduceLE, Int.reduceNe, decide_true, decide_false, decide_not, eq_self, Classical.not_not, List.getElem?_cons_zero, List.getElem?_cons_succ, beq_self_eq_true, bne_self_eq_false]
end Go.Proofs.YtmaocifplceopaaDoor
