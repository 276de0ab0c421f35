/-
  DistShares: of random numbers at equal distances each value gets its share. No condition. 
-/
import Derived.Test.YtmaocifplceopaaDoorRows
import Derived.Test.YtmaocifplceopaaDoorCards
import Derived.Test.YtmaocifplceopaaDoorTie
import Derived.Test.YtmaocifplceopaaDoorGlR
import Derived.SevenTiedAt
import Derived.LaidMore
import Derived.OpenShut
import Derived.Stop.Joined
import Derived.Test.YtmaocifplceopaaDoorA04
import Derived.Test.YtmaocifplceopaaDoorP04
namespace Go.Proofs.YtmaocifplceopaaDoor
open Go.ChangeShapes Go.WideShapes Go.ChangeAt Go.RowKit
set_option linter.unusedSimpArgs false
set_option linter.unusedVariables false

theorem dist_u (n : Nat) (h1 : 1 ≤ n) (h2 : n ≤ 20000) {i : Nat} (hi : i < n) : IntKind.u64.wrap (IntKind.u64.wrap (i : Int) * IntKind.u64.wrap (IntKind.u64.wrap (Int.tdiv 18446744073709551615 (n : Int)) + 1)) = ((i * (18446744073709551615 / n + 1) : Nat) : Int) := by
  have q : IntKind.u64.wrap (Int.tdiv 18446744073709551615 (n : Int)) = ((18446744073709551615 / n : Nat) : Int) := quo_nat (a := 18446744073709551615) (b := n) (by omega)
  have s := (step_hi h1 h2 hi).1
  rw [q]
  have e : (((18446744073709551615 / n : Nat) : Int) + 1) = ((18446744073709551615 / n + 1 : Nat) : Int) := by omega
  rw [e]
  simp only [IntKind.wrap_u64]
  rw [← Int.mul_emod, ← Int.natCast_mul]
  omega
theorem rem_nat (p n : Nat) : Int.tmod (p : Int) (n : Int) = ((p % n : Nat) : Int) := rfl
theorem shares_uni (d : DD) (P : Nat) (hP : P < 65536) (h0 : d.chk = 0) (h2 : d.op = 2) (hd : d.small) (sm : k_simulatorlaw04_short.F [.i d.op, .i d.a, .i d.b, .i d.n, .l (d.vs.map .i), .l (d.ws.map .i)] = some [.b true]) : k_simulatorlaw04_DistShares.F [.i d.op, .i d.a, .i d.b, .i d.n, .l (d.vs.map .i), .l (d.ws.map .i), .i (P : Int)] = some [.b true] := by
  have c := chkDD_F d hd
  have at_ := fun u hu => atD_F d u hd hu
  have sn := fun u => at_snd d u
  have hat : ∀ u : Nat, (d.at u).1 = uniV d.a d.b u := fun u => by
    unfold DD.at; unfold DD.chk at h0; rw [atV_ok h0, h2]; rfl
  have hb : 0 ≤ d.a ∧ d.a ≤ d.b ∧ d.b ≤ 1000000000 := by unfold DD.chk at h0; rw [h2] at h0; exact chk2 h0
  rw [h0] at c
  have sn' : ∀ u, (d.at u).2 = true := fun u => by rw [sn, h0, h2]; rfl
  obtain ⟨op, a, b, n, vs, ws⟩ := d
  simp only at h2 hb hat sm c at_
  subst h2
  obtain ⟨N, hN⟩ : ∃ N : Nat, b - a + 1 = N := ⟨(b - a + 1).toNat, by omega⟩
  have w0 : IntKind.i64.wrap (b - a) = b - a := wrJ (by omega) (by omega)
  have w1 : IntKind.i64.wrap (b - a + 1) = N := by rw [hN]; exact wrJ (by omega) (by omega)
  have w2 : IntKind.u64.wrap (N : Int) = N := by rw [IntKind.wrap_u64]; omega
  have w3 : IntKind.i64.wrap (P : Int) = P := wrJ (by omega) (by omega)
  have pm : P % N < N := Nat.mod_lt _ (by omega)
  have w4 : IntKind.i64.wrap (a + ((P % N : Nat) : Int)) = a + ((P % N : Nat) : Int) := wrJ (by omega) (by omega)
  have nz : ¬ (N : Int) = 0 := by omega
  simp only [k_simulatorlaw04_DistShares_F, tk_simulatorlaw04_DistShares, k_simulatorlaw04_short_f, k_simulatorlaw04_awake_f, k_dist_Check_f, k_dist_At_f, sm, awake04, c, w0, w1, w2, w3, rem_nat, w4, Go.Proofs.YtmaocifplceopaaDoor.T.den, Ex.ev, U1.ev, U2.ev, U3.ev, gam, List.map, List.getD_cons_zero, List.getD_cons_succ, List.length, List.cons_append, List.nil_append, if_true, int_n, bool_n, list_n, Sc.str_s, Nat.reduceEqDiff, if_false, List.getElem?_cons_zero, List.getElem?_cons_succ]
  by_cases big : (1000 : Int) < N
  · simp only [nz, big, Int.natCast_nonneg, bne_iff_ne, beq_iff_eq, ne_eq, decide_eq_true_eq, Bool.and_eq_true, Bool.or_eq_true, Bool.not_eq_true', decide_eq_false_iff_not, beq_eq_false_iff_ne, bne_eq_false_iff_eq, not_true_eq_false, not_false_eq_true, if_true, if_false, reduceIte, and_true, true_and, and_false, false_and, or_false, false_or, or_true, true_or, List.getD_cons_zero, List.getD_cons_succ, List.length_cons, List.length_nil, List.cons_append, List.nil_append, Nat.reduceAdd, Nat.reduceEqDiff, reduceCtorEq, Bool.not_true, Bool.not_false, Bool.true_and, Bool.and_true, Bool.false_and, Bool.and_false, Bool.or_true, Bool.true_or, Bool.or_false, Bool.false_or, Bool.false_eq_true, Bool.true_eq_false, int_n, bool_n, list_n, Sc.str_s, Int.reduceEq, Int.reduceLT, Int.reduceLE, Int.reduceNe, decide_true, decide_false, decide_not, eq_self, Classical.not_not, List.getElem?_cons_zero, List.getElem?_cons_succ, beq_self_eq_true, bne_self_eq_false]
  simp only [nz, big, Int.natCast_nonneg, bne_iff_ne, beq_iff_eq, ne_eq, decide_eq_true_eq, Bool.and_eq_true, Bool.or_eq_true, Bool.not_eq_true', decide_eq_false_iff_not, beq_eq_false_iff_ne, bne_eq_false_iff_eq, not_true_eq_false, not_false_eq_true, if_true, if_false, reduceIte, and_true, true_and, and_false, false_and, or_false, false_or, or_true, true_or, List.getD_cons_zero, List.getD_cons_succ, List.length_cons, List.length_nil, List.cons_append, List.nil_append, Nat.reduceAdd, Nat.reduceEqDiff, reduceCtorEq, Bool.not_true, Bool.not_false, Bool.true_and, Bool.and_true, Bool.false_and, Bool.and_false, Bool.or_true, Bool.true_or, Bool.or_false, Bool.false_or, Bool.false_eq_true, Bool.true_eq_false, int_n, bool_n, list_n, Sc.str_s, Int.reduceEq, Int.reduceLT, Int.reduceLE, Int.reduceNe, decide_true, decide_false, decide_not, eq_self, Classical.not_not, List.getElem?_cons_zero, List.getElem?_cons_succ, beq_self_eq_true, bne_self_eq_false]
  refine loop_from (S := Nat) (fun i => [.i (countB (fun j => decide (j = P % N)) i : Nat), .i (i : Int)]) (fun _ => some [.b true]) (fun i => i ≤ N) (fun i => N - i) 0 rfl rfl (by omega) (by omega) ?_
  intro i rec hi hrec
  by_cases hlt : i < N
  · have k1 : (i : Int) < N := by omega
    have du := dist_u N (by omega) (by omega) hlt
    obtain ⟨s1, s2⟩ := step_hi (n := N) (by omega) (by omega) hlt
    have hs := succ_w (n := N) hlt (by omega)
    have hr := hrec (i + 1) (by omega) (by omega)
    have av := at_ (i * (18446744073709551615 / N + 1)) s1
    have e1 : uniV a b (i * (18446744073709551615 / N + 1)) = a + i := by
      unfold uniV hiW
      rw [show (b - a + 1).toNat = N by omega, s2]
    rw [hat, sn', e1] at av
    have cl := countB_le (fun j => decide (j = P % N)) i
    by_cases q : i = P % N
    · have q' : a + (i : Int) = a + ((P % N : Nat) : Int) := by omega
      have wc : IntKind.i64.wrap (((countB (fun j => decide (j = P % N)) i : Nat) : Int) + 1) = ((countB (fun j => decide (j = P % N)) (i + 1) : Nat) : Int) := by
        have e : countB (fun j => decide (j = P % N)) (i + 1) = countB (fun j => decide (j = P % N)) i + 1 := congrArg (countB (fun j => decide (j = P % N)) i + ·) (if_pos (decide_eq_true q))
        rw [e, wrJ (by omega) (by omega)]; omega
      simp only [k1, du, av, q', wc, hs, hr, Int.natCast_nonneg, bne_iff_ne, beq_iff_eq, ne_eq, decide_eq_true_eq, Bool.and_eq_true, Bool.or_eq_true, Bool.not_eq_true', decide_eq_false_iff_not, beq_eq_false_iff_ne, bne_eq_false_iff_eq, not_true_eq_false, not_false_eq_true, if_true, if_false, reduceIte, and_true, true_and, and_false, false_and, or_false, false_or, or_true, true_or, List.getD_cons_zero, List.getD_cons_succ, List.length_cons, List.length_nil, List.cons_append, List.nil_append, Nat.reduceAdd, Nat.reduceEqDiff, reduceCtorEq, Bool.not_true, Bool.not_false, Bool.true_and, Bool.and_true, Bool.false_and, Bool.and_false, Bool.or_true, Bool.true_or, Bool.or_false, Bool.false_or, Bool.false_eq_true, Bool.true_eq_false, int_n, bool_n, list_n, Sc.str_s, Int.reduceEq, Int.reduceLT, Int.reduceLE, Int.reduceNe, decide_true, decide_false, decide_not, eq_self, Classical.not_not, List.getElem?_cons_zero, List.getElem?_cons_succ, beq_self_eq_true, bne_self_eq_false]
    · have q' : ¬ a + (i : Int) = a + ((P % N : Nat) : Int) := by omega
      have wc : countB (fun j => decide (j = P % N)) (i + 1) = countB (fun j => decide (j = P % N)) i := by
        simp only [countB, q, decide_false, Bool.false_eq_true, if_false, Nat.add_zero]
      rw [wc] at hr
      simp only [k1, du, av, q', hs, hr, Int.natCast_nonneg, bne_iff_ne, beq_iff_eq, ne_eq, decide_eq_true_eq, Bool.and_eq_true, Bool.or_eq_true, Bool.not_eq_true', decide_eq_false_iff_not, beq_eq_false_iff_ne, bne_eq_false_iff_eq, not_true_eq_false, not_false_eq_true, if_true, if_false, reduceIte, and_true, true_and, and_false, false_and, or_false, false_or, or_true, true_or, List.getD_cons_zero, List.getD_cons_succ, List.length_cons, List.length_nil, List.cons_append, List.nil_append, Nat.reduceAdd, Nat.reduceEqDiff, reduceCtorEq, Bool.not_true, Bool.not_false, Bool.true_and, Bool.and_true, Bool.false_and, Bool.and_false, Bool.or_true, Bool.true_or, Bool.or_false, Bool.false_or, Bool.false_eq_true, Bool.true_eq_false, int_n, bool_n, list_n, Sc.str_s, Int.reduceEq, Int.reduceLT, Int.reduceLE, Int.reduceNe, decide_true, decide_false, decide_not, eq_self, Classical.not_not, List.getElem?_cons_zero, List.getElem?_cons_succ, beq_self_eq_true, bne_self_eq_false]
  · have k1 : ¬ (i : Int) < N := by omega
    have e : i = N := by omega
    subst e
    have co := count_one (fun j => decide (j = P % i)) (P % i) (fun _ => rfl) i
    rw [if_pos pm] at co
    simp only [k1, co, Int.natCast_one, Int.natCast_nonneg, bne_iff_ne, beq_iff_eq, ne_eq, decide_eq_true_eq, Bool.and_eq_true, Bool.or_eq_true, Bool.not_eq_true', decide_eq_false_iff_not, beq_eq_false_iff_ne, bne_eq_false_iff_eq, not_true_eq_false, not_false_eq_true, if_true, if_false, reduceIte, and_true, true_and, and_false, false_and, or_false, false_or, or_true, true_or, List.getD_cons_zero, List.getD_cons_succ, List.length_cons, List.length_nil, List.cons_append, List.nil_append, Nat.reduceAdd, Nat.reduceEqDiff, reduceCtorEq, Bool.not_true, Bool.not_false, Bool.true_and, Bool.and_true, Bool.false_and, Bool.and_false, Bool.or_true, Bool.true_or, Bool.or_false, Bool.false_or, Bool.false_eq_true, Bool.true_eq_false, int_n, bool_n, list_n, Sc.str_s, Int.reduceEq, Int.reduceLT, Int.reduceLE, Int.reduceNe, decide_true, decide_false, decide_not, eq_self, Classical.not_not, List.getElem?_cons_zero, List.getElem?_cons_succ, beq_self_eq_true, bne_self_eq_false]
theorem range_get (vs ws : List Int) (x : Int) (j : Nat) (h1 : j < vs.length) (h2 : j < ws.length) : wsum ws (List.range (j + 1)) = wsum ws (List.range j) + ws[j] ∧ shareL vs ws x (List.range (j + 1)) = shareL vs ws x (List.range j) + (if vs[j] = x then ws[j] else 0) := by
  have e1 : ws.getD j 0 = ws[j] := by rw [List.getD_eq_getElem?_getD, List.getElem?_eq_getElem h2]; rfl
  have e2 : vs.getD j 0 = vs[j] := by rw [List.getD_eq_getElem?_getD, List.getElem?_eq_getElem h1]; rfl
  rw [List.range_succ, wsum_app, shareL_app]
  simp only [wsum, shareL, e1, e2]
  constructor <;> omega
theorem range_in (vs ws : List Int) (x : Int) (hl : vs.length = ws.length) (hw : ∀ y ∈ ws, 1 ≤ y ∧ y ≤ 1000) : ∀ j, j ≤ vs.length → 0 ≤ wsum ws (List.range j) ∧ wsum ws (List.range j) ≤ j * 1000 ∧ 0 ≤ shareL vs ws x (List.range j) ∧ shareL vs ws x (List.range j) ≤ j * 1000
  | 0, _ => by simp [wsum, shareL]
  | j + 1, h => by
    obtain ⟨i1, i2, i3, i4⟩ := range_in vs ws x hl hw j (by omega)
    obtain ⟨e1, e2⟩ := range_get vs ws x j (by omega) (by omega)
    have := hw _ (List.getElem_mem (show j < ws.length by omega))
    rw [e1, e2]
    split <;> omega
theorem shares_tab (d : DD) (P : Nat) (hP : P < 65536) (h0 : d.chk = 0) (h3 : d.op = 3) (hd : d.small) (sm : k_simulatorlaw04_short.F [.i d.op, .i d.a, .i d.b, .i d.n, .l (d.vs.map .i), .l (d.ws.map .i)] = some [.b true]) : k_simulatorlaw04_DistShares.F [.i d.op, .i d.a, .i d.b, .i d.n, .l (d.vs.map .i), .l (d.ws.map .i), .i (P : Int)] = some [.b true] := by
  have c := chkDD_F d hd
  have at_ := fun u hu => atD_F d u hd hu
  have sn := fun u => at_snd d u
  have hat : ∀ u : Nat, (d.at u).1 = tabV d.vs d.ws u := fun u => by
    unfold DD.at; unfold DD.chk at h0; rw [atV_ok h0, h3]; rfl
  have hb := h0
  unfold DD.chk at hb
  rw [h3] at hb
  obtain ⟨l1, l2, l3, l4, l5⟩ := chk3 hb
  rw [h0] at c
  have sn' : ∀ u, (d.at u).2 = true := fun u => by rw [sn, h0, h3]; rfl
  obtain ⟨op, a, b, n, vs, ws⟩ := d
  simp only at h3 hat sm c at_ l1 l2 l3 l4 l5
  subst h3
  have w3 : IntKind.i64.wrap (P : Int) = P := wrJ (by omega) (by omega)
  have pm : P % vs.length < vs.length := Nat.mod_lt _ (by omega)
  have nz : ¬ (vs.length : Int) = 0 := by omega
  have p1 : ((P % vs.length : Nat) : Int) < vs.length := by omega
  have px := idx_map Sc.i vs (P % vs.length) pm
  simp only [k_simulatorlaw04_DistShares_F, tk_simulatorlaw04_DistShares, k_simulatorlaw04_short_f, k_simulatorlaw04_awake_f, k_dist_Check_f, k_dist_At_f, sm, awake04, c, w3, rem_nat, List.length_map, px, Go.Proofs.YtmaocifplceopaaDoor.T.den, Ex.ev, U1.ev, U2.ev, U3.ev, gam, List.map, List.getD_cons_zero, List.getD_cons_succ, List.length, List.cons_append, List.nil_append, if_true, int_n, bool_n, list_n, Sc.str_s, Nat.reduceEqDiff, if_false, List.getElem?_cons_zero, List.getElem?_cons_succ]
  generalize vs[P % vs.length] = x at *
  simp only [nz, p1, Int.natCast_nonneg, bne_iff_ne, beq_iff_eq, ne_eq, decide_eq_true_eq, Bool.and_eq_true, Bool.or_eq_true, Bool.not_eq_true', decide_eq_false_iff_not, beq_eq_false_iff_ne, bne_eq_false_iff_eq, not_true_eq_false, not_false_eq_true, if_true, if_false, reduceIte, and_true, true_and, and_false, false_and, or_false, false_or, or_true, true_or, List.getD_cons_zero, List.getD_cons_succ, List.length_cons, List.length_nil, List.cons_append, List.nil_append, Nat.reduceAdd, Nat.reduceEqDiff, reduceCtorEq, Bool.not_true, Bool.not_false, Bool.true_and, Bool.and_true, Bool.false_and, Bool.and_false, Bool.or_true, Bool.true_or, Bool.or_false, Bool.false_or, Bool.false_eq_true, Bool.true_eq_false, int_n, bool_n, list_n, Sc.str_s, Int.reduceEq, Int.reduceLT, Int.reduceLE, Int.reduceNe, decide_true, decide_false, decide_not, eq_self, Classical.not_not, List.getElem?_cons_zero, List.getElem?_cons_succ, beq_self_eq_true, bne_self_eq_false]
  refine loop_from (S := Nat) (fun j => [.i (wsum ws (List.range j)), .i (shareL vs ws x (List.range j)), .i (j : Int)]) (fun _ => some [.b true]) (fun j => j ≤ vs.length) (fun j => vs.length - j) 0 rfl rfl (by omega) (by omega) ?_
  intro j rec hj hrec
  by_cases hlt : j < vs.length
  · have hlt2 : j < ws.length := by omega
    have k1 : (j : Int) < vs.length := by omega
    have k2 : (j : Int) < ws.length := by omega
    have x1 := idx_map Sc.i vs j hlt
    have x2 := idx_map Sc.i ws j hlt2
    have hs := succ_w (n := vs.length) hlt (by omega)
    have hr := hrec (j + 1) (by omega) (by omega)
    obtain ⟨i1, i2, i3, i4⟩ := range_in vs ws x l1 l5 (j + 1) (by omega)
    obtain ⟨e1, e2⟩ := range_get vs ws x j hlt hlt2
    have ww : IntKind.i64.wrap (wsum ws (List.range j) + ws[j]) = wsum ws (List.range (j + 1)) := by rw [← e1]; exact wrJ (by omega) (by omega)
    by_cases q : vs[j] = x
    · rw [if_pos q] at e2
      have ws' : IntKind.i64.wrap (shareL vs ws x (List.range j) + ws[j]) = shareL vs ws x (List.range (j + 1)) := by rw [← e2]; exact wrJ (by omega) (by omega)
      simp only [k1, k2, x1, x2, q, ww, ws', hs, hr, Int.natCast_nonneg, bne_iff_ne, beq_iff_eq, ne_eq, decide_eq_true_eq, Bool.and_eq_true, Bool.or_eq_true, Bool.not_eq_true', decide_eq_false_iff_not, beq_eq_false_iff_ne, bne_eq_false_iff_eq, not_true_eq_false, not_false_eq_true, if_true, if_false, reduceIte, and_true, true_and, and_false, false_and, or_false, false_or, or_true, true_or, List.getD_cons_zero, List.getD_cons_succ, List.length_cons, List.length_nil, List.cons_append, List.nil_append, Nat.reduceAdd, Nat.reduceEqDiff, reduceCtorEq, Bool.not_true, Bool.not_false, Bool.true_and, Bool.and_true, Bool.false_and, Bool.and_false, Bool.or_true, Bool.true_or, Bool.or_false, Bool.false_or, Bool.false_eq_true, Bool.true_eq_false, int_n, bool_n, list_n, Sc.str_s, Int.reduceEq, Int.reduceLT, Int.reduceLE, Int.reduceNe, decide_true, decide_false, decide_not, eq_self, Classical.not_not, List.getElem?_cons_zero, List.getElem?_cons_succ, beq_self_eq_true, bne_self_eq_false]
    · rw [if_neg q, Int.add_zero] at e2
      rw [e2] at hr
      simp only [k1, k2, x1, x2, q, ww, hs, hr, Int.natCast_nonneg, bne_iff_ne, beq_iff_eq, ne_eq, decide_eq_true_eq, Bool.and_eq_true, Bool.or_eq_true, Bool.not_eq_true', decide_eq_false_iff_not, beq_eq_false_iff_ne, bne_eq_false_iff_eq, not_true_eq_false, not_false_eq_true, if_true, if_false, reduceIte, and_true, true_and, and_false, false_and, or_false, false_or, or_true, true_or, List.getD_cons_zero, List.getD_cons_succ, List.length_cons, List.length_nil, List.cons_append, List.nil_append, Nat.reduceAdd, Nat.reduceEqDiff, reduceCtorEq, Bool.not_true, Bool.not_false, Bool.true_and, Bool.and_true, Bool.false_and, Bool.and_false, Bool.or_true, Bool.true_or, Bool.or_false, Bool.false_or, Bool.false_eq_true, Bool.true_eq_false, int_n, bool_n, list_n, Sc.str_s, Int.reduceEq, Int.reduceLT, Int.reduceLE, Int.reduceNe, decide_true, decide_false, decide_not, eq_self, Classical.not_not, List.getElem?_cons_zero, List.getElem?_cons_succ, beq_self_eq_true, bne_self_eq_false]
  · have k1 : ¬ (j : Int) < vs.length := by omega
    have e : j = vs.length := by omega
    subst e
    obtain ⟨i1, i2, i3, i4⟩ := range_in vs ws x l1 l5 vs.length (Nat.le_refl _)
    have tot : wsum ws (List.range vs.length) = sumI ws := by rw [l1, wsum_range]
    have sp := sum_pos (ws := ws) (by omega) l5
    have cs := (count_share vs ws x (srt (vat vs) vs.length) (fun i hi => by
      have := srt_lt hi
      rw [List.getD_eq_getElem?_getD, List.getElem?_eq_getElem (by omega)]
      exact (l5 _ (List.getElem_mem _)).1)).1
    rw [shareL_perm vs ws x (srt_perm (vat vs) vs.length), tot_S l1] at cs
    rw [tot]
    rw [tot] at i1 i2
    have hT : ∀ u : Nat, tabV vs ws u = pickS vs ws (srt (vat vs) vs.length) (hiW (u * (sumI ws).toNat)) := fun u => rfl
    obtain ⟨N, hN⟩ : ∃ N : Nat, sumI ws = N := ⟨(sumI ws).toNat, by omega⟩
    rw [hN] at cs sp i2 hT ⊢
    rw [Int.toNat_natCast] at cs hT
    generalize shareL vs ws x (List.range vs.length) = SH at *
    generalize srt (vat vs) vs.length = L at *
    have w2 : IntKind.u64.wrap (N : Int) = N := by rw [IntKind.wrap_u64]; omega
    have nN : ¬ (N : Int) = 0 := by omega
    simp only [k1, w2, nN, Int.natCast_nonneg, bne_iff_ne, beq_iff_eq, ne_eq, decide_eq_true_eq, Bool.and_eq_true, Bool.or_eq_true, Bool.not_eq_true', decide_eq_false_iff_not, beq_eq_false_iff_ne, bne_eq_false_iff_eq, not_true_eq_false, not_false_eq_true, if_true, if_false, reduceIte, and_true, true_and, and_false, false_and, or_false, false_or, or_true, true_or, List.getD_cons_zero, List.getD_cons_succ, List.length_cons, List.length_nil, List.cons_append, List.nil_append, Nat.reduceAdd, Nat.reduceEqDiff, reduceCtorEq, Bool.not_true, Bool.not_false, Bool.true_and, Bool.and_true, Bool.false_and, Bool.and_false, Bool.or_true, Bool.true_or, Bool.or_false, Bool.false_or, Bool.false_eq_true, Bool.true_eq_false, int_n, bool_n, list_n, Sc.str_s, Int.reduceEq, Int.reduceLT, Int.reduceLE, Int.reduceNe, decide_true, decide_false, decide_not, eq_self, Classical.not_not, List.getElem?_cons_zero, List.getElem?_cons_succ, beq_self_eq_true, bne_self_eq_false]
    refine loop_from (S := Nat) (fun i => [.i (countB (fun i => decide (pickS vs ws L (i : Int) = x)) i : Nat), .i (i : Int)]) (fun _ => some [.b true]) (fun i => i ≤ N) (fun i => N - i) 0 rfl rfl (by omega) (by omega) ?_
    intro i rec2 hi hrec2
    by_cases hlt2 : i < N
    · have k2 : (i : Int) < N := by omega
      have du := dist_u N (by omega) (by omega) hlt2
      obtain ⟨s1, s2⟩ := step_hi (n := N) (by omega) (by omega) hlt2
      have hs := succ_w (n := N) hlt2 (by omega)
      have hr := hrec2 (i + 1) (by omega) (by omega)
      have av := at_ (i * (18446744073709551615 / N + 1)) s1
      have e1 : tabV vs ws (i * (18446744073709551615 / N + 1)) = pickS vs ws L (i : Int) := by
        rw [hT]; unfold hiW; rw [s2]
      rw [hat, sn', e1] at av
      have cl := countB_le (fun i => decide (pickS vs ws L (i : Int) = x)) i
      by_cases q : pickS vs ws L (i : Int) = x
      · have wc : IntKind.i64.wrap (((countB (fun i => decide (pickS vs ws L (i : Int) = x)) i : Nat) : Int) + 1) = ((countB (fun i => decide (pickS vs ws L (i : Int) = x)) (i + 1) : Nat) : Int) := by
          simp only [countB, q, decide_true, if_true]
          rw [wrJ (by omega) (by omega)]; omega
        simp only [k2, w2, du, av, q, wc, hs, hr, Int.natCast_nonneg, bne_iff_ne, beq_iff_eq, ne_eq, decide_eq_true_eq, Bool.and_eq_true, Bool.or_eq_true, Bool.not_eq_true', decide_eq_false_iff_not, beq_eq_false_iff_ne, bne_eq_false_iff_eq, not_true_eq_false, not_false_eq_true, if_true, if_false, reduceIte, and_true, true_and, and_false, false_and, or_false, false_or, or_true, true_or, List.getD_cons_zero, List.getD_cons_succ, List.length_cons, List.length_nil, List.cons_append, List.nil_append, Nat.reduceAdd, Nat.reduceEqDiff, reduceCtorEq, Bool.not_true, Bool.not_false, Bool.true_and, Bool.and_true, Bool.false_and, Bool.and_false, Bool.or_true, Bool.true_or, Bool.or_false, Bool.false_or, Bool.false_eq_true, Bool.true_eq_false, int_n, bool_n, list_n, Sc.str_s, Int.reduceEq, Int.reduceLT, Int.reduceLE, Int.reduceNe, decide_true, decide_false, decide_not, eq_self, Classical.not_not, List.getElem?_cons_zero, List.getElem?_cons_succ, beq_self_eq_true, bne_self_eq_false]
      · have wc : countB (fun i => decide (pickS vs ws L (i : Int) = x)) (i + 1) = countB (fun i => decide (pickS vs ws L (i : Int) = x)) i := by
          simp only [countB, q, decide_false, Bool.false_eq_true, if_false, Nat.add_zero]
        rw [wc] at hr
        simp only [k2, w2, du, av, q, hs, hr, Int.natCast_nonneg, bne_iff_ne, beq_iff_eq, ne_eq, decide_eq_true_eq, Bool.and_eq_true, Bool.or_eq_true, Bool.not_eq_true', decide_eq_false_iff_not, beq_eq_false_iff_ne, bne_eq_false_iff_eq, not_true_eq_false, not_false_eq_true, if_true, if_false, reduceIte, and_true, true_and, and_false, false_and, or_false, false_or, or_true, true_or, List.getD_cons_zero, List.getD_cons_succ, List.length_cons, List.length_nil, List.cons_append, List.nil_append, Nat.reduceAdd, Nat.reduceEqDiff, reduceCtorEq, Bool.not_true, Bool.not_false, Bool.true_and, Bool.and_true, Bool.false_and, Bool.and_false, Bool.or_true, Bool.true_or, Bool.or_false, Bool.false_or, Bool.false_eq_true, Bool.true_eq_false, int_n, bool_n, list_n, Sc.str_s, Int.reduceEq, Int.reduceLT, Int.reduceLE, Int.reduceNe, decide_true, decide_false, decide_not, eq_self, Classical.not_not, List.getElem?_cons_zero, List.getElem?_cons_succ, beq_self_eq_true, bne_self_eq_false]
    · have k2 : ¬ (i : Int) < N := by omega
      have e : i = N := by omega
      subst e
      simp only [k2, cs, Int.natCast_nonneg, bne_iff_ne, beq_iff_eq, ne_eq, decide_eq_true_eq, Bool.and_eq_true, Bool.or_eq_true, Bool.not_eq_true', decide_eq_false_iff_not, beq_eq_false_iff_ne, bne_eq_false_iff_eq, not_true_eq_false, not_false_eq_true, if_true, if_false, reduceIte, and_true, true_and, and_false, false_and, or_false, false_or, or_true, true_or, List.getD_cons_zero, List.getD_cons_succ, List.length_cons, List.length_nil, List.cons_append, List.nil_append, Nat.reduceAdd, Nat.reduceEqDiff, reduceCtorEq, Bool.not_true, Bool.not_false, Bool.true_and, Bool.and_true, Bool.false_and, Bool.and_false, Bool.or_true, Bool.true_or, Bool.or_false, Bool.false_or, Bool.false_eq_true, Bool.true_eq_false, int_n, bool_n, list_n, Sc.str_s, Int.reduceEq, Int.reduceLT, Int.reduceLE, Int.reduceNe, decide_true, decide_false, decide_not, eq_self, Classical.not_not, List.getElem?_cons_zero, List.getElem?_cons_succ, beq_self_eq_true, bne_self_eq_false]
theorem shares_F (d : DD) (P : Nat) (hP : P < 65536) : k_simulatorlaw04_DistShares.F [.i d.op, .i d.a, .i d.b, .i d.n, .l (d.vs.map .i), .l (d.ws.map .i), .i (P : Int)] = some [.b true] := by
  obtain ⟨b, sm, hb⟩ := short_F d (.i d.op) (.i d.a) (.i d.b) (.i d.n)
  cases b
  · simp only [k_simulatorlaw04_DistShares_F, tk_simulatorlaw04_DistShares, k_simulatorlaw04_short_f, k_simulatorlaw04_awake_f, sm, awake04, Go.Proofs.YtmaocifplceopaaDoor.T.den, Ex.ev, U1.ev, U2.ev, U3.ev, gam, List.map, List.getD_cons_zero, List.getD_cons_succ, List.length, List.cons_append, List.nil_append, if_true, int_n, bool_n, list_n, Sc.str_s, Nat.reduceEqDiff, if_false, List.getElem?_cons_zero, List.getElem?_cons_succ]
    simp only [Int.natCast_nonneg, bne_iff_ne, beq_iff_eq, ne_eq, decide_eq_true_eq, Bool.and_eq_true, Bool.or_eq_true, Bool.not_eq_true', decide_eq_false_iff_not, beq_eq_false_iff_ne, bne_eq_false_iff_eq, not_true_eq_false, not_false_eq_true, if_true, if_false, reduceIte, and_true, true_and, and_false, false_and, or_false, false_or, or_true, true_or, List.getD_cons_zero, List.getD_cons_succ, List.length_cons, List.length_nil, List.cons_append, List.nil_append, Nat.reduceAdd, Nat.reduceEqDiff, reduceCtorEq, Bool.not_true, Bool.not_false, Bool.true_and, Bool.and_true, Bool.false_and, Bool.and_false, Bool.or_true, Bool.true_or, Bool.or_false, Bool.false_or, Bool.false_eq_true, Bool.true_eq_false, int_n, bool_n, list_n, Sc.str_s, Int.reduceEq, Int.reduceLT, Int.reduceLE, Int.reduceNe, decide_true, decide_false, decide_not, eq_self, Classical.not_not, List.getElem?_cons_zero, List.getElem?_cons_succ, beq_self_eq_true, bne_self_eq_false]
  have hd := hb rfl
  have c := chkDD_F d hd
  by_cases h0 : d.chk = 0
  rotate_left
  · simp only [k_simulatorlaw04_DistShares_F, tk_simulatorlaw04_DistShares, k_simulatorlaw04_short_f, k_simulatorlaw04_awake_f, k_dist_Check_f, sm, awake04, c, Go.Proofs.YtmaocifplceopaaDoor.T.den, Ex.ev, U1.ev, U2.ev, U3.ev, gam, List.map, List.getD_cons_zero, List.getD_cons_succ, List.length, List.cons_append, List.nil_append, if_true, int_n, bool_n, list_n, Sc.str_s, Nat.reduceEqDiff, if_false, List.getElem?_cons_zero, List.getElem?_cons_succ]
    simp only [h0, Int.natCast_nonneg, bne_iff_ne, beq_iff_eq, ne_eq, decide_eq_true_eq, Bool.and_eq_true, Bool.or_eq_true, Bool.not_eq_true', decide_eq_false_iff_not, beq_eq_false_iff_ne, bne_eq_false_iff_eq, not_true_eq_false, not_false_eq_true, if_true, if_false, reduceIte, and_true, true_and, and_false, false_and, or_false, false_or, or_true, true_or, List.getD_cons_zero, List.getD_cons_succ, List.length_cons, List.length_nil, List.cons_append, List.nil_append, Nat.reduceAdd, Nat.reduceEqDiff, reduceCtorEq, Bool.not_true, Bool.not_false, Bool.true_and, Bool.and_true, Bool.false_and, Bool.and_false, Bool.or_true, Bool.true_or, Bool.or_false, Bool.false_or, Bool.false_eq_true, Bool.true_eq_false, int_n, bool_n, list_n, Sc.str_s, Int.reduceEq, Int.reduceLT, Int.reduceLE, Int.reduceNe, decide_true, decide_false, decide_not, eq_self, Classical.not_not, List.getElem?_cons_zero, List.getElem?_cons_succ, beq_self_eq_true, bne_self_eq_false]
  by_cases h3 : d.op = 3
  · exact shares_tab d P hP h0 h3 hd sm
  by_cases h2 : d.op = 2
  · exact shares_uni d P hP h0 h2 hd sm
  simp only [k_simulatorlaw04_DistShares_F, tk_simulatorlaw04_DistShares, k_simulatorlaw04_short_f, k_simulatorlaw04_awake_f, k_dist_Check_f, sm, awake04, c, Go.Proofs.YtmaocifplceopaaDoor.T.den, Ex.ev, U1.ev, U2.ev, U3.ev, gam, List.map, List.getD_cons_zero, List.getD_cons_succ, List.length, List.cons_append, List.nil_append, if_true, int_n, bool_n, list_n, Sc.str_s, Nat.reduceEqDiff, if_false, List.getElem?_cons_zero, List.getElem?_cons_succ]
  simp only [h0, h2, h3, Int.natCast_nonneg, bne_iff_ne, beq_iff_eq, ne_eq, decide_eq_true_eq, Bool.and_eq_true, Bool.or_eq_true, Bool.not_eq_true', decide_eq_false_iff_not, beq_eq_false_iff_ne, bne_eq_false_iff_eq, not_true_eq_false, not_false_eq_true, if_true, if_false, reduceIte, and_true, true_and, and_false, false_and, or_false, false_or, or_true, true_or, List.getD_cons_zero, List.getD_cons_succ, List.length_cons, List.length_nil, List.cons_append, List.nil_append, Nat.reduceAdd, Nat.reduceEqDiff, reduceCtorEq, Bool.not_true, Bool.not_false, Bool.true_and, Bool.and_true, Bool.false_and, Bool.and_false, Bool.or_true, Bool.true_or, Bool.or_false, Bool.false_or, Bool.false_eq_true, Bool.true_eq_false, int_n, bool_n, list_n, Sc.str_s, Int.reduceEq, Int.reduceLT, Int.reduceLE, Int.reduceNe, decide_true, decide_false, decide_not, eq_self, Classical.not_not, List.getElem?_cons_zero, List.getElem?_cons_succ, beq_self_eq_true, bne_self_eq_false]

namespace distShares
theorem own : ownKnob Tryd.prog.godebug = none := by kernel_rfl
theorem laidOut : laidOutB Tryd.prog = true := by kernel_rfl
theorem door_met (os : Os) (args : Array Value) : laidMetH Tryd.prog Rows.distSharesRow.laid ((World.doorLaid Tryd.prog 24 os).forCall (fun _ _ => 0) ⟨#[], args, []⟩).memory :=
  laidMetH_of_parts3 (fuel := 8) (laidMet_of_run' 8 (by kernel_rfl) (by kernel_rfl)) (by kernel_rfl) (by kernel_rfl)
set_option maxRecDepth 100000 in
theorem lifted (os : Os) (started : os.Started) (H : Type) (enc : TypeId × Value → H) :
    ReturnsInHanded {} Tryd.checked os 6 .any (fun w args => (Rows.distSharesSpec.pre enc Tryd.prog Tryd.f6 [] false w args ∧ laidMetH Tryd.prog Rows.distSharesRow.laid w) ∧ sizedMet enc Tryd.prog Tryd.f6 (OpenSpec.ofChange Rows.distSharesSpec) false w args) (Rows.distSharesSpec.post enc Tryd.prog Tryd.f6 false true false false) := by
  refine returnsInHanded_of_change_and (C := Tryd.checked) (X := fun w _ => laidMetH Tryd.prog Rows.distSharesRow.laid w) (fun _ _ _ hh h => h.of_heap hh) own started (by kernel_rfl) Tryd.func6
    (ChangeSpec.witness_shaped (enc := enc) (C := Tryd.checked) (os := os) (X := fun w _ => laidMetH Tryd.prog Rows.distSharesRow.laid w) false (World.doorLaid Tryd.prog 24 os) #[.agg #[.int .i64 0, .int .i64 0, .int .i64 0, .int .i64 0, .slice none 0 0, .slice none 0 0], .int .u16 0] 8 rfl (World.shaped_of_RefB (by kernel_rfl) (by kernel_rfl)) (by kernel_rfl) (by kernel_rfl) (by kernel_rfl) (door_met os _)) ?_
  intro W base args ds gs before hval0 hW _ _ hL _
  have hval : ∀ (j : Nat) t v, Tryd.f6.params[j]? = some t → args[j]? = some v → Value.okWide Tryd.prog W .any base t v := hval0
  have hW' := hW
  obtain ⟨p, q, hA0, hV, rfl, hfz, hnd⟩ := hW
  have hA : DataW.TrodAll enc Tryd.prog W 0 (fun _ => true) true Tryd.f6.params.toList args.toList ds p := hA0
  rw [Tryd.params6] at hA hval
  obtain ⟨v0, vs0, d0, ds0, p0, q0, hargs, rfl, rfl, h0, r0⟩ := trodAll_cons hA
  obtain ⟨v1, vs1, d1, ds1, p1, q1, rfl, rfl, rfl, h1, r1⟩ := trodAll_cons r0
  obtain ⟨rfl, rfl, rfl⟩ := trodAll_nil r1
  obtain rfl : args = #[v0, v1] := by cases args; simp_all
  obtain ⟨rfl, rfl⟩ := trodVars_none hV
  have k0 := h0
  have lt0 : ∀ x ∈ p0, x.block < W.heap.size := by obtain ⟨m, hm⟩ := k0; exact DataW.trod_lt m _ _ _ hm
  have ok0 := hval 0 25 v0 rfl rfl
  have k1 := h1
  have lt1 : ∀ x ∈ p1, x.block < W.heap.size := by obtain ⟨m, hm⟩ := k1; exact DataW.trod_lt m _ _ _ hm
  have ok1 := hval 1 42 v1 rfl rfl
  have hG := glob_of_laid hL
  obtain ⟨y0, f0, g0⟩ := open_s Tryd.underlying25 (ks := [.ck (.int .i64), .ck (.int .i64), .ck (.int .i64), .ck (.int .i64), .row 3 [.int .i64] false, .row 3 [.int .i64] false]) (by kernel_rfl) ok0 h0
  obtain ⟨d, rfl⟩ := open_dist f0
  obtain ⟨y1, ⟨u, rfl, w1⟩, g1⟩ := open_a (k := .int .u16) (by kernel_rfl) ok1 h1
  clear hA0 hval0
  refine (law_call k_simulatorlaw04_DistShares (Tryd.call6 _ _) (vs := [v0, v1]) (args2 g0 g1) (by obtain ⟨n, rfl, hn⟩ := wf_u16 w1; exact shares_F d n hn) rfl hG).mono fun e W' ⟨he, bel⟩ => ?_
  subst he
  exact ⟨_, rfl, _, _, _, [], _, [], hW', trodAll_mk1 (shut_bool Tryd.underlying4 _), (trodAll_cons_mk (Below.trod laidOut (by kernel_rfl) (of_decide_eq_true (by kernel_rfl)) k0 bel lt0) (trodAll_cons_mk (Below.trod laidOut (by kernel_rfl) (of_decide_eq_true (by kernel_rfl)) k1 bel lt1) trodAll_mk0)), rfl, bel.frame _, fun h => by cases h⟩
theorem over : Rows.distSharesRow.holds Tryd.pinned (OpenSpec.ofChange Rows.distSharesSpec) :=
  OpenClaim.holds_of_wide 6 Tryd.f6 rfl rfl rfl rfl rfl rfl rfl ⟨rfl, rfl, rfl, rfl, rfl⟩ rfl rfl rfl rfl rfl (by kernel_rfl) Tryd.func6 (by kernel_rfl)
    (of_decide_eq_true (by kernel_rfl)) (by unfold Func.isWrapper; first | (rw [if_pos (by decide +kernel)]; kernel_rfl) | (rw [if_neg (by decide +kernel)]; exact ⟨rfl, rfl⟩))
    (fun os started H enc _ => lifted os started H enc)
theorem proved : Rows.DistSharesCardSaid :=
  Claim7.holds_tied_plain_at .later [] [.data, .data, .data] true (true, "b747ab72172f00e74019d6bb1992fae90de1758f438500527dbcbbc58263b54e") false over (fun _ h => by cases h) (by kernel_rfl) (fun _ h => by cases h) distShares_row_tie rfl ⟨rfl, rfl⟩ (by kernel_rfl) rfl
    (fun f fn hf hfn => by
      obtain rfl : f = 6 := Option.some.inj ((show Tryd.prog.funcNamed Rows.distSharesRow.func = some 6 by kernel_rfl).symm.trans hf) |>.symm
      obtain rfl : fn = Tryd.f6 := (Option.some.inj (Tryd.func6.symm.trans hfn)).symm
      refine ⟨by kernel_rfl, fun j t ht => ?_⟩
      have hall : (Tryd.f6.params.toList.all fun t => !Tryd.prog.wantsStandIn t) = true := by kernel_rfl
      have hm : t ∈ Tryd.f6.params.toList := Array.mem_toList_iff.2 (Array.mem_of_getElem? ht)
      exact (by simpa using List.all_eq_true.1 hall t hm : Tryd.prog.wantsStandIn t = false))
    (by kernel_rfl)
end distShares

end Go.Proofs.YtmaocifplceopaaDoor
