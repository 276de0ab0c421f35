/-
  Means and variances of lists of fractions: what batch's functions and the reference's return.
-/
import Derived.Test.YtchnhfnnlkncdaaDoorFlF
namespace Go.Proofs.YtchnhfnnlkncdaaDoor
set_option linter.unusedSimpArgs false

def meanO (ps : List (Int × Int)) : Option Rat := match sumO 0 ps with
  | none => none
  | some s => if ps.length = 0 then none else divO (some s) (some (ps.length : Rat))
theorem whole_fit {n : Int} (h : n.natAbs ≤ maxN) : fitQ (n : Rat) = true := by
  rw [fitQ_iff]; exact ⟨h, by show 1 ≤ maxD; unfold maxD; omega⟩
theorem whole_pr (n : Int) : pr (n : Rat) = (n, 1) := rfl
theorem whole_val {n : Int} (h : n.natAbs ≤ maxN) : valP (n, 1) = some (n : Rat) := by rw [← whole_pr, valP_pr (whole_fit h)]
theorem nat_rat (n : Nat) : ((n : Int) : Rat) = (n : Rat) := rfl
theorem meanO_fit {ps : List (Int × Int)} {m : Rat} (h : meanO ps = some m) : fitQ m = true := by
  unfold meanO at h; split at h
  · cases h
  · split at h
    · cases h
    · exact divO_fit h
theorem fmean_O (ps : List (Int × Int)) (hps : ∀ p ∈ ps, FP p) (hl : ps.length ≤ 17592186044416) : k_batch_mean.F [.l (ps.map pt)] = some (enc (meanO ps)) := by
  have w : ∀ n : Int, k_batch_whole.F [.i n] = some [.i n, .i 1] := fun n => by
    simp only [k_batch_whole_F, tk_batch_whole, Go.Proofs.YtchnhfnnlkncdaaDoor.T.den, Ex.ev, U1.ev, U2.ev, U3.ev, gam, List.map, List.getD_cons_zero, List.getD_cons_succ, List.length, List.cons_append, List.nil_append, if_true, Sc.int_i, Sc.bool_b, Sc.list_l, Sc.str_s, Nat.reduceEqDiff, if_false, List.getElem?_cons_zero, List.getElem?_cons_succ]
  simp only [k_batch_mean_F, tk_batch_mean, k_frac_Sum_f, k_batch_whole_f, k_frac_Div_f, fsum_O ps hps hl, w, List.length_map, Go.Proofs.YtchnhfnnlkncdaaDoor.T.den, Ex.ev, U1.ev, U2.ev, U3.ev, gam, List.map, List.getD_cons_zero, List.getD_cons_succ, List.length, List.cons_append, List.nil_append, if_true, Sc.int_i, Sc.bool_b, Sc.list_l, Sc.str_s, Nat.reduceEqDiff, if_false, List.getElem?_cons_zero, List.getElem?_cons_succ]
  unfold meanO
  cases hs : sumO 0 ps with
  | none => simp only [enc_some, enc_none, Int.natCast_nonneg, bne_iff_ne, beq_iff_eq, ne_eq, decide_eq_true_eq, Bool.and_eq_true, Bool.or_eq_true, Bool.not_eq_true', decide_eq_false_iff_not, beq_eq_false_iff_ne, bne_eq_false_iff_eq, not_true_eq_false, not_false_eq_true, if_true, if_false, reduceIte, and_true, true_and, and_false, false_and, or_false, false_or, or_true, true_or, List.getD_cons_zero, List.getD_cons_succ, List.length_cons, List.length_nil, List.cons_append, List.nil_append, Nat.reduceAdd, Nat.reduceEqDiff, reduceCtorEq, Bool.not_true, Bool.not_false, Bool.true_and, Bool.and_true, Bool.false_and, Bool.and_false, Bool.or_true, Bool.true_or, Bool.or_false, Bool.false_or, Bool.false_eq_true, Bool.true_eq_false, Sc.int_i, Sc.bool_b, Sc.list_l, Sc.str_s, Int.reduceEq, Int.reduceLT, Int.reduceLE, Int.reduceNe, decide_true, decide_false, decide_not, eq_self, Classical.not_not, List.getElem?_cons_zero, List.getElem?_cons_succ, beq_self_eq_true, bne_self_eq_false]
  | some s =>
    by_cases h0 : ps.length = 0
    · have h0' : (ps.length : Int) = 0 := by omega
      simp only [enc_some, enc_none, h0, h0', Int.natCast_nonneg, bne_iff_ne, beq_iff_eq, ne_eq, decide_eq_true_eq, Bool.and_eq_true, Bool.or_eq_true, Bool.not_eq_true', decide_eq_false_iff_not, beq_eq_false_iff_ne, bne_eq_false_iff_eq, not_true_eq_false, not_false_eq_true, if_true, if_false, reduceIte, and_true, true_and, and_false, false_and, or_false, false_or, or_true, true_or, List.getD_cons_zero, List.getD_cons_succ, List.length_cons, List.length_nil, List.cons_append, List.nil_append, Nat.reduceAdd, Nat.reduceEqDiff, reduceCtorEq, Bool.not_true, Bool.not_false, Bool.true_and, Bool.and_true, Bool.false_and, Bool.and_false, Bool.or_true, Bool.true_or, Bool.or_false, Bool.false_or, Bool.false_eq_true, Bool.true_eq_false, Sc.int_i, Sc.bool_b, Sc.list_l, Sc.str_s, Int.reduceEq, Int.reduceLT, Int.reduceLE, Int.reduceNe, decide_true, decide_false, decide_not, eq_self, Classical.not_not, List.getElem?_cons_zero, List.getElem?_cons_succ, beq_self_eq_true, bne_self_eq_false]
      rfl
    · have h0' : ¬ (ps.length : Int) = 0 := by omega
      have fs := sumO_fit fit_zero hs
      have hn : ((ps.length : Int)).natAbs ≤ maxN := by unfold maxN; omega
      have d := fdiv_O (FP_pr fs) (FP_pr (whole_fit hn))
      rw [valP_pr fs, valP_pr (whole_fit hn), whole_pr] at d
      rw [nat_rat] at d
      obtain ⟨x, y, z, e⟩ := enc_form (divO (some s) (some (ps.length : Rat)))
      rw [e] at d
      simp only [pr] at d
      simp only [enc_some, enc_none, h0, h0', d, e, Int.natCast_nonneg, bne_iff_ne, beq_iff_eq, ne_eq, decide_eq_true_eq, Bool.and_eq_true, Bool.or_eq_true, Bool.not_eq_true', decide_eq_false_iff_not, beq_eq_false_iff_ne, bne_eq_false_iff_eq, not_true_eq_false, not_false_eq_true, if_true, if_false, reduceIte, and_true, true_and, and_false, false_and, or_false, false_or, or_true, true_or, List.getD_cons_zero, List.getD_cons_succ, List.length_cons, List.length_nil, List.cons_append, List.nil_append, Nat.reduceAdd, Nat.reduceEqDiff, reduceCtorEq, Bool.not_true, Bool.not_false, Bool.true_and, Bool.and_true, Bool.false_and, Bool.and_false, Bool.or_true, Bool.true_or, Bool.or_false, Bool.false_or, Bool.false_eq_true, Bool.true_eq_false, Sc.int_i, Sc.bool_b, Sc.list_l, Sc.str_s, Int.reduceEq, Int.reduceLT, Int.reduceLE, Int.reduceNe, decide_true, decide_false, decide_not, eq_self, Classical.not_not, List.getElem?_cons_zero, List.getElem?_cons_succ, beq_self_eq_true, bne_self_eq_false]
theorem rmean_O (ps : List (Int × Int)) (hps : ∀ p ∈ ps, FP p) (hl : ps.length ≤ 17592186044416) : k_simulatorref48_mean.F [.l (ps.map pt)] = some (enc (meanO ps)) := by
  simp only [k_simulatorref48_mean_F, tk_simulatorref48_mean, k_simulatorref02_Sum_f, k_simulatorref02_Div_f, rsum_O ps hps hl, List.length_map, Go.Proofs.YtchnhfnnlkncdaaDoor.T.den, Ex.ev, U1.ev, U2.ev, U3.ev, gam, List.map, List.getD_cons_zero, List.getD_cons_succ, List.length, List.cons_append, List.nil_append, if_true, Sc.int_i, Sc.bool_b, Sc.list_l, Sc.str_s, Nat.reduceEqDiff, if_false, List.getElem?_cons_zero, List.getElem?_cons_succ]
  unfold meanO
  cases hs : sumO 0 ps with
  | none => simp only [enc_some, enc_none, Int.natCast_nonneg, bne_iff_ne, beq_iff_eq, ne_eq, decide_eq_true_eq, Bool.and_eq_true, Bool.or_eq_true, Bool.not_eq_true', decide_eq_false_iff_not, beq_eq_false_iff_ne, bne_eq_false_iff_eq, not_true_eq_false, not_false_eq_true, if_true, if_false, reduceIte, and_true, true_and, and_false, false_and, or_false, false_or, or_true, true_or, List.getD_cons_zero, List.getD_cons_succ, List.length_cons, List.length_nil, List.cons_append, List.nil_append, Nat.reduceAdd, Nat.reduceEqDiff, reduceCtorEq, Bool.not_true, Bool.not_false, Bool.true_and, Bool.and_true, Bool.false_and, Bool.and_false, Bool.or_true, Bool.true_or, Bool.or_false, Bool.false_or, Bool.false_eq_true, Bool.true_eq_false, Sc.int_i, Sc.bool_b, Sc.list_l, Sc.str_s, Int.reduceEq, Int.reduceLT, Int.reduceLE, Int.reduceNe, decide_true, decide_false, decide_not, eq_self, Classical.not_not, List.getElem?_cons_zero, List.getElem?_cons_succ, beq_self_eq_true, bne_self_eq_false]
  | some s =>
    by_cases h0 : ps.length = 0
    · have h0' : (ps.length : Int) = 0 := by omega
      simp only [enc_some, enc_none, h0, h0', Int.natCast_nonneg, bne_iff_ne, beq_iff_eq, ne_eq, decide_eq_true_eq, Bool.and_eq_true, Bool.or_eq_true, Bool.not_eq_true', decide_eq_false_iff_not, beq_eq_false_iff_ne, bne_eq_false_iff_eq, not_true_eq_false, not_false_eq_true, if_true, if_false, reduceIte, and_true, true_and, and_false, false_and, or_false, false_or, or_true, true_or, List.getD_cons_zero, List.getD_cons_succ, List.length_cons, List.length_nil, List.cons_append, List.nil_append, Nat.reduceAdd, Nat.reduceEqDiff, reduceCtorEq, Bool.not_true, Bool.not_false, Bool.true_and, Bool.and_true, Bool.false_and, Bool.and_false, Bool.or_true, Bool.true_or, Bool.or_false, Bool.false_or, Bool.false_eq_true, Bool.true_eq_false, Sc.int_i, Sc.bool_b, Sc.list_l, Sc.str_s, Int.reduceEq, Int.reduceLT, Int.reduceLE, Int.reduceNe, decide_true, decide_false, decide_not, eq_self, Classical.not_not, List.getElem?_cons_zero, List.getElem?_cons_succ, beq_self_eq_true, bne_self_eq_false]
      rfl
    · have h0' : ¬ (ps.length : Int) = 0 := by omega
      have fs := sumO_fit fit_zero hs
      have hn : ((ps.length : Int)).natAbs ≤ maxN := by unfold maxN; omega
      have d := rdiv_O (FP_pr fs) (FP_pr (whole_fit hn))
      rw [valP_pr fs, valP_pr (whole_fit hn), whole_pr] at d
      rw [nat_rat] at d
      obtain ⟨x, y, z, e⟩ := enc_form (divO (some s) (some (ps.length : Rat)))
      rw [e] at d
      simp only [pr] at d
      simp only [enc_some, enc_none, h0, h0', d, e, Int.natCast_nonneg, bne_iff_ne, beq_iff_eq, ne_eq, decide_eq_true_eq, Bool.and_eq_true, Bool.or_eq_true, Bool.not_eq_true', decide_eq_false_iff_not, beq_eq_false_iff_ne, bne_eq_false_iff_eq, not_true_eq_false, not_false_eq_true, if_true, if_false, reduceIte, and_true, true_and, and_false, false_and, or_false, false_or, or_true, true_or, List.getD_cons_zero, List.getD_cons_succ, List.length_cons, List.length_nil, List.cons_append, List.nil_append, Nat.reduceAdd, Nat.reduceEqDiff, reduceCtorEq, Bool.not_true, Bool.not_false, Bool.true_and, Bool.and_true, Bool.false_and, Bool.and_false, Bool.or_true, Bool.true_or, Bool.or_false, Bool.false_or, Bool.false_eq_true, Bool.true_eq_false, Sc.int_i, Sc.bool_b, Sc.list_l, Sc.str_s, Int.reduceEq, Int.reduceLT, Int.reduceLE, Int.reduceNe, decide_true, decide_false, decide_not, eq_self, Classical.not_not, List.getElem?_cons_zero, List.getElem?_cons_succ, beq_self_eq_true, bne_self_eq_false]

def encL : Option (List Rat) → List Sc
  | some qs => [.l (qs.map fun q => pt (pr q)), .b true]
  | none => [.l [], .b false]
theorem encL_some (qs : List Rat) : encL (some qs) = [.l (qs.map fun q => pt (pr q)), .b true] := rfl
theorem encL_none : encL none = [.l [], .b false] := rfl
def devO (ps : List (Int × Int)) : Option (List Rat) := match meanO ps with
  | none => none
  | some m => tryM (fun p => subO (valP p) (some m)) ps
/-- A loop that collects fractions that may fail. -/
theorem rat_loop {α : Type} {g : (List Sc → Option (List Sc)) → List Sc → Option (List Sc)} (L : List α) (f : α → Option Rat) (bad : Option (List Sc)) (fin : List Rat → Option (List Sc)) (hlen : L.length < 340282366920938463463374607431768211456)
    (h1 : ∀ (k : Nat) rec out q (h : k < L.length), out.length = k → f L[k] = some q → g rec [.l out, .i k] = rec [.l (out ++ [.l [.i q.num, .i q.den]]), .i ((k + 1 : Nat) : Int)])
    (h2 : ∀ (k : Nat) rec out (h : k < L.length), f L[k] = none → g rec [.l out, .i k] = bad)
    (h3 : ∀ rec (qs : List Rat), tryM f L = some qs → g rec [.l (qs.map fun q => pt (pr q)), .i (L.length : Int)] = fin qs) : loopN g rounds [.l [], .i 0] = match tryM f L with | none => bad | some qs => fin qs := by
  refine (loop_rounds (S := Nat × List Rat) (fun s => [.l (s.2.map fun q => pt (pr q)), .i s.1]) (fun s => match tryM f (L.drop s.1) with | none => bad | some ys => fin (s.2 ++ ys)) (fun s => s.1 ≤ L.length ∧ tryM f (L.take s.1) = some s.2) (fun s => L.length - s.1) ?_ (0, []) ⟨by simp only; omega, rfl⟩ (by simp only; omega)).trans (by simp)
  rintro ⟨k, out⟩ rec ⟨hk, ho⟩ hrec
  simp only at hk ho ⊢
  by_cases h : k < L.length
  · rw [List.drop_eq_getElem_cons h]
    simp only [tryM]
    have hol : (out.map fun q => pt (pr q)).length = k := by rw [List.length_map, tryM_len ho, List.length_take]; omega
    cases hf : f L[k] with
    | none => rw [h2 k rec _ h hf]
    | some y =>
      rw [h1 k rec _ y h hol hf]
      have ht : tryM f (L.take (k + 1)) = some (out ++ [y]) := by
        have app : ∀ (a : List α) (ra : List Rat) (x : α) (y : Rat), tryM f a = some ra → f x = some y → tryM f (a ++ [x]) = some (ra ++ [y]) := by
          intro a
          induction a with
          | nil => intro ra x y ha hx; cases ha; simp [tryM, hx]
          | cons z a ih =>
            intro ra x y ha hx
            simp only [tryM] at ha
            split at ha
            · cases ha
            · split at ha
              · cases ha
              · rename_i u hu _ us hus
                cases ha
                simp only [List.cons_append, tryM]
                rw [hu, ih us x y hus hx]
        rw [List.take_add_one, List.getElem?_eq_getElem h]
        exact app _ _ _ _ ho hf
      have := hrec (k + 1, out ++ [y]) ⟨by simp only; omega, ht⟩ (by simp only; omega)
      simp only [List.map_append, List.map_cons, List.map_nil] at this
      rw [show pt (pr y) = .l [.i y.num, .i y.den] from rfl] at this
      rw [this]
      cases tryM f (L.drop (k + 1)) with
      | none => rfl
      | some ys => simp
  · have e : k = L.length := by omega
    subst e
    rw [List.take_length] at ho
    rw [h3 rec out ho, List.drop_length]
    simp [tryM]
theorem devO_fit {ps : List (Int × Int)} {ds : List Rat} (h : devO ps = some ds) : ∀ d ∈ ds, fitQ d = true := by
  unfold devO at h; split at h
  · cases h
  · intro d hd
    obtain ⟨i, hi, rfl⟩ := List.getElem_of_mem hd
    have hl := tryM_len h
    exact subO_fit (tryM_get h i (by omega) hi)
theorem devO_len {ps : List (Int × Int)} {ds : List Rat} (h : devO ps = some ds) : ds.length = ps.length := by
  unfold devO at h; split at h
  · cases h
  · exact tryM_len h
theorem snoc_le {out : List Sc} {x : Sc} {k n : Nat} (h : out.length = k) (hk : k < n) (hn : n ≤ 8796093022208) : ((out ++ [x]).length : Int) ≤ 8796093022208 := by simp; omega
theorem fdev_O (ps : List (Int × Int)) (hps : ∀ p ∈ ps, FP p) (hl : ps.length ≤ 8796093022208) : k_batch_deviations.F [.l (ps.map pt)] = some (encL (devO ps)) := by
  simp only [k_batch_deviations_F, tk_batch_deviations, k_batch_mean_f, k_frac_Sub_f, fmean_O ps hps (by omega), List.length_map, Go.Proofs.YtchnhfnnlkncdaaDoor.T.den, Ex.ev, U1.ev, U2.ev, U3.ev, gam, List.map, List.getD_cons_zero, List.getD_cons_succ, List.length, List.cons_append, List.nil_append, if_true, Sc.int_i, Sc.bool_b, Sc.list_l, Sc.str_s, Nat.reduceEqDiff, if_false, List.getElem?_cons_zero, List.getElem?_cons_succ]
  unfold devO
  cases hm : meanO ps with
  | none => simp only [enc_some, enc_none, encL_some, encL_none, Int.natCast_nonneg, bne_iff_ne, beq_iff_eq, ne_eq, decide_eq_true_eq, Bool.and_eq_true, Bool.or_eq_true, Bool.not_eq_true', decide_eq_false_iff_not, beq_eq_false_iff_ne, bne_eq_false_iff_eq, not_true_eq_false, not_false_eq_true, if_true, if_false, reduceIte, and_true, true_and, and_false, false_and, or_false, false_or, or_true, true_or, List.getD_cons_zero, List.getD_cons_succ, List.length_cons, List.length_nil, List.cons_append, List.nil_append, Nat.reduceAdd, Nat.reduceEqDiff, reduceCtorEq, Bool.not_true, Bool.not_false, Bool.true_and, Bool.and_true, Bool.false_and, Bool.and_false, Bool.or_true, Bool.true_or, Bool.or_false, Bool.false_or, Bool.false_eq_true, Bool.true_eq_false, Sc.int_i, Sc.bool_b, Sc.list_l, Sc.str_s, Int.reduceEq, Int.reduceLT, Int.reduceLE, Int.reduceNe, decide_true, decide_false, decide_not, eq_self, Classical.not_not, List.getElem?_cons_zero, List.getElem?_cons_succ, beq_self_eq_true, bne_self_eq_false]
  | some m =>
    have fm := meanO_fit hm
    simp only [enc_some, enc_none, Int.natCast_nonneg, bne_iff_ne, beq_iff_eq, ne_eq, decide_eq_true_eq, Bool.and_eq_true, Bool.or_eq_true, Bool.not_eq_true', decide_eq_false_iff_not, beq_eq_false_iff_ne, bne_eq_false_iff_eq, not_true_eq_false, not_false_eq_true, if_true, if_false, reduceIte, and_true, true_and, and_false, false_and, or_false, false_or, or_true, true_or, List.getD_cons_zero, List.getD_cons_succ, List.length_cons, List.length_nil, List.cons_append, List.nil_append, Nat.reduceAdd, Nat.reduceEqDiff, reduceCtorEq, Bool.not_true, Bool.not_false, Bool.true_and, Bool.and_true, Bool.false_and, Bool.and_false, Bool.or_true, Bool.true_or, Bool.or_false, Bool.false_or, Bool.false_eq_true, Bool.true_eq_false, Sc.int_i, Sc.bool_b, Sc.list_l, Sc.str_s, Int.reduceEq, Int.reduceLT, Int.reduceLE, Int.reduceNe, decide_true, decide_false, decide_not, eq_self, Classical.not_not, List.getElem?_cons_zero, List.getElem?_cons_succ, beq_self_eq_true, bne_self_eq_false]
    refine (rat_loop ps (fun p => subO (valP p) (some m)) (some (encL none)) (fun qs => some (encL (some qs))) (by omega) ?_ ?_ ?_).trans (by cases tryM (fun p => subO (valP p) (some m)) ps <;> rfl)
    · intro k rec out q h ho e
      have hi := idx_map pt ps k h
      have hk : (k : Int) < ps.length := by omega
      have hw := succ_w (n := ps.length) h (by omega)
      have a := fsub_O (hps _ (List.getElem_mem h)) (FP_pr fm)
      rw [valP_pr fm, e] at a
      simp only [enc, pr] at a
      have hs := snoc_le (x := .l [.i q.num, .i q.den]) ho h hl
      simp only [hi, hk, hw, pt, a, hs, Int.natCast_nonneg, bne_iff_ne, beq_iff_eq, ne_eq, decide_eq_true_eq, Bool.and_eq_true, Bool.or_eq_true, Bool.not_eq_true', decide_eq_false_iff_not, beq_eq_false_iff_ne, bne_eq_false_iff_eq, not_true_eq_false, not_false_eq_true, if_true, if_false, reduceIte, and_true, true_and, and_false, false_and, or_false, false_or, or_true, true_or, List.getD_cons_zero, List.getD_cons_succ, List.length_cons, List.length_nil, List.cons_append, List.nil_append, Nat.reduceAdd, Nat.reduceEqDiff, reduceCtorEq, Bool.not_true, Bool.not_false, Bool.true_and, Bool.and_true, Bool.false_and, Bool.and_false, Bool.or_true, Bool.true_or, Bool.or_false, Bool.false_or, Bool.false_eq_true, Bool.true_eq_false, Sc.int_i, Sc.bool_b, Sc.list_l, Sc.str_s, Int.reduceEq, Int.reduceLT, Int.reduceLE, Int.reduceNe, decide_true, decide_false, decide_not, eq_self, Classical.not_not, List.getElem?_cons_zero, List.getElem?_cons_succ, beq_self_eq_true, bne_self_eq_false]
    · intro k rec out h e
      have hi := idx_map pt ps k h
      have hk : (k : Int) < ps.length := by omega
      have a := fsub_O (hps _ (List.getElem_mem h)) (FP_pr fm)
      rw [valP_pr fm, e] at a
      simp only [enc, pr] at a
      simp only [hi, hk, pt, a, encL_some, encL_none, Int.natCast_nonneg, bne_iff_ne, beq_iff_eq, ne_eq, decide_eq_true_eq, Bool.and_eq_true, Bool.or_eq_true, Bool.not_eq_true', decide_eq_false_iff_not, beq_eq_false_iff_ne, bne_eq_false_iff_eq, not_true_eq_false, not_false_eq_true, if_true, if_false, reduceIte, and_true, true_and, and_false, false_and, or_false, false_or, or_true, true_or, List.getD_cons_zero, List.getD_cons_succ, List.length_cons, List.length_nil, List.cons_append, List.nil_append, Nat.reduceAdd, Nat.reduceEqDiff, reduceCtorEq, Bool.not_true, Bool.not_false, Bool.true_and, Bool.and_true, Bool.false_and, Bool.and_false, Bool.or_true, Bool.true_or, Bool.or_false, Bool.false_or, Bool.false_eq_true, Bool.true_eq_false, Sc.int_i, Sc.bool_b, Sc.list_l, Sc.str_s, Int.reduceEq, Int.reduceLT, Int.reduceLE, Int.reduceNe, decide_true, decide_false, decide_not, eq_self, Classical.not_not, List.getElem?_cons_zero, List.getElem?_cons_succ, beq_self_eq_true, bne_self_eq_false]
    · intro rec qs _
      simp only [Int.lt_irrefl, encL_some, encL_none, Int.natCast_nonneg, bne_iff_ne, beq_iff_eq, ne_eq, decide_eq_true_eq, Bool.and_eq_true, Bool.or_eq_true, Bool.not_eq_true', decide_eq_false_iff_not, beq_eq_false_iff_ne, bne_eq_false_iff_eq, not_true_eq_false, not_false_eq_true, if_true, if_false, reduceIte, and_true, true_and, and_false, false_and, or_false, false_or, or_true, true_or, List.getD_cons_zero, List.getD_cons_succ, List.length_cons, List.length_nil, List.cons_append, List.nil_append, Nat.reduceAdd, Nat.reduceEqDiff, reduceCtorEq, Bool.not_true, Bool.not_false, Bool.true_and, Bool.and_true, Bool.false_and, Bool.and_false, Bool.or_true, Bool.true_or, Bool.or_false, Bool.false_or, Bool.false_eq_true, Bool.true_eq_false, Sc.int_i, Sc.bool_b, Sc.list_l, Sc.str_s, Int.reduceEq, Int.reduceLT, Int.reduceLE, Int.reduceNe, decide_true, decide_false, decide_not, eq_self, Classical.not_not, List.getElem?_cons_zero, List.getElem?_cons_succ, beq_self_eq_true, bne_self_eq_false]
theorem rdev_O (ps : List (Int × Int)) (hps : ∀ p ∈ ps, FP p) (hl : ps.length ≤ 8796093022208) : k_simulatorref48_deviations.F [.l (ps.map pt)] = some (encL (devO ps)) := by
  simp only [k_simulatorref48_deviations_F, tk_simulatorref48_deviations, k_simulatorref48_mean_f, k_simulatorref02_Sub_f, rmean_O ps hps (by omega), List.length_map, Go.Proofs.YtchnhfnnlkncdaaDoor.T.den, Ex.ev, U1.ev, U2.ev, U3.ev, gam, List.map, List.getD_cons_zero, List.getD_cons_succ, List.length, List.cons_append, List.nil_append, if_true, Sc.int_i, Sc.bool_b, Sc.list_l, Sc.str_s, Nat.reduceEqDiff, if_false, List.getElem?_cons_zero, List.getElem?_cons_succ]
  unfold devO
  cases hm : meanO ps with
  | none => simp only [enc_some, enc_none, encL_some, encL_none, Int.natCast_nonneg, bne_iff_ne, beq_iff_eq, ne_eq, decide_eq_true_eq, Bool.and_eq_true, Bool.or_eq_true, Bool.not_eq_true', decide_eq_false_iff_not, beq_eq_false_iff_ne, bne_eq_false_iff_eq, not_true_eq_false, not_false_eq_true, if_true, if_false, reduceIte, and_true, true_and, and_false, false_and, or_false, false_or, or_true, true_or, List.getD_cons_zero, List.getD_cons_succ, List.length_cons, List.length_nil, List.cons_append, List.nil_append, Nat.reduceAdd, Nat.reduceEqDiff, reduceCtorEq, Bool.not_true, Bool.not_false, Bool.true_and, Bool.and_true, Bool.false_and, Bool.and_false, Bool.or_true, Bool.true_or, Bool.or_false, Bool.false_or, Bool.false_eq_true, Bool.true_eq_false, Sc.int_i, Sc.bool_b, Sc.list_l, Sc.str_s, Int.reduceEq, Int.reduceLT, Int.reduceLE, Int.reduceNe, decide_true, decide_false, decide_not, eq_self, Classical.not_not, List.getElem?_cons_zero, List.getElem?_cons_succ, beq_self_eq_true, bne_self_eq_false]
  | some m =>
    have fm := meanO_fit hm
    simp only [enc_some, enc_none, Int.natCast_nonneg, bne_iff_ne, beq_iff_eq, ne_eq, decide_eq_true_eq, Bool.and_eq_true, Bool.or_eq_true, Bool.not_eq_true', decide_eq_false_iff_not, beq_eq_false_iff_ne, bne_eq_false_iff_eq, not_true_eq_false, not_false_eq_true, if_true, if_false, reduceIte, and_true, true_and, and_false, false_and, or_false, false_or, or_true, true_or, List.getD_cons_zero, List.getD_cons_succ, List.length_cons, List.length_nil, List.cons_append, List.nil_append, Nat.reduceAdd, Nat.reduceEqDiff, reduceCtorEq, Bool.not_true, Bool.not_false, Bool.true_and, Bool.and_true, Bool.false_and, Bool.and_false, Bool.or_true, Bool.true_or, Bool.or_false, Bool.false_or, Bool.false_eq_true, Bool.true_eq_false, Sc.int_i, Sc.bool_b, Sc.list_l, Sc.str_s, Int.reduceEq, Int.reduceLT, Int.reduceLE, Int.reduceNe, decide_true, decide_false, decide_not, eq_self, Classical.not_not, List.getElem?_cons_zero, List.getElem?_cons_succ, beq_self_eq_true, bne_self_eq_false]
    refine (rat_loop ps (fun p => subO (valP p) (some m)) (some (encL none)) (fun qs => some (encL (some qs))) (by omega) ?_ ?_ ?_).trans (by cases tryM (fun p => subO (valP p) (some m)) ps <;> rfl)
    · intro k rec out q h ho e
      have hi := idx_map pt ps k h
      have hk : (k : Int) < ps.length := by omega
      have hw := succ_w (n := ps.length) h (by omega)
      have a := rsub_O (hps _ (List.getElem_mem h)) (FP_pr fm)
      rw [valP_pr fm, e] at a
      simp only [enc, pr] at a
      have hs := snoc_le (x := .l [.i q.num, .i q.den]) ho h hl
      simp only [hi, hk, hw, pt, a, hs, Int.natCast_nonneg, bne_iff_ne, beq_iff_eq, ne_eq, decide_eq_true_eq, Bool.and_eq_true, Bool.or_eq_true, Bool.not_eq_true', decide_eq_false_iff_not, beq_eq_false_iff_ne, bne_eq_false_iff_eq, not_true_eq_false, not_false_eq_true, if_true, if_false, reduceIte, and_true, true_and, and_false, false_and, or_false, false_or, or_true, true_or, List.getD_cons_zero, List.getD_cons_succ, List.length_cons, List.length_nil, List.cons_append, List.nil_append, Nat.reduceAdd, Nat.reduceEqDiff, reduceCtorEq, Bool.not_true, Bool.not_false, Bool.true_and, Bool.and_true, Bool.false_and, Bool.and_false, Bool.or_true, Bool.true_or, Bool.or_false, Bool.false_or, Bool.false_eq_true, Bool.true_eq_false, Sc.int_i, Sc.bool_b, Sc.list_l, Sc.str_s, Int.reduceEq, Int.reduceLT, Int.reduceLE, Int.reduceNe, decide_true, decide_false, decide_not, eq_self, Classical.not_not, List.getElem?_cons_zero, List.getElem?_cons_succ, beq_self_eq_true, bne_self_eq_false]
    · intro k rec out h e
      have hi := idx_map pt ps k h
      have hk : (k : Int) < ps.length := by omega
      have a := rsub_O (hps _ (List.getElem_mem h)) (FP_pr fm)
      rw [valP_pr fm, e] at a
      simp only [enc, pr] at a
      simp only [hi, hk, pt, a, encL_some, encL_none, Int.natCast_nonneg, bne_iff_ne, beq_iff_eq, ne_eq, decide_eq_true_eq, Bool.and_eq_true, Bool.or_eq_true, Bool.not_eq_true', decide_eq_false_iff_not, beq_eq_false_iff_ne, bne_eq_false_iff_eq, not_true_eq_false, not_false_eq_true, if_true, if_false, reduceIte, and_true, true_and, and_false, false_and, or_false, false_or, or_true, true_or, List.getD_cons_zero, List.getD_cons_succ, List.length_cons, List.length_nil, List.cons_append, List.nil_append, Nat.reduceAdd, Nat.reduceEqDiff, reduceCtorEq, Bool.not_true, Bool.not_false, Bool.true_and, Bool.and_true, Bool.false_and, Bool.and_false, Bool.or_true, Bool.true_or, Bool.or_false, Bool.false_or, Bool.false_eq_true, Bool.true_eq_false, Sc.int_i, Sc.bool_b, Sc.list_l, Sc.str_s, Int.reduceEq, Int.reduceLT, Int.reduceLE, Int.reduceNe, decide_true, decide_false, decide_not, eq_self, Classical.not_not, List.getElem?_cons_zero, List.getElem?_cons_succ, beq_self_eq_true, bne_self_eq_false]
    · intro rec qs _
      simp only [Int.lt_irrefl, encL_some, encL_none, Int.natCast_nonneg, bne_iff_ne, beq_iff_eq, ne_eq, decide_eq_true_eq, Bool.and_eq_true, Bool.or_eq_true, Bool.not_eq_true', decide_eq_false_iff_not, beq_eq_false_iff_ne, bne_eq_false_iff_eq, not_true_eq_false, not_false_eq_true, if_true, if_false, reduceIte, and_true, true_and, and_false, false_and, or_false, false_or, or_true, true_or, List.getD_cons_zero, List.getD_cons_succ, List.length_cons, List.length_nil, List.cons_append, List.nil_append, Nat.reduceAdd, Nat.reduceEqDiff, reduceCtorEq, Bool.not_true, Bool.not_false, Bool.true_and, Bool.and_true, Bool.false_and, Bool.and_false, Bool.or_true, Bool.true_or, Bool.or_false, Bool.false_or, Bool.false_eq_true, Bool.true_eq_false, Sc.int_i, Sc.bool_b, Sc.list_l, Sc.str_s, Int.reduceEq, Int.reduceLT, Int.reduceLE, Int.reduceNe, decide_true, decide_false, decide_not, eq_self, Classical.not_not, List.getElem?_cons_zero, List.getElem?_cons_succ, beq_self_eq_true, bne_self_eq_false]

/-- The sum of products. -/
def prodO (zs : List (Rat × Rat)) : Option Rat := match tryM (fun z => mulO (some z.1) (some z.2)) zs with
  | none => none
  | some ms => sumO 0 (ms.map pr)
theorem prodO_fit {zs : List (Rat × Rat)} {s : Rat} (h : prodO zs = some s) : fitQ s = true := by
  unfold prodO at h; split at h
  · cases h
  · exact sumO_fit fit_zero h
theorem mul_all {zs : List (Rat × Rat)} {ms : List Rat} (h : tryM (fun z => mulO (some z.1) (some z.2)) zs = some ms) : ∀ m ∈ ms, fitQ m = true := by
  intro d hd
  obtain ⟨i, hi, rfl⟩ := List.getElem_of_mem hd
  have hl := tryM_len h
  exact mulO_fit (tryM_get h i (by omega) hi)
theorem map_pt_pr (qs : List Rat) : (qs.map fun q => pt (pr q)) = (qs.map pr).map pt := by rw [List.map_map]; rfl
theorem fprod_O (us ws : List Rat) (ha : ∀ q ∈ us, fitQ q = true) (hb : ∀ q ∈ ws, fitQ q = true) (hab : us.length = ws.length) (hl : us.length ≤ 8796093022208) : k_batch_products.F [.l (us.map fun q => pt (pr q)), .l (ws.map fun q => pt (pr q))] = some (enc (prodO (us.zip ws))) := by
  simp only [k_batch_products_F, tk_batch_products, k_frac_Mul_f, k_frac_Sum_f, List.length_map, Go.Proofs.YtchnhfnnlkncdaaDoor.T.den, Ex.ev, U1.ev, U2.ev, U3.ev, gam, List.map, List.getD_cons_zero, List.getD_cons_succ, List.length, List.cons_append, List.nil_append, if_true, Sc.int_i, Sc.bool_b, Sc.list_l, Sc.str_s, Nat.reduceEqDiff, if_false, List.getElem?_cons_zero, List.getElem?_cons_succ]
  have hz : (us.zip ws).length = us.length := by rw [List.length_zip]; omega
  unfold prodO
  refine (rat_loop (us.zip ws) (fun z => mulO (some z.1) (some z.2)) (some (enc none)) (fun qs => some (enc (sumO 0 (qs.map pr)))) (by omega) ?_ ?_ ?_).trans (by cases tryM (fun z => mulO (some z.1) (some z.2)) (us.zip ws) <;> rfl)
  · intro k rec out q h ho e
    have hka : k < us.length := by omega
    have hkb : k < ws.length := by omega
    rw [List.getElem_zip] at e
    have hi := idx_map (fun q => pt (pr q)) us k hka
    have hj := idx_map (fun q => pt (pr q)) ws k hkb
    have hk : (k : Int) < us.length := by omega
    have hk2 : (k : Int) < ws.length := by omega
    have hw := succ_w (n := us.length) hka (by omega)
    have fa := ha _ (List.getElem_mem hka)
    have fb := hb _ (List.getElem_mem hkb)
    have a := fmul_O (FP_pr fa) (FP_pr fb)
    rw [valP_pr fa, valP_pr fb, e] at a
    simp only [enc, pr] at a
    have hs := snoc_le (x := .l [.i q.num, .i q.den]) ho hka hl
    simp only [pt_pr] at hi hj
    simp only [pt_pr, hi, hj, hk, hk2, hw, a, hs, Int.natCast_nonneg, bne_iff_ne, beq_iff_eq, ne_eq, decide_eq_true_eq, Bool.and_eq_true, Bool.or_eq_true, Bool.not_eq_true', decide_eq_false_iff_not, beq_eq_false_iff_ne, bne_eq_false_iff_eq, not_true_eq_false, not_false_eq_true, if_true, if_false, reduceIte, and_true, true_and, and_false, false_and, or_false, false_or, or_true, true_or, List.getD_cons_zero, List.getD_cons_succ, List.length_cons, List.length_nil, List.cons_append, List.nil_append, Nat.reduceAdd, Nat.reduceEqDiff, reduceCtorEq, Bool.not_true, Bool.not_false, Bool.true_and, Bool.and_true, Bool.false_and, Bool.and_false, Bool.or_true, Bool.true_or, Bool.or_false, Bool.false_or, Bool.false_eq_true, Bool.true_eq_false, Sc.int_i, Sc.bool_b, Sc.list_l, Sc.str_s, Int.reduceEq, Int.reduceLT, Int.reduceLE, Int.reduceNe, decide_true, decide_false, decide_not, eq_self, Classical.not_not, List.getElem?_cons_zero, List.getElem?_cons_succ, beq_self_eq_true, bne_self_eq_false]
  · intro k rec out h e
    have hka : k < us.length := by omega
    have hkb : k < ws.length := by omega
    rw [List.getElem_zip] at e
    have hi := idx_map (fun q => pt (pr q)) us k hka
    have hj := idx_map (fun q => pt (pr q)) ws k hkb
    have hk : (k : Int) < us.length := by omega
    have hk2 : (k : Int) < ws.length := by omega
    have fa := ha _ (List.getElem_mem hka)
    have fb := hb _ (List.getElem_mem hkb)
    have a := fmul_O (FP_pr fa) (FP_pr fb)
    rw [valP_pr fa, valP_pr fb, e] at a
    simp only [enc, pr] at a
    simp only [pt_pr] at hi hj
    simp only [pt_pr, hi, hj, hk, hk2, a, enc_some, enc_none, Int.natCast_nonneg, bne_iff_ne, beq_iff_eq, ne_eq, decide_eq_true_eq, Bool.and_eq_true, Bool.or_eq_true, Bool.not_eq_true', decide_eq_false_iff_not, beq_eq_false_iff_ne, bne_eq_false_iff_eq, not_true_eq_false, not_false_eq_true, if_true, if_false, reduceIte, and_true, true_and, and_false, false_and, or_false, false_or, or_true, true_or, List.getD_cons_zero, List.getD_cons_succ, List.length_cons, List.length_nil, List.cons_append, List.nil_append, Nat.reduceAdd, Nat.reduceEqDiff, reduceCtorEq, Bool.not_true, Bool.not_false, Bool.true_and, Bool.and_true, Bool.false_and, Bool.and_false, Bool.or_true, Bool.true_or, Bool.or_false, Bool.false_or, Bool.false_eq_true, Bool.true_eq_false, Sc.int_i, Sc.bool_b, Sc.list_l, Sc.str_s, Int.reduceEq, Int.reduceLT, Int.reduceLE, Int.reduceNe, decide_true, decide_false, decide_not, eq_self, Classical.not_not, List.getElem?_cons_zero, List.getElem?_cons_succ, beq_self_eq_true, bne_self_eq_false]
  · intro rec qs hq
    have hql : qs.length = us.length := by rw [tryM_len hq, hz]
    have s := fsum_O (qs.map pr) (fun p hp => by obtain ⟨q, h1, rfl⟩ := List.mem_map.1 hp; exact FP_pr (mul_all hq q h1)) (by rw [List.length_map]; omega)
    obtain ⟨x, y, z, e⟩ := enc_form (sumO 0 (qs.map pr))
    rw [e] at s ⊢
    rw [hz, map_pt_pr]
    simp only [Int.lt_irrefl, s, Int.natCast_nonneg, bne_iff_ne, beq_iff_eq, ne_eq, decide_eq_true_eq, Bool.and_eq_true, Bool.or_eq_true, Bool.not_eq_true', decide_eq_false_iff_not, beq_eq_false_iff_ne, bne_eq_false_iff_eq, not_true_eq_false, not_false_eq_true, if_true, if_false, reduceIte, and_true, true_and, and_false, false_and, or_false, false_or, or_true, true_or, List.getD_cons_zero, List.getD_cons_succ, List.length_cons, List.length_nil, List.cons_append, List.nil_append, Nat.reduceAdd, Nat.reduceEqDiff, reduceCtorEq, Bool.not_true, Bool.not_false, Bool.true_and, Bool.and_true, Bool.false_and, Bool.and_false, Bool.or_true, Bool.true_or, Bool.or_false, Bool.false_or, Bool.false_eq_true, Bool.true_eq_false, Sc.int_i, Sc.bool_b, Sc.list_l, Sc.str_s, Int.reduceEq, Int.reduceLT, Int.reduceLE, Int.reduceNe, decide_true, decide_false, decide_not, eq_self, Classical.not_not, List.getElem?_cons_zero, List.getElem?_cons_succ, beq_self_eq_true, bne_self_eq_false]
theorem rprod_O (us ws : List Rat) (ha : ∀ q ∈ us, fitQ q = true) (hb : ∀ q ∈ ws, fitQ q = true) (hab : us.length = ws.length) (hl : us.length ≤ 8796093022208) : k_simulatorref48_products.F [.l (us.map fun q => pt (pr q)), .l (ws.map fun q => pt (pr q))] = some (enc (prodO (us.zip ws))) := by
  simp only [k_simulatorref48_products_F, tk_simulatorref48_products, k_simulatorref02_Mul_f, k_simulatorref02_Sum_f, List.length_map, Go.Proofs.YtchnhfnnlkncdaaDoor.T.den, Ex.ev, U1.ev, U2.ev, U3.ev, gam, List.map, List.getD_cons_zero, List.getD_cons_succ, List.length, List.cons_append, List.nil_append, if_true, Sc.int_i, Sc.bool_b, Sc.list_l, Sc.str_s, Nat.reduceEqDiff, if_false, List.getElem?_cons_zero, List.getElem?_cons_succ]
  have hz : (us.zip ws).length = us.length := by rw [List.length_zip]; omega
  unfold prodO
  refine (rat_loop (us.zip ws) (fun z => mulO (some z.1) (some z.2)) (some (enc none)) (fun qs => some (enc (sumO 0 (qs.map pr)))) (by omega) ?_ ?_ ?_).trans (by cases tryM (fun z => mulO (some z.1) (some z.2)) (us.zip ws) <;> rfl)
  · intro k rec out q h ho e
    have hka : k < us.length := by omega
    have hkb : k < ws.length := by omega
    rw [List.getElem_zip] at e
    have hi := idx_map (fun q => pt (pr q)) us k hka
    have hj := idx_map (fun q => pt (pr q)) ws k hkb
    have hk : (k : Int) < us.length := by omega
    have hk2 : (k : Int) < ws.length := by omega
    have hw := succ_w (n := us.length) hka (by omega)
    have fa := ha _ (List.getElem_mem hka)
    have fb := hb _ (List.getElem_mem hkb)
    have a := rmul_O (FP_pr fa) (FP_pr fb)
    rw [valP_pr fa, valP_pr fb, e] at a
    simp only [enc, pr] at a
    have hs := snoc_le (x := .l [.i q.num, .i q.den]) ho hka hl
    simp only [pt_pr] at hi hj
    simp only [pt_pr, hi, hj, hk, hk2, hw, a, hs, Int.natCast_nonneg, bne_iff_ne, beq_iff_eq, ne_eq, decide_eq_true_eq, Bool.and_eq_true, Bool.or_eq_true, Bool.not_eq_true', decide_eq_false_iff_not, beq_eq_false_iff_ne, bne_eq_false_iff_eq, not_true_eq_false, not_false_eq_true, if_true, if_false, reduceIte, and_true, true_and, and_false, false_and, or_false, false_or, or_true, true_or, List.getD_cons_zero, List.getD_cons_succ, List.length_cons, List.length_nil, List.cons_append, List.nil_append, Nat.reduceAdd, Nat.reduceEqDiff, reduceCtorEq, Bool.not_true, Bool.not_false, Bool.true_and, Bool.and_true, Bool.false_and, Bool.and_false, Bool.or_true, Bool.true_or, Bool.or_false, Bool.false_or, Bool.false_eq_true, Bool.true_eq_false, Sc.int_i, Sc.bool_b, Sc.list_l, Sc.str_s, Int.reduceEq, Int.reduceLT, Int.reduceLE, Int.reduceNe, decide_true, decide_false, decide_not, eq_self, Classical.not_not, List.getElem?_cons_zero, List.getElem?_cons_succ, beq_self_eq_true, bne_self_eq_false]
  · intro k rec out h e
    have hka : k < us.length := by omega
    have hkb : k < ws.length := by omega
    rw [List.getElem_zip] at e
    have hi := idx_map (fun q => pt (pr q)) us k hka
    have hj := idx_map (fun q => pt (pr q)) ws k hkb
    have hk : (k : Int) < us.length := by omega
    have hk2 : (k : Int) < ws.length := by omega
    have fa := ha _ (List.getElem_mem hka)
    have fb := hb _ (List.getElem_mem hkb)
    have a := rmul_O (FP_pr fa) (FP_pr fb)
    rw [valP_pr fa, valP_pr fb, e] at a
    simp only [enc, pr] at a
    simp only [pt_pr] at hi hj
    simp only [pt_pr, hi, hj, hk, hk2, a, enc_some, enc_none, Int.natCast_nonneg, bne_iff_ne, beq_iff_eq, ne_eq, decide_eq_true_eq, Bool.and_eq_true, Bool.or_eq_true, Bool.not_eq_true', decide_eq_false_iff_not, beq_eq_false_iff_ne, bne_eq_false_iff_eq, not_true_eq_false, not_false_eq_true, if_true, if_false, reduceIte, and_true, true_and, and_false, false_and, or_false, false_or, or_true, true_or, List.getD_cons_zero, List.getD_cons_succ, List.length_cons, List.length_nil, List.cons_append, List.nil_append, Nat.reduceAdd, Nat.reduceEqDiff, reduceCtorEq, Bool.not_true, Bool.not_false, Bool.true_and, Bool.and_true, Bool.false_and, Bool.and_false, Bool.or_true, Bool.true_or, Bool.or_false, Bool.false_or, Bool.false_eq_true, Bool.true_eq_false, Sc.int_i, Sc.bool_b, Sc.list_l, Sc.str_s, Int.reduceEq, Int.reduceLT, Int.reduceLE, Int.reduceNe, decide_true, decide_false, decide_not, eq_self, Classical.not_not, List.getElem?_cons_zero, List.getElem?_cons_succ, beq_self_eq_true, bne_self_eq_false]
  · intro rec qs hq
    have hql : qs.length = us.length := by rw [tryM_len hq, hz]
    have s := rsum_O (qs.map pr) (fun p hp => by obtain ⟨q, h1, rfl⟩ := List.mem_map.1 hp; exact FP_pr (mul_all hq q h1)) (by rw [List.length_map]; omega)
    obtain ⟨x, y, z, e⟩ := enc_form (sumO 0 (qs.map pr))
    rw [e] at s ⊢
    rw [hz, map_pt_pr]
    simp only [Int.lt_irrefl, s, Int.natCast_nonneg, bne_iff_ne, beq_iff_eq, ne_eq, decide_eq_true_eq, Bool.and_eq_true, Bool.or_eq_true, Bool.not_eq_true', decide_eq_false_iff_not, beq_eq_false_iff_ne, bne_eq_false_iff_eq, not_true_eq_false, not_false_eq_true, if_true, if_false, reduceIte, and_true, true_and, and_false, false_and, or_false, false_or, or_true, true_or, List.getD_cons_zero, List.getD_cons_succ, List.length_cons, List.length_nil, List.cons_append, List.nil_append, Nat.reduceAdd, Nat.reduceEqDiff, reduceCtorEq, Bool.not_true, Bool.not_false, Bool.true_and, Bool.and_true, Bool.false_and, Bool.and_false, Bool.or_true, Bool.true_or, Bool.or_false, Bool.false_or, Bool.false_eq_true, Bool.true_eq_false, Sc.int_i, Sc.bool_b, Sc.list_l, Sc.str_s, Int.reduceEq, Int.reduceLT, Int.reduceLE, Int.reduceNe, decide_true, decide_false, decide_not, eq_self, Classical.not_not, List.getElem?_cons_zero, List.getElem?_cons_succ, beq_self_eq_true, bne_self_eq_false]
def varO (ps : List (Int × Int)) : Option Rat := if ps.length < 2 ∨ 50 < ps.length then none else match devO ps with
  | none => none
  | some ds => match prodO (ds.zip ds) with
    | none => none
    | some s => divO (some s) (some ((ps.length - 1 : Nat) : Rat))
theorem varO_out {ps : List (Int × Int)} (h : ps.length < 2 ∨ 50 < ps.length) : varO ps = none := if_pos h
theorem varO_in {ps : List (Int × Int)} (h : ¬ (ps.length < 2 ∨ 50 < ps.length)) : varO ps = match devO ps with
  | none => none
  | some ds => match prodO (ds.zip ds) with
    | none => none
    | some s => divO (some s) (some ((ps.length - 1 : Nat) : Rat)) := if_neg h
theorem varO_fit {ps : List (Int × Int)} {v : Rat} (h : varO ps = some v) : fitQ v = true := by
  unfold varO at h; split at h
  · cases h
  · split at h
    · cases h
    · split at h
      · cases h
      · exact divO_fit h
theorem fvar_O (ps : List (Int × Int)) (hps : ∀ p ∈ ps, FP p) : k_batch_Variance.F [.l (ps.map pt)] = some (enc (varO ps)) := by
  have w : ∀ n : Int, k_batch_whole.F [.i n] = some [.i n, .i 1] := fun n => by
    simp only [k_batch_whole_F, tk_batch_whole, Go.Proofs.YtchnhfnnlkncdaaDoor.T.den, Ex.ev, U1.ev, U2.ev, U3.ev, gam, List.map, List.getD_cons_zero, List.getD_cons_succ, List.length, List.cons_append, List.nil_append, if_true, Sc.int_i, Sc.bool_b, Sc.list_l, Sc.str_s, Nat.reduceEqDiff, if_false, List.getElem?_cons_zero, List.getElem?_cons_succ]
  simp only [k_batch_Variance_F, tk_batch_Variance, k_batch_deviations_f, k_batch_products_f, k_batch_whole_f, k_frac_Div_f, w, List.length_map, Go.Proofs.YtchnhfnnlkncdaaDoor.T.den, Ex.ev, U1.ev, U2.ev, U3.ev, gam, List.map, List.getD_cons_zero, List.getD_cons_succ, List.length, List.cons_append, List.nil_append, if_true, Sc.int_i, Sc.bool_b, Sc.list_l, Sc.str_s, Nat.reduceEqDiff, if_false, List.getElem?_cons_zero, List.getElem?_cons_succ]
  by_cases h1 : (ps.length : Int) < 2
  · rw [varO_out (.inl (by omega))]; simp only [h1, enc_some, enc_none, Int.natCast_nonneg, bne_iff_ne, beq_iff_eq, ne_eq, decide_eq_true_eq, Bool.and_eq_true, Bool.or_eq_true, Bool.not_eq_true', decide_eq_false_iff_not, beq_eq_false_iff_ne, bne_eq_false_iff_eq, not_true_eq_false, not_false_eq_true, if_true, if_false, reduceIte, and_true, true_and, and_false, false_and, or_false, false_or, or_true, true_or, List.getD_cons_zero, List.getD_cons_succ, List.length_cons, List.length_nil, List.cons_append, List.nil_append, Nat.reduceAdd, Nat.reduceEqDiff, reduceCtorEq, Bool.not_true, Bool.not_false, Bool.true_and, Bool.and_true, Bool.false_and, Bool.and_false, Bool.or_true, Bool.true_or, Bool.or_false, Bool.false_or, Bool.false_eq_true, Bool.true_eq_false, Sc.int_i, Sc.bool_b, Sc.list_l, Sc.str_s, Int.reduceEq, Int.reduceLT, Int.reduceLE, Int.reduceNe, decide_true, decide_false, decide_not, eq_self, Classical.not_not, List.getElem?_cons_zero, List.getElem?_cons_succ, beq_self_eq_true, bne_self_eq_false]
  by_cases h2 : (50 : Int) < ps.length
  · rw [varO_out (.inr (by omega))]; simp only [h1, h2, enc_some, enc_none, Int.natCast_nonneg, bne_iff_ne, beq_iff_eq, ne_eq, decide_eq_true_eq, Bool.and_eq_true, Bool.or_eq_true, Bool.not_eq_true', decide_eq_false_iff_not, beq_eq_false_iff_ne, bne_eq_false_iff_eq, not_true_eq_false, not_false_eq_true, if_true, if_false, reduceIte, and_true, true_and, and_false, false_and, or_false, false_or, or_true, true_or, List.getD_cons_zero, List.getD_cons_succ, List.length_cons, List.length_nil, List.cons_append, List.nil_append, Nat.reduceAdd, Nat.reduceEqDiff, reduceCtorEq, Bool.not_true, Bool.not_false, Bool.true_and, Bool.and_true, Bool.false_and, Bool.and_false, Bool.or_true, Bool.true_or, Bool.or_false, Bool.false_or, Bool.false_eq_true, Bool.true_eq_false, Sc.int_i, Sc.bool_b, Sc.list_l, Sc.str_s, Int.reduceEq, Int.reduceLT, Int.reduceLE, Int.reduceNe, decide_true, decide_false, decide_not, eq_self, Classical.not_not, List.getElem?_cons_zero, List.getElem?_cons_succ, beq_self_eq_true, bne_self_eq_false]
  rw [varO_in (by omega), fdev_O ps hps (by omega)]
  cases hd : devO ps with
  | none => simp only [h1, h2, enc_some, enc_none, encL_some, encL_none, Int.natCast_nonneg, bne_iff_ne, beq_iff_eq, ne_eq, decide_eq_true_eq, Bool.and_eq_true, Bool.or_eq_true, Bool.not_eq_true', decide_eq_false_iff_not, beq_eq_false_iff_ne, bne_eq_false_iff_eq, not_true_eq_false, not_false_eq_true, if_true, if_false, reduceIte, and_true, true_and, and_false, false_and, or_false, false_or, or_true, true_or, List.getD_cons_zero, List.getD_cons_succ, List.length_cons, List.length_nil, List.cons_append, List.nil_append, Nat.reduceAdd, Nat.reduceEqDiff, reduceCtorEq, Bool.not_true, Bool.not_false, Bool.true_and, Bool.and_true, Bool.false_and, Bool.and_false, Bool.or_true, Bool.true_or, Bool.or_false, Bool.false_or, Bool.false_eq_true, Bool.true_eq_false, Sc.int_i, Sc.bool_b, Sc.list_l, Sc.str_s, Int.reduceEq, Int.reduceLT, Int.reduceLE, Int.reduceNe, decide_true, decide_false, decide_not, eq_self, Classical.not_not, List.getElem?_cons_zero, List.getElem?_cons_succ, beq_self_eq_true, bne_self_eq_false]
  | some ds =>
    have hdl := devO_len hd
    have hp := fprod_O ds ds (devO_fit hd) (devO_fit hd) rfl (by omega)
    cases hs : prodO (ds.zip ds) with
    | none =>
      rw [hs] at hp
      simp only [h1, h2, enc_some, enc_none, encL_some, encL_none, hp, hs, Int.natCast_nonneg, bne_iff_ne, beq_iff_eq, ne_eq, decide_eq_true_eq, Bool.and_eq_true, Bool.or_eq_true, Bool.not_eq_true', decide_eq_false_iff_not, beq_eq_false_iff_ne, bne_eq_false_iff_eq, not_true_eq_false, not_false_eq_true, if_true, if_false, reduceIte, and_true, true_and, and_false, false_and, or_false, false_or, or_true, true_or, List.getD_cons_zero, List.getD_cons_succ, List.length_cons, List.length_nil, List.cons_append, List.nil_append, Nat.reduceAdd, Nat.reduceEqDiff, reduceCtorEq, Bool.not_true, Bool.not_false, Bool.true_and, Bool.and_true, Bool.false_and, Bool.and_false, Bool.or_true, Bool.true_or, Bool.or_false, Bool.false_or, Bool.false_eq_true, Bool.true_eq_false, Sc.int_i, Sc.bool_b, Sc.list_l, Sc.str_s, Int.reduceEq, Int.reduceLT, Int.reduceLE, Int.reduceNe, decide_true, decide_false, decide_not, eq_self, Classical.not_not, List.getElem?_cons_zero, List.getElem?_cons_succ, beq_self_eq_true, bne_self_eq_false]
    | some s =>
      rw [hs] at hp
      have fs := prodO_fit hs
      have hn : (((ps.length - 1 : Nat) : Int)).natAbs ≤ maxN := by unfold maxN; omega
      have wn : IntKind.i64.wrap ((ps.length : Int) - 1) = ((ps.length - 1 : Nat) : Int) := by rw [wrI (by omega) (by omega)]; omega
      have d := fdiv_O (FP_pr fs) (FP_pr (whole_fit hn))
      rw [valP_pr fs, valP_pr (whole_fit hn), whole_pr, nat_rat] at d
      obtain ⟨x, y, z, e⟩ := enc_form (divO (some s) (some ((ps.length - 1 : Nat) : Rat)))
      rw [e] at d
      simp only [pr] at d
      simp only [h1, h2, enc_some, enc_none, encL_some, encL_none, hp, hs, wn, d, e, Int.natCast_nonneg, bne_iff_ne, beq_iff_eq, ne_eq, decide_eq_true_eq, Bool.and_eq_true, Bool.or_eq_true, Bool.not_eq_true', decide_eq_false_iff_not, beq_eq_false_iff_ne, bne_eq_false_iff_eq, not_true_eq_false, not_false_eq_true, if_true, if_false, reduceIte, and_true, true_and, and_false, false_and, or_false, false_or, or_true, true_or, List.getD_cons_zero, List.getD_cons_succ, List.length_cons, List.length_nil, List.cons_append, List.nil_append, Nat.reduceAdd, Nat.reduceEqDiff, reduceCtorEq, Bool.not_true, Bool.not_false, Bool.true_and, Bool.and_true, Bool.false_and, Bool.and_false, Bool.or_true, Bool.true_or, Bool.or_false, Bool.false_or, Bool.false_eq_true, Bool.true_eq_false, Sc.int_i, Sc.bool_b, Sc.list_l, Sc.str_s, Int.reduceEq, Int.reduceLT, Int.reduceLE, Int.reduceNe, decide_true, decide_false, decide_not, eq_self, Classical.not_not, List.getElem?_cons_zero, List.getElem?_cons_succ, beq_self_eq_true, bne_self_eq_false]
theorem rvar_O (ps : List (Int × Int)) (hps : ∀ p ∈ ps, FP p) : k_simulatorref48_Variance.F [.l (ps.map pt)] = some (enc (varO ps)) := by
  simp only [k_simulatorref48_Variance_F, tk_simulatorref48_Variance, k_simulatorref48_deviations_f, k_simulatorref48_products_f, k_simulatorref02_Div_f, List.length_map, Go.Proofs.YtchnhfnnlkncdaaDoor.T.den, Ex.ev, U1.ev, U2.ev, U3.ev, gam, List.map, List.getD_cons_zero, List.getD_cons_succ, List.length, List.cons_append, List.nil_append, if_true, Sc.int_i, Sc.bool_b, Sc.list_l, Sc.str_s, Nat.reduceEqDiff, if_false, List.getElem?_cons_zero, List.getElem?_cons_succ]
  by_cases h1 : (ps.length : Int) < 2
  · rw [varO_out (.inl (by omega))]; simp only [h1, enc_some, enc_none, Int.natCast_nonneg, bne_iff_ne, beq_iff_eq, ne_eq, decide_eq_true_eq, Bool.and_eq_true, Bool.or_eq_true, Bool.not_eq_true', decide_eq_false_iff_not, beq_eq_false_iff_ne, bne_eq_false_iff_eq, not_true_eq_false, not_false_eq_true, if_true, if_false, reduceIte, and_true, true_and, and_false, false_and, or_false, false_or, or_true, true_or, List.getD_cons_zero, List.getD_cons_succ, List.length_cons, List.length_nil, List.cons_append, List.nil_append, Nat.reduceAdd, Nat.reduceEqDiff, reduceCtorEq, Bool.not_true, Bool.not_false, Bool.true_and, Bool.and_true, Bool.false_and, Bool.and_false, Bool.or_true, Bool.true_or, Bool.or_false, Bool.false_or, Bool.false_eq_true, Bool.true_eq_false, Sc.int_i, Sc.bool_b, Sc.list_l, Sc.str_s, Int.reduceEq, Int.reduceLT, Int.reduceLE, Int.reduceNe, decide_true, decide_false, decide_not, eq_self, Classical.not_not, List.getElem?_cons_zero, List.getElem?_cons_succ, beq_self_eq_true, bne_self_eq_false]
  by_cases h2 : (50 : Int) < ps.length
  · rw [varO_out (.inr (by omega))]; simp only [h1, h2, enc_some, enc_none, Int.natCast_nonneg, bne_iff_ne, beq_iff_eq, ne_eq, decide_eq_true_eq, Bool.and_eq_true, Bool.or_eq_true, Bool.not_eq_true', decide_eq_false_iff_not, beq_eq_false_iff_ne, bne_eq_false_iff_eq, not_true_eq_false, not_false_eq_true, if_true, if_false, reduceIte, and_true, true_and, and_false, false_and, or_false, false_or, or_true, true_or, List.getD_cons_zero, List.getD_cons_succ, List.length_cons, List.length_nil, List.cons_append, List.nil_append, Nat.reduceAdd, Nat.reduceEqDiff, reduceCtorEq, Bool.not_true, Bool.not_false, Bool.true_and, Bool.and_true, Bool.false_and, Bool.and_false, Bool.or_true, Bool.true_or, Bool.or_false, Bool.false_or, Bool.false_eq_true, Bool.true_eq_false, Sc.int_i, Sc.bool_b, Sc.list_l, Sc.str_s, Int.reduceEq, Int.reduceLT, Int.reduceLE, Int.reduceNe, decide_true, decide_false, decide_not, eq_self, Classical.not_not, List.getElem?_cons_zero, List.getElem?_cons_succ, beq_self_eq_true, bne_self_eq_false]
  rw [varO_in (by omega), rdev_O ps hps (by omega)]
  cases hd : devO ps with
  | none =>
    have hp := rprod_O [] [] (fun _ h => by cases h) (fun _ h => by cases h) rfl (by simp)
    obtain ⟨x, y, z, e⟩ := enc_form (prodO ([].zip []))
    rw [e] at hp
    simp only [List.map_nil] at hp
    simp only [h1, h2, enc_some, enc_none, encL_some, encL_none, hp, Int.natCast_nonneg, bne_iff_ne, beq_iff_eq, ne_eq, decide_eq_true_eq, Bool.and_eq_true, Bool.or_eq_true, Bool.not_eq_true', decide_eq_false_iff_not, beq_eq_false_iff_ne, bne_eq_false_iff_eq, not_true_eq_false, not_false_eq_true, if_true, if_false, reduceIte, and_true, true_and, and_false, false_and, or_false, false_or, or_true, true_or, List.getD_cons_zero, List.getD_cons_succ, List.length_cons, List.length_nil, List.cons_append, List.nil_append, Nat.reduceAdd, Nat.reduceEqDiff, reduceCtorEq, Bool.not_true, Bool.not_false, Bool.true_and, Bool.and_true, Bool.false_and, Bool.and_false, Bool.or_true, Bool.true_or, Bool.or_false, Bool.false_or, Bool.false_eq_true, Bool.true_eq_false, Sc.int_i, Sc.bool_b, Sc.list_l, Sc.str_s, Int.reduceEq, Int.reduceLT, Int.reduceLE, Int.reduceNe, decide_true, decide_false, decide_not, eq_self, Classical.not_not, List.getElem?_cons_zero, List.getElem?_cons_succ, beq_self_eq_true, bne_self_eq_false]
  | some ds =>
    have hdl := devO_len hd
    have hp := rprod_O ds ds (devO_fit hd) (devO_fit hd) rfl (by omega)
    cases hs : prodO (ds.zip ds) with
    | none =>
      rw [hs] at hp
      simp only [h1, h2, enc_some, enc_none, encL_some, encL_none, hp, hs, Int.natCast_nonneg, bne_iff_ne, beq_iff_eq, ne_eq, decide_eq_true_eq, Bool.and_eq_true, Bool.or_eq_true, Bool.not_eq_true', decide_eq_false_iff_not, beq_eq_false_iff_ne, bne_eq_false_iff_eq, not_true_eq_false, not_false_eq_true, if_true, if_false, reduceIte, and_true, true_and, and_false, false_and, or_false, false_or, or_true, true_or, List.getD_cons_zero, List.getD_cons_succ, List.length_cons, List.length_nil, List.cons_append, List.nil_append, Nat.reduceAdd, Nat.reduceEqDiff, reduceCtorEq, Bool.not_true, Bool.not_false, Bool.true_and, Bool.and_true, Bool.false_and, Bool.and_false, Bool.or_true, Bool.true_or, Bool.or_false, Bool.false_or, Bool.false_eq_true, Bool.true_eq_false, Sc.int_i, Sc.bool_b, Sc.list_l, Sc.str_s, Int.reduceEq, Int.reduceLT, Int.reduceLE, Int.reduceNe, decide_true, decide_false, decide_not, eq_self, Classical.not_not, List.getElem?_cons_zero, List.getElem?_cons_succ, beq_self_eq_true, bne_self_eq_false]
    | some s =>
      rw [hs] at hp
      have fs := prodO_fit hs
      have hn : (((ps.length - 1 : Nat) : Int)).natAbs ≤ maxN := by unfold maxN; omega
      have wn : IntKind.i64.wrap ((ps.length : Int) - 1) = ((ps.length - 1 : Nat) : Int) := by rw [wrI (by omega) (by omega)]; omega
      have d := rdiv_O (FP_pr fs) (FP_pr (whole_fit hn))
      rw [valP_pr fs, valP_pr (whole_fit hn), whole_pr, nat_rat] at d
      obtain ⟨x, y, z, e⟩ := enc_form (divO (some s) (some ((ps.length - 1 : Nat) : Rat)))
      rw [e] at d
      simp only [pr] at d
      simp only [h1, h2, enc_some, enc_none, encL_some, encL_none, hp, hs, wn, d, e, Int.natCast_nonneg, bne_iff_ne, beq_iff_eq, ne_eq, decide_eq_true_eq, Bool.and_eq_true, Bool.or_eq_true, Bool.not_eq_true', decide_eq_false_iff_not, beq_eq_false_iff_ne, bne_eq_false_iff_eq, not_true_eq_false, not_false_eq_true, if_true, if_false, reduceIte, and_true, true_and, and_false, false_and, or_false, false_or, or_true, true_or, List.getD_cons_zero, List.getD_cons_succ, List.length_cons, List.length_nil, List.cons_append, List.nil_append, Nat.reduceAdd, Nat.reduceEqDiff, reduceCtorEq, Bool.not_true, Bool.not_false, Bool.true_and, Bool.and_true, Bool.false_and, Bool.and_false, Bool.or_true, Bool.true_or, Bool.or_false, Bool.false_or, Bool.false_eq_true, Bool.true_eq_false, Sc.int_i, Sc.bool_b, Sc.list_l, Sc.str_s, Int.reduceEq, Int.reduceLT, Int.reduceLE, Int.reduceNe, decide_true, decide_false, decide_not, eq_self, Classical.not_not, List.getElem?_cons_zero, List.getElem?_cons_succ, beq_self_eq_true, bne_self_eq_false]
end Go.Proofs.YtchnhfnnlkncdaaDoor
