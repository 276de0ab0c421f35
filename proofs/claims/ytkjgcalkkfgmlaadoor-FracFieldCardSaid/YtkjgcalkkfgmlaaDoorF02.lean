/-
  The laws of a field: the run. 
-/
import Derived.Test.YtkjgcalkkfgmlaaDoorA02
import Derived.Test.YtkjgcalkkfgmlaaDoorFlF
import Derived.Test.YtkjgcalkkfgmlaaDoorK02f
namespace Go.Proofs.YtkjgcalkkfgmlaaDoor
set_option linter.unusedSimpArgs false
set_option linter.unusedVariables false

theorem int_n (z : Int) : (Sc.i z).int = z := id rfl
theorem bool_n (z : Bool) : (Sc.b z).bool = z := id rfl
theorem list_n (z : List Sc) : (Sc.l z).list = z := id rfl
def outP (o : Option Rat) : Int × Int := match o with | some q => pr q | none => (0, 0)
theorem enc_out (o : Option Rat) : enc o = [.i (outP o).1, .i (outP o).2, .b o.isSome] := by
  cases o <;> rfl
def fitR (o : Option Rat) : Prop := ∀ q, o = some q → fitQ q = true
theorem val_out {o : Option Rat} (h : fitR o) : valP (outP o) = o := by
  cases o with
  | none => exact valP_zero
  | some q => exact valP_pr (h q rfl)
theorem fp_out {o : Option Rat} (h : fitR o) : FP (outP o) := by
  cases o with
  | none => exact ⟨⟨by simp only [outP]; omega, by simp only [outP]; omega⟩, ⟨by simp only [outP]; omega, by simp only [outP]; omega⟩⟩
  | some q => exact fit_i64 (h q rfl)
theorem fits_fitO (q : Rat) : fitR (fitO q) := by
  intro r h
  unfold fitO at h
  split at h
  · cases h; assumption
  · cases h
theorem fits_add (a b : Option Rat) : fitR (addO a b) := by
  cases a <;> cases b <;> first | exact fits_fitO _ | (intro q h; cases h)
theorem fits_mul (a b : Option Rat) : fitR (mulO a b) := by
  cases a <;> cases b <;> first | exact fits_fitO _ | (intro q h; cases h)
theorem fits_val (p : Int × Int) : fitR (valP p) := fun q h => (valP_some h).2
theorem add_comm_O (a b : Option Rat) : addO b a = addO a b := by
  cases a <;> cases b <;> first | rfl | (simp only [addO]; rw [Rat.add_comm])
theorem mul_comm_O (a b : Option Rat) : mulO b a = mulO a b := by
  cases a <;> cases b <;> first | rfl | (simp only [mulO]; rw [Rat.mul_comm])
theorem fitO_self {q : Rat} (h : fitQ q = true) : fitO q = some q := if_pos h
theorem some_add {a b : Option Rat} (h : (addO a b).isSome = true) : ∃ q r, a = some q ∧ b = some r ∧ addO a b = some (q + r) := by
  cases a with
  | none => simp [addO] at h
  | some q => cases b with
    | none => simp [addO] at h
    | some r =>
      refine ⟨q, r, rfl, rfl, ?_⟩
      simp only [addO, fitO] at h ⊢
      split at h
      · rename_i c; rw [if_pos c]
      · cases h
theorem some_mul {a b : Option Rat} (h : (mulO a b).isSome = true) : ∃ q r, a = some q ∧ b = some r ∧ mulO a b = some (q * r) := by
  cases a with
  | none => simp [mulO] at h
  | some q => cases b with
    | none => simp [mulO] at h
    | some r =>
      refine ⟨q, r, rfl, rfl, ?_⟩
      simp only [mulO, fitO] at h ⊢
      split at h
      · rename_i c; rw [if_pos c]
      · cases h
theorem sub_add {p q : Int × Int} (h : (addO (valP p) (valP q)).isSome = true) : subO (addO (valP p) (valP q)) (valP q) = valP p ∧ (valP p).isSome = true ∧ outP (valP p) = p := by
  obtain ⟨x, y, ha, hb, e⟩ := some_add h
  obtain ⟨e1, f1⟩ := valP_some ha
  rw [e, ha, hb]
  refine ⟨?_, rfl, e1.symm⟩
  simp only [subO]
  have : x + y - y = x := by grind
  rw [this, fitO_self f1]
theorem div_mul {p q : Int × Int} (h : (mulO (valP p) (valP q)).isSome = true) (h0 : q.1 ≠ 0) : divO (mulO (valP p) (valP q)) (valP q) = valP p ∧ (valP p).isSome = true ∧ outP (valP p) = p := by
  obtain ⟨x, y, ha, hb, e⟩ := some_mul h
  obtain ⟨e1, f1⟩ := valP_some ha
  obtain ⟨e2, f2⟩ := valP_some hb
  rw [e, ha, hb]
  refine ⟨?_, rfl, e1.symm⟩
  have hy : y ≠ 0 := by
    rintro rfl
    exact h0 (by rw [e2]; rfl)
  simp only [divO]
  rw [if_neg hy]
  have : x * y / y = x := by grind
  rw [this, fitO_self f1]
theorem assoc_O {a b c : Option Rat} (h1 : (addO a b).isSome = true) (h2 : (addO b c).isSome = true) (h3 : (addO (addO a b) c).isSome = true) (h4 : (addO a (addO b c)).isSome = true) : addO (addO a b) c = addO a (addO b c) := by
  obtain ⟨x, y, rfl, rfl, e1⟩ := some_add h1
  obtain ⟨y', z, e0, rfl, e2⟩ := some_add h2
  cases e0
  rw [e1] at h3 ⊢
  rw [e2] at h4 ⊢
  simp only [addO] at *
  rw [Rat.add_assoc]
theorem dist_O {a b c : Option Rat} (h1 : (addO b c).isSome = true) (h2 : (mulO a b).isSome = true) (h3 : (mulO a c).isSome = true) : mulO a (addO b c) = addO (mulO a b) (mulO a c) := by
  obtain ⟨x, y, rfl, rfl, e1⟩ := some_mul h2
  obtain ⟨x', z, e0, rfl, e2⟩ := some_mul h3
  cases e0
  obtain ⟨y', z', e3, e4, e5⟩ := some_add h1
  cases e3; cases e4
  rw [e5, e1, e2]
  simp only [addO, mulO]
  rw [Rat.mul_add]
theorem field_F (a b c : Int × Int) (ha : FP a) (hb : FP b) (hc : FP c) : k_simulatorlaw02_FracField.F [.i a.1, .i a.2, .i b.1, .i b.2, .i c.1, .i c.2] = some [.b true] := by
  have fab := fits_add (valP a) (valP b)
  have fbc := fits_add (valP b) (valP c)
  have fx := fits_mul (valP a) (valP b)
  have fz := fits_mul (valP a) (valP c)
  have d1 := fadd_O ha hb
  have d2 := fadd_O hb ha
  have d3 := fmul_O ha hb
  have d4 := fmul_O hb ha
  have d5 := fsub_O (fp_out fab) hb
  have d6 := fdiv_O (fp_out fx) hb
  have d7 := fadd_O hb hc
  have d8 := fadd_O (fp_out fab) hc
  have d9 := fadd_O ha (fp_out fbc)
  have d10 := fmul_O ha hc
  have d11 := fmul_O ha (fp_out fbc)
  have d12 := fadd_O (fp_out fx) (fp_out fz)
  rw [val_out fab] at d5 d8
  rw [val_out fx] at d6 d12
  rw [val_out fbc] at d9 d11
  rw [val_out fz] at d12
  rw [add_comm_O] at d2
  rw [mul_comm_O] at d4
  rw [enc_out] at d1 d2 d3 d4 d5 d6 d7 d8 d9 d10 d11 d12
  have s1 := sub_add (p := a) (q := b)
  have s2 := div_mul (p := a) (q := b)
  have s3 := assoc_O (a := valP a) (b := valP b) (c := valP c)
  have s4 := dist_O (a := valP a) (b := valP b) (c := valP c)
  generalize hA : addO (valP a) (valP b) = A at *
  generalize hX : mulO (valP a) (valP b) = X at *
  generalize hB : addO (valP b) (valP c) = B at *
  generalize hZ : mulO (valP a) (valP c) = Z at *
  generalize hS : subO A (valP b) = S at *
  generalize hD : divO X (valP b) = D at *
  generalize hL : addO A (valP c) = L at *
  generalize hR : addO (valP a) B = R at *
  generalize hO : mulO (valP a) B = O at *
  generalize hT : addO X Z = T at *
  generalize valP a = va at *
  simp only [k_simulatorlaw02_FracField_F, tk_simulatorlaw02_FracField, k_frac_Add_f, k_frac_Mul_f, k_frac_Sub_f, k_frac_Div_f, k_simulatorlaw02_awake_f, awake02, d1, d2, d3, d4, d5, d6, d7, d8, d9, d10, d11, d12, Go.Proofs.YtkjgcalkkfgmlaaDoor.T.den, Ex.ev, U1.ev, U2.ev, U3.ev, gam, List.map, List.getD_cons_zero, List.getD_cons_succ, List.length, List.cons_append, List.nil_append, if_true, int_n, bool_n, list_n, Sc.str_s, Nat.reduceEqDiff, if_false, List.getElem?_cons_zero, List.getElem?_cons_succ]
  simp only [Int.natCast_nonneg, bne_iff_ne, beq_iff_eq, ne_eq, decide_eq_true_eq, Bool.and_eq_true, Bool.or_eq_true, Bool.not_eq_true', decide_eq_false_iff_not, beq_eq_false_iff_ne, bne_eq_false_iff_eq, not_true_eq_false, not_false_eq_true, if_true, if_false, reduceIte, and_true, true_and, and_false, false_and, or_false, false_or, or_true, true_or, List.getD_cons_zero, List.getD_cons_succ, List.length_cons, List.length_nil, List.cons_append, List.nil_append, Nat.reduceAdd, Nat.reduceEqDiff, reduceCtorEq, Bool.not_true, Bool.not_false, Bool.true_and, Bool.and_true, Bool.false_and, Bool.and_false, Bool.or_true, Bool.true_or, Bool.or_false, Bool.false_or, Bool.false_eq_true, Bool.true_eq_false, int_n, bool_n, list_n, Sc.str_s, Int.reduceEq, Int.reduceLT, Int.reduceLE, Int.reduceNe, decide_true, decide_false, decide_not, eq_self, Classical.not_not, List.getElem?_cons_zero, List.getElem?_cons_succ, beq_self_eq_true, bne_self_eq_false]
  have q1 : A.isSome = true → ((outP S).fst == a.fst && (outP S).snd == a.snd) = true ∧ S.isSome = true := fun h => by
    obtain ⟨e1, e2, e3⟩ := s1 h
    rw [e1, e3]; simp [e2]
  have q2 : X.isSome = true → b.fst ≠ 0 → ((outP D).fst == a.fst && (outP D).snd == a.snd) = true ∧ D.isSome = true := fun h h0 => by
    obtain ⟨e1, e2, e3⟩ := s2 h h0
    rw [e1, e3]; simp [e2]
  have q3 : A.isSome = true → B.isSome = true → L.isSome = true → R.isSome = true → ((outP L).fst == (outP R).fst && (outP L).snd == (outP R).snd) = true := fun h1 h2 h3 h4 => by
    rw [s3 h1 h2 h3 h4]; simp
  have q4 : B.isSome = true → X.isSome = true → Z.isSome = true → ((outP O).fst = (outP T).fst ∧ (outP O).snd = (outP T).snd) := fun h1 h2 h3 => by
    rw [s4 h1 h2 h3]; exact ⟨rfl, rfl⟩
  clear s1 s2 s3 s4 hA hX hZ hR hO hT hL hD hS hB d1 d2 d3 d4 d5 d6 d7 d8 d9 d10 d11 d12 fab fbc fx fz
  generalize ((outP S).fst == a.fst && (outP S).snd == a.snd) = wS at *
  generalize ((outP D).fst == a.fst && (outP D).snd == a.snd) = wD at *
  generalize ((outP L).fst == (outP R).fst && (outP L).snd == (outP R).snd) = wL at *
  generalize A.isSome = bA at *
  generalize B.isSome = bB at *
  generalize X.isSome = bX at *
  generalize Z.isSome = bZ at *
  generalize S.isSome = bS at *
  generalize D.isSome = bD at *
  generalize L.isSome = bL at *
  generalize R.isSome = bR at *
  generalize O.isSome = bO at *
  generalize T.isSome = bT at *
  have first : (if bA = true then if wS = false then Sc.b true else if bS = false then Sc.b true else if bX = true then if ¬b.fst = 0 then if wD = false then Sc.b true else Sc.b !bD else Sc.b false else Sc.b false
      else if bX = true then if ¬b.fst = 0 then if wD = false then Sc.b true else Sc.b !bD else Sc.b false else Sc.b false) = Sc.b false := by
    have inner : (if bX = true then if ¬b.fst = 0 then if wD = false then Sc.b true else Sc.b !bD else Sc.b false else Sc.b false) = Sc.b false := by
      cases bX
      · rfl
      · by_cases h0 : b.fst = 0
        · simp [h0]
        · obtain ⟨e1, e2⟩ := q2 rfl h0
          simp [h0, e1, e2]
    rw [inner]
    cases bA
    · rfl
    · obtain ⟨e1, e2⟩ := q1 rfl
      simp [e1, e2]
  have second : (if bA = true then if bB = true then if bL = true then if bR = true then Sc.b !wL else Sc.b false else Sc.b false else Sc.b false else Sc.b false) = Sc.b false := by
    cases bA
    · rfl
    cases bB
    · rfl
    cases bL
    · rfl
    cases bR
    · rfl
    rw [q3 rfl rfl rfl rfl]; rfl
  rw [first, second]
  simp only [Int.natCast_nonneg, bne_iff_ne, beq_iff_eq, ne_eq, decide_eq_true_eq, Bool.and_eq_true, Bool.or_eq_true, Bool.not_eq_true', decide_eq_false_iff_not, beq_eq_false_iff_ne, bne_eq_false_iff_eq, not_true_eq_false, not_false_eq_true, if_true, if_false, reduceIte, and_true, true_and, and_false, false_and, or_false, false_or, or_true, true_or, List.getD_cons_zero, List.getD_cons_succ, List.length_cons, List.length_nil, List.cons_append, List.nil_append, Nat.reduceAdd, Nat.reduceEqDiff, reduceCtorEq, Bool.not_true, Bool.not_false, Bool.true_and, Bool.and_true, Bool.false_and, Bool.and_false, Bool.or_true, Bool.true_or, Bool.or_false, Bool.false_or, Bool.false_eq_true, Bool.true_eq_false, int_n, bool_n, list_n, Sc.str_s, Int.reduceEq, Int.reduceLT, Int.reduceLE, Int.reduceNe, decide_true, decide_false, decide_not, eq_self, Classical.not_not, List.getElem?_cons_zero, List.getElem?_cons_succ, beq_self_eq_true, bne_self_eq_false]
  cases bB
  · rfl
  cases bX
  · rfl
  cases bZ
  · rfl
  have q4 := q4 rfl rfl rfl
  cases bO
  · rfl
  cases bT
  · rfl
  simp [q4]

end Go.Proofs.YtkjgcalkkfgmlaaDoor
