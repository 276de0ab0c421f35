/-
  Chapter 49: what Contains, Above, Enough and their references return.
-/
import Derived.Test.YtchnhfnnlkncdaaDoorM49b
import Derived.Test.YtchnhfnnlkncdaaDoorFrCmp
import Derived.Test.YtchnhfnnlkncdaaDoorRfC
namespace Go.Proofs.YtchnhfnnlkncdaaDoor
set_option linter.unusedSimpArgs false

def absR (q : Rat) : Rat := if q < 0 then -q else q
theorem num_lt0 {q : Rat} : q.num < 0 ↔ q < 0 := by
  have h : 0 ≤ q.num ↔ 0 ≤ q := Rat.num_nonneg
  constructor
  · intro h1; exact Rat.not_le.1 fun h2 => by have := h.2 h2; omega
  · intro h1
    have : ¬ 0 ≤ q.num := fun h2 => absurd (h.1 h2) (Rat.not_le.2 h1)
    omega
theorem absR_fit {q : Rat} (h : fitQ q = true) : fitQ (absR q) = true := by
  unfold absR; split
  · rw [fit_neg]; exact h
  · exact h
theorem fsize49_F {q : Rat} (h : fitQ q = true) : k_interval_size.F [.i q.num, .i q.den] = some [.i (absR q).num, .i (absR q).den] := by
  obtain ⟨b1, b2, _, _⟩ := fit_bounds h
  have w : IntKind.i64.wrap (0 - q.num) = -q.num := by rw [wrI (by omega) (by omega)]; omega
  simp only [k_interval_size_F, tk_interval_size, w, Go.Proofs.YtchnhfnnlkncdaaDoor.T.den, Ex.ev, U1.ev, U2.ev, U3.ev, gam, List.map, List.getD_cons_zero, List.getD_cons_succ, List.length, List.cons_append, List.nil_append, if_true, Sc.int_i, Sc.bool_b, Sc.list_l, Sc.str_s, Nat.reduceEqDiff, if_false, List.getElem?_cons_zero, List.getElem?_cons_succ]
  unfold absR
  by_cases c : q < 0
  · rw [if_pos c]
    have := num_lt0.2 c
    have c2 : -q.num > q.num := by omega
    have e1 : (-q).num = -q.num := rfl
    have e2 : (-q).den = q.den := rfl
    rw [if_pos c2, e1, e2]
  · rw [if_neg c]
    have : ¬ q.num < 0 := fun x => c (num_lt0.1 x)
    have c2 : ¬ -q.num > q.num := by omega
    rw [if_neg c2]
theorem rsize49_F {q : Rat} (h : fitQ q = true) : k_simulatorref49_size.F [.i q.num, .i q.den] = some [.i (absR q).num, .i (absR q).den] := by
  obtain ⟨b1, b2, _, _⟩ := fit_bounds h
  have w : IntKind.i64.wrap (0 - q.num) = -q.num := by rw [wrI (by omega) (by omega)]; omega
  have o := rOpp_F q.num q.den
  rw [w] at o
  simp only [k_simulatorref49_size_F, tk_simulatorref49_size, k_simulatorref02_Opposite_f, o, Go.Proofs.YtchnhfnnlkncdaaDoor.T.den, Ex.ev, U1.ev, U2.ev, U3.ev, gam, List.map, List.getD_cons_zero, List.getD_cons_succ, List.length, List.cons_append, List.nil_append, if_true, Sc.int_i, Sc.bool_b, Sc.list_l, Sc.str_s, Nat.reduceEqDiff, if_false, List.getElem?_cons_zero, List.getElem?_cons_succ]
  unfold absR
  by_cases c : q < 0
  · rw [if_pos c]
    have c1 := num_lt0.2 c
    have e1 : (-q).num = -q.num := rfl
    have e2 : (-q).den = q.den := rfl
    rw [e1, e2]
    simp only [c1, Int.natCast_nonneg, bne_iff_ne, beq_iff_eq, ne_eq, decide_eq_true_eq, Bool.and_eq_true, Bool.or_eq_true, Bool.not_eq_true', decide_eq_false_iff_not, beq_eq_false_iff_ne, bne_eq_false_iff_eq, not_true_eq_false, not_false_eq_true, if_true, if_false, reduceIte, and_true, true_and, and_false, false_and, or_false, false_or, or_true, true_or, List.getD_cons_zero, List.getD_cons_succ, List.length_cons, List.length_nil, List.cons_append, List.nil_append, Nat.reduceAdd, Nat.reduceEqDiff, reduceCtorEq, Bool.not_true, Bool.not_false, Bool.true_and, Bool.and_true, Bool.false_and, Bool.and_false, Bool.or_true, Bool.true_or, Bool.or_false, Bool.false_or, Bool.false_eq_true, Bool.true_eq_false, Sc.int_i, Sc.bool_b, Sc.list_l, Sc.str_s, Int.reduceEq, Int.reduceLT, Int.reduceLE, Int.reduceNe, decide_true, decide_false, decide_not, eq_self, Classical.not_not, List.getElem?_cons_zero, List.getElem?_cons_succ, beq_self_eq_true, bne_self_eq_false]
  · rw [if_neg c]
    have c1 : ¬ q.num < 0 := fun x => c (num_lt0.1 x)
    simp only [c1, Int.natCast_nonneg, bne_iff_ne, beq_iff_eq, ne_eq, decide_eq_true_eq, Bool.and_eq_true, Bool.or_eq_true, Bool.not_eq_true', decide_eq_false_iff_not, beq_eq_false_iff_ne, bne_eq_false_iff_eq, not_true_eq_false, not_false_eq_true, if_true, if_false, reduceIte, and_true, true_and, and_false, false_and, or_false, false_or, or_true, true_or, List.getD_cons_zero, List.getD_cons_succ, List.length_cons, List.length_nil, List.cons_append, List.nil_append, Nat.reduceAdd, Nat.reduceEqDiff, reduceCtorEq, Bool.not_true, Bool.not_false, Bool.true_and, Bool.and_true, Bool.false_and, Bool.and_false, Bool.or_true, Bool.true_or, Bool.or_false, Bool.false_or, Bool.false_eq_true, Bool.true_eq_false, Sc.int_i, Sc.bool_b, Sc.list_l, Sc.str_s, Int.reduceEq, Int.reduceLT, Int.reduceLE, Int.reduceNe, decide_true, decide_false, decide_not, eq_self, Classical.not_not, List.getElem?_cons_zero, List.getElem?_cons_succ, beq_self_eq_true, bne_self_eq_false]
theorem valP_ok {p : Int × Int} {q : Rat} (h : valP p = some q) : okF p.1 p.2 = true ∧ usualQ p.1 p.2 = q := by
  obtain ⟨h1, h2⟩ := valP_some h
  rw [h1]; exact ⟨okF_of h2, usual_ok h2⟩
theorem valP_bad {p : Int × Int} (h : valP p = none) : okF p.1 p.2 = false := by
  unfold valP at h
  cases ho : okF p.1 p.2
  · rfl
  · rw [ho, if_pos rfl] at h; cases h
theorem valid_O (p : Int × Int) (hp : FP p) : k_interval_valid.F [.i p.1, .i p.2, .i p.1, .i p.2] = some [.b (okF p.1 p.2)] := by
  have v := valid_F p.1 p.2 hp.1 hp.2
  simp only [k_interval_valid_F, tk_interval_valid, k_frac_Valid_f, v, Go.Proofs.YtchnhfnnlkncdaaDoor.T.den, Ex.ev, U1.ev, U2.ev, U3.ev, gam, List.map, List.getD_cons_zero, List.getD_cons_succ, List.length, List.cons_append, List.nil_append, if_true, Sc.int_i, Sc.bool_b, Sc.list_l, Sc.str_s, Nat.reduceEqDiff, if_false, List.getElem?_cons_zero, List.getElem?_cons_succ]
  cases okF p.1 p.2 <;> simp only [Int.natCast_nonneg, bne_iff_ne, beq_iff_eq, ne_eq, decide_eq_true_eq, Bool.and_eq_true, Bool.or_eq_true, Bool.not_eq_true', decide_eq_false_iff_not, beq_eq_false_iff_ne, bne_eq_false_iff_eq, not_true_eq_false, not_false_eq_true, if_true, if_false, reduceIte, and_true, true_and, and_false, false_and, or_false, false_or, or_true, true_or, List.getD_cons_zero, List.getD_cons_succ, List.length_cons, List.length_nil, List.cons_append, List.nil_append, Nat.reduceAdd, Nat.reduceEqDiff, reduceCtorEq, Bool.not_true, Bool.not_false, Bool.true_and, Bool.and_true, Bool.false_and, Bool.and_false, Bool.or_true, Bool.true_or, Bool.or_false, Bool.false_or, Bool.false_eq_true, Bool.true_eq_false, Sc.int_i, Sc.bool_b, Sc.list_l, Sc.str_s, Int.reduceEq, Int.reduceLT, Int.reduceLE, Int.reduceNe, decide_true, decide_false, decide_not, eq_self, Classical.not_not, List.getElem?_cons_zero, List.getElem?_cons_succ, beq_self_eq_true, bne_self_eq_false]
theorem valid2_O (p q : Int × Int) (hp : FP p) (hq : FP q) : k_interval_valid.F [.i p.1, .i p.2, .i q.1, .i q.2] = some [.b (okF p.1 p.2 && okF q.1 q.2)] := by
  have v := valid_F p.1 p.2 hp.1 hp.2
  have w := valid_F q.1 q.2 hq.1 hq.2
  simp only [k_interval_valid_F, tk_interval_valid, k_frac_Valid_f, v, w, Go.Proofs.YtchnhfnnlkncdaaDoor.T.den, Ex.ev, U1.ev, U2.ev, U3.ev, gam, List.map, List.getD_cons_zero, List.getD_cons_succ, List.length, List.cons_append, List.nil_append, if_true, Sc.int_i, Sc.bool_b, Sc.list_l, Sc.str_s, Nat.reduceEqDiff, if_false, List.getElem?_cons_zero, List.getElem?_cons_succ]
  cases okF p.1 p.2 <;> simp only [Int.natCast_nonneg, bne_iff_ne, beq_iff_eq, ne_eq, decide_eq_true_eq, Bool.and_eq_true, Bool.or_eq_true, Bool.not_eq_true', decide_eq_false_iff_not, beq_eq_false_iff_ne, bne_eq_false_iff_eq, not_true_eq_false, not_false_eq_true, if_true, if_false, reduceIte, and_true, true_and, and_false, false_and, or_false, false_or, or_true, true_or, List.getD_cons_zero, List.getD_cons_succ, List.length_cons, List.length_nil, List.cons_append, List.nil_append, Nat.reduceAdd, Nat.reduceEqDiff, reduceCtorEq, Bool.not_true, Bool.not_false, Bool.true_and, Bool.and_true, Bool.false_and, Bool.and_false, Bool.or_true, Bool.true_or, Bool.or_false, Bool.false_or, Bool.false_eq_true, Bool.true_eq_false, Sc.int_i, Sc.bool_b, Sc.list_l, Sc.str_s, Int.reduceEq, Int.reduceLT, Int.reduceLE, Int.reduceNe, decide_true, decide_false, decide_not, eq_self, Classical.not_not, List.getElem?_cons_zero, List.getElem?_cons_succ, beq_self_eq_true, bne_self_eq_false]
def containsB (m h x : Int × Int) : Bool := match subO (valP x) (valP m) with
  | some d => okF h.1 h.2 && decide (cmpQ (absR d) (usualQ h.1 h.2) ≤ 0)
  | none => false
theorem fcontains_F (m h x : Int × Int) (hm : FP m) (hh : FP h) (hx : FP x) : k_interval_Contains.F [.i m.1, .i m.2, .i h.1, .i h.2, .i x.1, .i x.2] = some [.b (containsB m h x)] := by
  have s := fsub_O hx hm
  have v := valid2_O m h hm hh
  simp only [k_interval_Contains_F, tk_interval_Contains, k_frac_Sub_f, k_interval_valid_f, k_interval_size_f, k_frac_Cmp_f, s, v, Go.Proofs.YtchnhfnnlkncdaaDoor.T.den, Ex.ev, U1.ev, U2.ev, U3.ev, gam, List.map, List.getD_cons_zero, List.getD_cons_succ, List.length, List.cons_append, List.nil_append, if_true, Sc.int_i, Sc.bool_b, Sc.list_l, Sc.str_s, Nat.reduceEqDiff, if_false, List.getElem?_cons_zero, List.getElem?_cons_succ]
  unfold containsB
  cases hs : subO (valP x) (valP m) with
  | none => simp only [enc_none, Int.natCast_nonneg, bne_iff_ne, beq_iff_eq, ne_eq, decide_eq_true_eq, Bool.and_eq_true, Bool.or_eq_true, Bool.not_eq_true', decide_eq_false_iff_not, beq_eq_false_iff_ne, bne_eq_false_iff_eq, not_true_eq_false, not_false_eq_true, if_true, if_false, reduceIte, and_true, true_and, and_false, false_and, or_false, false_or, or_true, true_or, List.getD_cons_zero, List.getD_cons_succ, List.length_cons, List.length_nil, List.cons_append, List.nil_append, Nat.reduceAdd, Nat.reduceEqDiff, reduceCtorEq, Bool.not_true, Bool.not_false, Bool.true_and, Bool.and_true, Bool.false_and, Bool.and_false, Bool.or_true, Bool.true_or, Bool.or_false, Bool.false_or, Bool.false_eq_true, Bool.true_eq_false, Sc.int_i, Sc.bool_b, Sc.list_l, Sc.str_s, Int.reduceEq, Int.reduceLT, Int.reduceLE, Int.reduceNe, decide_true, decide_false, decide_not, eq_self, Classical.not_not, List.getElem?_cons_zero, List.getElem?_cons_succ, beq_self_eq_true, bne_self_eq_false]
  | some d =>
    obtain ⟨a, b, _, h2, _⟩ := subO_some hs
    have fd := subO_fit hs
    have z := fsize49_F fd
    obtain ⟨i1, i2⟩ := fit_i64 (absR_fit fd)
    have c := cmp_F (absR d).num (absR d).den h.1 h.2 i1 i2 hh.1 hh.2
    rw [usual_ok (absR_fit fd)] at c
    rw [(valP_ok h2).1]
    cases okF h.1 h.2
    · simp only [enc_some, Int.natCast_nonneg, bne_iff_ne, beq_iff_eq, ne_eq, decide_eq_true_eq, Bool.and_eq_true, Bool.or_eq_true, Bool.not_eq_true', decide_eq_false_iff_not, beq_eq_false_iff_ne, bne_eq_false_iff_eq, not_true_eq_false, not_false_eq_true, if_true, if_false, reduceIte, and_true, true_and, and_false, false_and, or_false, false_or, or_true, true_or, List.getD_cons_zero, List.getD_cons_succ, List.length_cons, List.length_nil, List.cons_append, List.nil_append, Nat.reduceAdd, Nat.reduceEqDiff, reduceCtorEq, Bool.not_true, Bool.not_false, Bool.true_and, Bool.and_true, Bool.false_and, Bool.and_false, Bool.or_true, Bool.true_or, Bool.or_false, Bool.false_or, Bool.false_eq_true, Bool.true_eq_false, Sc.int_i, Sc.bool_b, Sc.list_l, Sc.str_s, Int.reduceEq, Int.reduceLT, Int.reduceLE, Int.reduceNe, decide_true, decide_false, decide_not, eq_self, Classical.not_not, List.getElem?_cons_zero, List.getElem?_cons_succ, beq_self_eq_true, bne_self_eq_false]
    · simp only [enc_some, z, c, Int.natCast_nonneg, bne_iff_ne, beq_iff_eq, ne_eq, decide_eq_true_eq, Bool.and_eq_true, Bool.or_eq_true, Bool.not_eq_true', decide_eq_false_iff_not, beq_eq_false_iff_ne, bne_eq_false_iff_eq, not_true_eq_false, not_false_eq_true, if_true, if_false, reduceIte, and_true, true_and, and_false, false_and, or_false, false_or, or_true, true_or, List.getD_cons_zero, List.getD_cons_succ, List.length_cons, List.length_nil, List.cons_append, List.nil_append, Nat.reduceAdd, Nat.reduceEqDiff, reduceCtorEq, Bool.not_true, Bool.not_false, Bool.true_and, Bool.and_true, Bool.false_and, Bool.and_false, Bool.or_true, Bool.true_or, Bool.or_false, Bool.false_or, Bool.false_eq_true, Bool.true_eq_false, Sc.int_i, Sc.bool_b, Sc.list_l, Sc.str_s, Int.reduceEq, Int.reduceLT, Int.reduceLE, Int.reduceNe, decide_true, decide_false, decide_not, eq_self, Classical.not_not, List.getElem?_cons_zero, List.getElem?_cons_succ, beq_self_eq_true, bne_self_eq_false]
theorem rcontains_F (m h x : Int × Int) (hm : FP m) (hh : FP h) (hx : FP x) : k_simulatorref49_Contains.F [.i m.1, .i m.2, .i h.1, .i h.2, .i x.1, .i x.2] = some [.b (containsB m h x)] := by
  have s := rsub_O hx hm
  have v := rValid_F h.1 h.2 hh.1 hh.2
  simp only [k_simulatorref49_Contains_F, tk_simulatorref49_Contains, k_simulatorref02_Sub_f, k_simulatorref02_Valid_f, k_simulatorref49_size_f, k_simulatorref02_Cmp_f, s, v, Go.Proofs.YtchnhfnnlkncdaaDoor.T.den, Ex.ev, U1.ev, U2.ev, U3.ev, gam, List.map, List.getD_cons_zero, List.getD_cons_succ, List.length, List.cons_append, List.nil_append, if_true, Sc.int_i, Sc.bool_b, Sc.list_l, Sc.str_s, Nat.reduceEqDiff, if_false, List.getElem?_cons_zero, List.getElem?_cons_succ]
  unfold containsB
  cases hs : subO (valP x) (valP m) with
  | none => simp only [enc_none, Int.natCast_nonneg, bne_iff_ne, beq_iff_eq, ne_eq, decide_eq_true_eq, Bool.and_eq_true, Bool.or_eq_true, Bool.not_eq_true', decide_eq_false_iff_not, beq_eq_false_iff_ne, bne_eq_false_iff_eq, not_true_eq_false, not_false_eq_true, if_true, if_false, reduceIte, and_true, true_and, and_false, false_and, or_false, false_or, or_true, true_or, List.getD_cons_zero, List.getD_cons_succ, List.length_cons, List.length_nil, List.cons_append, List.nil_append, Nat.reduceAdd, Nat.reduceEqDiff, reduceCtorEq, Bool.not_true, Bool.not_false, Bool.true_and, Bool.and_true, Bool.false_and, Bool.and_false, Bool.or_true, Bool.true_or, Bool.or_false, Bool.false_or, Bool.false_eq_true, Bool.true_eq_false, Sc.int_i, Sc.bool_b, Sc.list_l, Sc.str_s, Int.reduceEq, Int.reduceLT, Int.reduceLE, Int.reduceNe, decide_true, decide_false, decide_not, eq_self, Classical.not_not, List.getElem?_cons_zero, List.getElem?_cons_succ, beq_self_eq_true, bne_self_eq_false]
  | some d =>
    have fd := subO_fit hs
    have z := rsize49_F fd
    obtain ⟨i1, i2⟩ := fit_i64 (absR_fit fd)
    have c := rCmp_F (absR d).num (absR d).den h.1 h.2 i1 i2 hh.1 hh.2
    rw [usual_ok (absR_fit fd)] at c
    cases okF h.1 h.2
    · simp only [enc_some, Int.natCast_nonneg, bne_iff_ne, beq_iff_eq, ne_eq, decide_eq_true_eq, Bool.and_eq_true, Bool.or_eq_true, Bool.not_eq_true', decide_eq_false_iff_not, beq_eq_false_iff_ne, bne_eq_false_iff_eq, not_true_eq_false, not_false_eq_true, if_true, if_false, reduceIte, and_true, true_and, and_false, false_and, or_false, false_or, or_true, true_or, List.getD_cons_zero, List.getD_cons_succ, List.length_cons, List.length_nil, List.cons_append, List.nil_append, Nat.reduceAdd, Nat.reduceEqDiff, reduceCtorEq, Bool.not_true, Bool.not_false, Bool.true_and, Bool.and_true, Bool.false_and, Bool.and_false, Bool.or_true, Bool.true_or, Bool.or_false, Bool.false_or, Bool.false_eq_true, Bool.true_eq_false, Sc.int_i, Sc.bool_b, Sc.list_l, Sc.str_s, Int.reduceEq, Int.reduceLT, Int.reduceLE, Int.reduceNe, decide_true, decide_false, decide_not, eq_self, Classical.not_not, List.getElem?_cons_zero, List.getElem?_cons_succ, beq_self_eq_true, bne_self_eq_false]
    · simp only [enc_some, z, c, Int.natCast_nonneg, bne_iff_ne, beq_iff_eq, ne_eq, decide_eq_true_eq, Bool.and_eq_true, Bool.or_eq_true, Bool.not_eq_true', decide_eq_false_iff_not, beq_eq_false_iff_ne, bne_eq_false_iff_eq, not_true_eq_false, not_false_eq_true, if_true, if_false, reduceIte, and_true, true_and, and_false, false_and, or_false, false_or, or_true, true_or, List.getD_cons_zero, List.getD_cons_succ, List.length_cons, List.length_nil, List.cons_append, List.nil_append, Nat.reduceAdd, Nat.reduceEqDiff, reduceCtorEq, Bool.not_true, Bool.not_false, Bool.true_and, Bool.and_true, Bool.false_and, Bool.and_false, Bool.or_true, Bool.true_or, Bool.or_false, Bool.false_or, Bool.false_eq_true, Bool.true_eq_false, Sc.int_i, Sc.bool_b, Sc.list_l, Sc.str_s, Int.reduceEq, Int.reduceLT, Int.reduceLE, Int.reduceNe, decide_true, decide_false, decide_not, eq_self, Classical.not_not, List.getElem?_cons_zero, List.getElem?_cons_succ, beq_self_eq_true, bne_self_eq_false]
def aboveB (m h n k : Int × Int) : Bool := match subO (valP m) (valP h), addO (valP n) (valP k) with
  | some a, some b => decide (0 < cmpQ a b)
  | _, _ => false
theorem fabove_F (m h n k : Int × Int) (hm : FP m) (hh : FP h) (hn : FP n) (hk : FP k) : k_interval_Above.F [.i m.1, .i m.2, .i h.1, .i h.2, .i n.1, .i n.2, .i k.1, .i k.2] = some [.b (aboveB m h n k)] := by
  have s := fsub_O hm hh
  have a := fadd_O hn hk
  simp only [k_interval_Above_F, tk_interval_Above, k_frac_Sub_f, k_frac_Add_f, k_frac_Cmp_f, s, a, Go.Proofs.YtchnhfnnlkncdaaDoor.T.den, Ex.ev, U1.ev, U2.ev, U3.ev, gam, List.map, List.getD_cons_zero, List.getD_cons_succ, List.length, List.cons_append, List.nil_append, if_true, Sc.int_i, Sc.bool_b, Sc.list_l, Sc.str_s, Nat.reduceEqDiff, if_false, List.getElem?_cons_zero, List.getElem?_cons_succ]
  unfold aboveB
  cases hs : subO (valP m) (valP h) with
  | none =>
    obtain ⟨x, y, z, e⟩ := enc_form (addO (valP n) (valP k))
    rw [e]
    simp only [enc_none, Int.natCast_nonneg, bne_iff_ne, beq_iff_eq, ne_eq, decide_eq_true_eq, Bool.and_eq_true, Bool.or_eq_true, Bool.not_eq_true', decide_eq_false_iff_not, beq_eq_false_iff_ne, bne_eq_false_iff_eq, not_true_eq_false, not_false_eq_true, if_true, if_false, reduceIte, and_true, true_and, and_false, false_and, or_false, false_or, or_true, true_or, List.getD_cons_zero, List.getD_cons_succ, List.length_cons, List.length_nil, List.cons_append, List.nil_append, Nat.reduceAdd, Nat.reduceEqDiff, reduceCtorEq, Bool.not_true, Bool.not_false, Bool.true_and, Bool.and_true, Bool.false_and, Bool.and_false, Bool.or_true, Bool.true_or, Bool.or_false, Bool.false_or, Bool.false_eq_true, Bool.true_eq_false, Sc.int_i, Sc.bool_b, Sc.list_l, Sc.str_s, Int.reduceEq, Int.reduceLT, Int.reduceLE, Int.reduceNe, decide_true, decide_false, decide_not, eq_self, Classical.not_not, List.getElem?_cons_zero, List.getElem?_cons_succ, beq_self_eq_true, bne_self_eq_false]
  | some u =>
    cases ha : addO (valP n) (valP k) with
    | none => simp only [enc_some, enc_none, Int.natCast_nonneg, bne_iff_ne, beq_iff_eq, ne_eq, decide_eq_true_eq, Bool.and_eq_true, Bool.or_eq_true, Bool.not_eq_true', decide_eq_false_iff_not, beq_eq_false_iff_ne, bne_eq_false_iff_eq, not_true_eq_false, not_false_eq_true, if_true, if_false, reduceIte, and_true, true_and, and_false, false_and, or_false, false_or, or_true, true_or, List.getD_cons_zero, List.getD_cons_succ, List.length_cons, List.length_nil, List.cons_append, List.nil_append, Nat.reduceAdd, Nat.reduceEqDiff, reduceCtorEq, Bool.not_true, Bool.not_false, Bool.true_and, Bool.and_true, Bool.false_and, Bool.and_false, Bool.or_true, Bool.true_or, Bool.or_false, Bool.false_or, Bool.false_eq_true, Bool.true_eq_false, Sc.int_i, Sc.bool_b, Sc.list_l, Sc.str_s, Int.reduceEq, Int.reduceLT, Int.reduceLE, Int.reduceNe, decide_true, decide_false, decide_not, eq_self, Classical.not_not, List.getElem?_cons_zero, List.getElem?_cons_succ, beq_self_eq_true, bne_self_eq_false]
    | some w =>
      have f1 := subO_fit hs
      have f2 := addO_fit ha
      obtain ⟨i1, i2⟩ := fit_i64 f1
      obtain ⟨i3, i4⟩ := fit_i64 f2
      have c := cmp_F u.num u.den w.num w.den i1 i2 i3 i4
      rw [usual_ok f1, usual_ok f2] at c
      simp only [enc_some, c, Int.natCast_nonneg, bne_iff_ne, beq_iff_eq, ne_eq, decide_eq_true_eq, Bool.and_eq_true, Bool.or_eq_true, Bool.not_eq_true', decide_eq_false_iff_not, beq_eq_false_iff_ne, bne_eq_false_iff_eq, not_true_eq_false, not_false_eq_true, if_true, if_false, reduceIte, and_true, true_and, and_false, false_and, or_false, false_or, or_true, true_or, List.getD_cons_zero, List.getD_cons_succ, List.length_cons, List.length_nil, List.cons_append, List.nil_append, Nat.reduceAdd, Nat.reduceEqDiff, reduceCtorEq, Bool.not_true, Bool.not_false, Bool.true_and, Bool.and_true, Bool.false_and, Bool.and_false, Bool.or_true, Bool.true_or, Bool.or_false, Bool.false_or, Bool.false_eq_true, Bool.true_eq_false, Sc.int_i, Sc.bool_b, Sc.list_l, Sc.str_s, Int.reduceEq, Int.reduceLT, Int.reduceLE, Int.reduceNe, decide_true, decide_false, decide_not, eq_self, Classical.not_not, List.getElem?_cons_zero, List.getElem?_cons_succ, beq_self_eq_true, bne_self_eq_false]
theorem rabove_F (m h n k : Int × Int) (hm : FP m) (hh : FP h) (hn : FP n) (hk : FP k) : k_simulatorref49_Above.F [.i m.1, .i m.2, .i h.1, .i h.2, .i n.1, .i n.2, .i k.1, .i k.2] = some [.b (aboveB m h n k)] := by
  have s := rsub_O hm hh
  have a := radd_O hn hk
  simp only [k_simulatorref49_Above_F, tk_simulatorref49_Above, k_simulatorref02_Sub_f, k_simulatorref02_Add_f, k_simulatorref02_Cmp_f, s, a, Go.Proofs.YtchnhfnnlkncdaaDoor.T.den, Ex.ev, U1.ev, U2.ev, U3.ev, gam, List.map, List.getD_cons_zero, List.getD_cons_succ, List.length, List.cons_append, List.nil_append, if_true, Sc.int_i, Sc.bool_b, Sc.list_l, Sc.str_s, Nat.reduceEqDiff, if_false, List.getElem?_cons_zero, List.getElem?_cons_succ]
  unfold aboveB
  cases hs : subO (valP m) (valP h) with
  | none =>
    obtain ⟨x, y, z, e⟩ := enc_form (addO (valP n) (valP k))
    rw [e]
    simp only [enc_none, Int.natCast_nonneg, bne_iff_ne, beq_iff_eq, ne_eq, decide_eq_true_eq, Bool.and_eq_true, Bool.or_eq_true, Bool.not_eq_true', decide_eq_false_iff_not, beq_eq_false_iff_ne, bne_eq_false_iff_eq, not_true_eq_false, not_false_eq_true, if_true, if_false, reduceIte, and_true, true_and, and_false, false_and, or_false, false_or, or_true, true_or, List.getD_cons_zero, List.getD_cons_succ, List.length_cons, List.length_nil, List.cons_append, List.nil_append, Nat.reduceAdd, Nat.reduceEqDiff, reduceCtorEq, Bool.not_true, Bool.not_false, Bool.true_and, Bool.and_true, Bool.false_and, Bool.and_false, Bool.or_true, Bool.true_or, Bool.or_false, Bool.false_or, Bool.false_eq_true, Bool.true_eq_false, Sc.int_i, Sc.bool_b, Sc.list_l, Sc.str_s, Int.reduceEq, Int.reduceLT, Int.reduceLE, Int.reduceNe, decide_true, decide_false, decide_not, eq_self, Classical.not_not, List.getElem?_cons_zero, List.getElem?_cons_succ, beq_self_eq_true, bne_self_eq_false]
  | some u =>
    cases ha : addO (valP n) (valP k) with
    | none => simp only [enc_some, enc_none, Int.natCast_nonneg, bne_iff_ne, beq_iff_eq, ne_eq, decide_eq_true_eq, Bool.and_eq_true, Bool.or_eq_true, Bool.not_eq_true', decide_eq_false_iff_not, beq_eq_false_iff_ne, bne_eq_false_iff_eq, not_true_eq_false, not_false_eq_true, if_true, if_false, reduceIte, and_true, true_and, and_false, false_and, or_false, false_or, or_true, true_or, List.getD_cons_zero, List.getD_cons_succ, List.length_cons, List.length_nil, List.cons_append, List.nil_append, Nat.reduceAdd, Nat.reduceEqDiff, reduceCtorEq, Bool.not_true, Bool.not_false, Bool.true_and, Bool.and_true, Bool.false_and, Bool.and_false, Bool.or_true, Bool.true_or, Bool.or_false, Bool.false_or, Bool.false_eq_true, Bool.true_eq_false, Sc.int_i, Sc.bool_b, Sc.list_l, Sc.str_s, Int.reduceEq, Int.reduceLT, Int.reduceLE, Int.reduceNe, decide_true, decide_false, decide_not, eq_self, Classical.not_not, List.getElem?_cons_zero, List.getElem?_cons_succ, beq_self_eq_true, bne_self_eq_false]
    | some w =>
      have f1 := subO_fit hs
      have f2 := addO_fit ha
      obtain ⟨i1, i2⟩ := fit_i64 f1
      obtain ⟨i3, i4⟩ := fit_i64 f2
      have c := rCmp_F u.num u.den w.num w.den i1 i2 i3 i4
      rw [usual_ok f1, usual_ok f2] at c
      simp only [enc_some, c, Int.natCast_nonneg, bne_iff_ne, beq_iff_eq, ne_eq, decide_eq_true_eq, Bool.and_eq_true, Bool.or_eq_true, Bool.not_eq_true', decide_eq_false_iff_not, beq_eq_false_iff_ne, bne_eq_false_iff_eq, not_true_eq_false, not_false_eq_true, if_true, if_false, reduceIte, and_true, true_and, and_false, false_and, or_false, false_or, or_true, true_or, List.getD_cons_zero, List.getD_cons_succ, List.length_cons, List.length_nil, List.cons_append, List.nil_append, Nat.reduceAdd, Nat.reduceEqDiff, reduceCtorEq, Bool.not_true, Bool.not_false, Bool.true_and, Bool.and_true, Bool.false_and, Bool.and_false, Bool.or_true, Bool.true_or, Bool.or_false, Bool.false_or, Bool.false_eq_true, Bool.true_eq_false, Sc.int_i, Sc.bool_b, Sc.list_l, Sc.str_s, Int.reduceEq, Int.reduceLT, Int.reduceLE, Int.reduceNe, decide_true, decide_false, decide_not, eq_self, Classical.not_not, List.getElem?_cons_zero, List.getElem?_cons_succ, beq_self_eq_true, bne_self_eq_false]
def enoughB (m h : Int × Int) (k : Int) : Bool := match fitO (k : Rat) with
  | none => false
  | some f => okF m.1 m.2 && match mulO (some f) (valP h) with
    | some w => decide (cmpQ w (absR (usualQ m.1 m.2)) ≤ 0)
    | none => false
theorem int_div (k : Int) : Rat.divInt k 1 = (k : Rat) := by
  rw [Rat.divInt_eq_div]; have : ((1 : Int) : Rat) = 1 := rfl; grind
theorem ofQ_one (k : Int) : ofQ k 1 = enc (fitO (k : Rat)) := by
  unfold ofQ; rw [if_neg (by omega), int_div, enc_fit]
theorem fenough_F (m h : Int × Int) (k : Int) (hm : FP m) (hh : FP h) (hk : I64 k) : k_interval_Enough.F [.i m.1, .i m.2, .i h.1, .i h.2, .i k] = some [.b (enoughB m h k)] := by
  have o := fOf_F k 1 hk ⟨by omega, by omega⟩
  rw [ofQ_one] at o
  have v := valid2_O m h hm hh
  simp only [k_interval_Enough_F, tk_interval_Enough, k_frac_Of_f, k_interval_valid_f, k_frac_Mul_f, k_interval_size_f, k_frac_Cmp_f, o, v, Go.Proofs.YtchnhfnnlkncdaaDoor.T.den, Ex.ev, U1.ev, U2.ev, U3.ev, gam, List.map, List.getD_cons_zero, List.getD_cons_succ, List.length, List.cons_append, List.nil_append, if_true, Sc.int_i, Sc.bool_b, Sc.list_l, Sc.str_s, Nat.reduceEqDiff, if_false, List.getElem?_cons_zero, List.getElem?_cons_succ]
  unfold enoughB
  cases ho : fitO (k : Rat) with
  | none => simp only [enc_none, Int.natCast_nonneg, bne_iff_ne, beq_iff_eq, ne_eq, decide_eq_true_eq, Bool.and_eq_true, Bool.or_eq_true, Bool.not_eq_true', decide_eq_false_iff_not, beq_eq_false_iff_ne, bne_eq_false_iff_eq, not_true_eq_false, not_false_eq_true, if_true, if_false, reduceIte, and_true, true_and, and_false, false_and, or_false, false_or, or_true, true_or, List.getD_cons_zero, List.getD_cons_succ, List.length_cons, List.length_nil, List.cons_append, List.nil_append, Nat.reduceAdd, Nat.reduceEqDiff, reduceCtorEq, Bool.not_true, Bool.not_false, Bool.true_and, Bool.and_true, Bool.false_and, Bool.and_false, Bool.or_true, Bool.true_or, Bool.or_false, Bool.false_or, Bool.false_eq_true, Bool.true_eq_false, Sc.int_i, Sc.bool_b, Sc.list_l, Sc.str_s, Int.reduceEq, Int.reduceLT, Int.reduceLE, Int.reduceNe, decide_true, decide_false, decide_not, eq_self, Classical.not_not, List.getElem?_cons_zero, List.getElem?_cons_succ, beq_self_eq_true, bne_self_eq_false]
  | some f =>
    have ff := (fitO_some ho).2
    have mu := fmul_O (FP_pr ff) hh
    rw [valP_pr ff] at mu
    simp only [pr] at mu
    cases hmv : valP m with
    | none =>
      rw [valP_bad hmv]
      simp only [enc_some, Int.natCast_nonneg, bne_iff_ne, beq_iff_eq, ne_eq, decide_eq_true_eq, Bool.and_eq_true, Bool.or_eq_true, Bool.not_eq_true', decide_eq_false_iff_not, beq_eq_false_iff_ne, bne_eq_false_iff_eq, not_true_eq_false, not_false_eq_true, if_true, if_false, reduceIte, and_true, true_and, and_false, false_and, or_false, false_or, or_true, true_or, List.getD_cons_zero, List.getD_cons_succ, List.length_cons, List.length_nil, List.cons_append, List.nil_append, Nat.reduceAdd, Nat.reduceEqDiff, reduceCtorEq, Bool.not_true, Bool.not_false, Bool.true_and, Bool.and_true, Bool.false_and, Bool.and_false, Bool.or_true, Bool.true_or, Bool.or_false, Bool.false_or, Bool.false_eq_true, Bool.true_eq_false, Sc.int_i, Sc.bool_b, Sc.list_l, Sc.str_s, Int.reduceEq, Int.reduceLT, Int.reduceLE, Int.reduceNe, decide_true, decide_false, decide_not, eq_self, Classical.not_not, List.getElem?_cons_zero, List.getElem?_cons_succ, beq_self_eq_true, bne_self_eq_false]
    | some q =>
      obtain ⟨g1, g2⟩ := valP_ok hmv
      rw [g1, g2]
      cases hhv : valP h with
      | none =>
        rw [valP_bad hhv]
        simp only [enc_some, Int.natCast_nonneg, bne_iff_ne, beq_iff_eq, ne_eq, decide_eq_true_eq, Bool.and_eq_true, Bool.or_eq_true, Bool.not_eq_true', decide_eq_false_iff_not, beq_eq_false_iff_ne, bne_eq_false_iff_eq, not_true_eq_false, not_false_eq_true, if_true, if_false, reduceIte, and_true, true_and, and_false, false_and, or_false, false_or, or_true, true_or, List.getD_cons_zero, List.getD_cons_succ, List.length_cons, List.length_nil, List.cons_append, List.nil_append, Nat.reduceAdd, Nat.reduceEqDiff, reduceCtorEq, Bool.not_true, Bool.not_false, Bool.true_and, Bool.and_true, Bool.false_and, Bool.and_false, Bool.or_true, Bool.true_or, Bool.or_false, Bool.false_or, Bool.false_eq_true, Bool.true_eq_false, Sc.int_i, Sc.bool_b, Sc.list_l, Sc.str_s, Int.reduceEq, Int.reduceLT, Int.reduceLE, Int.reduceNe, decide_true, decide_false, decide_not, eq_self, Classical.not_not, List.getElem?_cons_zero, List.getElem?_cons_succ, beq_self_eq_true, bne_self_eq_false]
        rfl
      | some r =>
        rw [(valP_ok hhv).1]
        rw [hhv] at mu
        have em := (valP_some hmv).1
        have fq := (valP_some hmv).2
        have z := fsize49_F fq
        have e1 : m.1 = q.num := by rw [em]; rfl
        have e2 : m.2 = q.den := by rw [em]; rfl
        rw [← e1, ← e2] at z
        cases hmu : mulO (some f) (some r) with
        | none =>
          rw [hmu, enc_none] at mu
          simp only [enc_some, mu, hmu, Int.natCast_nonneg, bne_iff_ne, beq_iff_eq, ne_eq, decide_eq_true_eq, Bool.and_eq_true, Bool.or_eq_true, Bool.not_eq_true', decide_eq_false_iff_not, beq_eq_false_iff_ne, bne_eq_false_iff_eq, not_true_eq_false, not_false_eq_true, if_true, if_false, reduceIte, and_true, true_and, and_false, false_and, or_false, false_or, or_true, true_or, List.getD_cons_zero, List.getD_cons_succ, List.length_cons, List.length_nil, List.cons_append, List.nil_append, Nat.reduceAdd, Nat.reduceEqDiff, reduceCtorEq, Bool.not_true, Bool.not_false, Bool.true_and, Bool.and_true, Bool.false_and, Bool.and_false, Bool.or_true, Bool.true_or, Bool.or_false, Bool.false_or, Bool.false_eq_true, Bool.true_eq_false, Sc.int_i, Sc.bool_b, Sc.list_l, Sc.str_s, Int.reduceEq, Int.reduceLT, Int.reduceLE, Int.reduceNe, decide_true, decide_false, decide_not, eq_self, Classical.not_not, List.getElem?_cons_zero, List.getElem?_cons_succ, beq_self_eq_true, bne_self_eq_false]
        | some w =>
          rw [hmu, enc_some] at mu
          have fw := mulO_fit hmu
          obtain ⟨i1, i2⟩ := fit_i64 fw
          obtain ⟨i3, i4⟩ := fit_i64 (absR_fit fq)
          have c := cmp_F w.num w.den (absR q).num (absR q).den i1 i2 i3 i4
          rw [usual_ok fw, usual_ok (absR_fit fq)] at c
          simp only [enc_some, mu, z, c, hmu, Int.natCast_nonneg, bne_iff_ne, beq_iff_eq, ne_eq, decide_eq_true_eq, Bool.and_eq_true, Bool.or_eq_true, Bool.not_eq_true', decide_eq_false_iff_not, beq_eq_false_iff_ne, bne_eq_false_iff_eq, not_true_eq_false, not_false_eq_true, if_true, if_false, reduceIte, and_true, true_and, and_false, false_and, or_false, false_or, or_true, true_or, List.getD_cons_zero, List.getD_cons_succ, List.length_cons, List.length_nil, List.cons_append, List.nil_append, Nat.reduceAdd, Nat.reduceEqDiff, reduceCtorEq, Bool.not_true, Bool.not_false, Bool.true_and, Bool.and_true, Bool.false_and, Bool.and_false, Bool.or_true, Bool.true_or, Bool.or_false, Bool.false_or, Bool.false_eq_true, Bool.true_eq_false, Sc.int_i, Sc.bool_b, Sc.list_l, Sc.str_s, Int.reduceEq, Int.reduceLT, Int.reduceLE, Int.reduceNe, decide_true, decide_false, decide_not, eq_self, Classical.not_not, List.getElem?_cons_zero, List.getElem?_cons_succ, beq_self_eq_true, bne_self_eq_false]
theorem renough_F (m h : Int × Int) (k : Int) (hm : FP m) (hh : FP h) (hk : I64 k) : k_simulatorref49_Enough.F [.i m.1, .i m.2, .i h.1, .i h.2, .i k] = some [.b (enoughB m h k)] := by
  have o := rOf_F k 1 hk ⟨by omega, by omega⟩
  rw [ofQ_one] at o
  have v := rValid_F m.1 m.2 hm.1 hm.2
  simp only [k_simulatorref49_Enough_F, tk_simulatorref49_Enough, k_simulatorref02_Of_f, k_simulatorref02_Valid_f, k_simulatorref02_Mul_f, k_simulatorref49_size_f, k_simulatorref02_Cmp_f, o, v, Go.Proofs.YtchnhfnnlkncdaaDoor.T.den, Ex.ev, U1.ev, U2.ev, U3.ev, gam, List.map, List.getD_cons_zero, List.getD_cons_succ, List.length, List.cons_append, List.nil_append, if_true, Sc.int_i, Sc.bool_b, Sc.list_l, Sc.str_s, Nat.reduceEqDiff, if_false, List.getElem?_cons_zero, List.getElem?_cons_succ]
  unfold enoughB
  cases ho : fitO (k : Rat) with
  | none =>
    have mu := rmul_O (p := (0, 0)) ⟨⟨by simp, by simp⟩, ⟨by simp, by simp⟩⟩ hh
    obtain ⟨x, y, z, e⟩ := enc_form (mulO (valP (0, 0)) (valP h))
    rw [e] at mu
    simp only at mu
    simp only [enc_none, mu, Int.natCast_nonneg, bne_iff_ne, beq_iff_eq, ne_eq, decide_eq_true_eq, Bool.and_eq_true, Bool.or_eq_true, Bool.not_eq_true', decide_eq_false_iff_not, beq_eq_false_iff_ne, bne_eq_false_iff_eq, not_true_eq_false, not_false_eq_true, if_true, if_false, reduceIte, and_true, true_and, and_false, false_and, or_false, false_or, or_true, true_or, List.getD_cons_zero, List.getD_cons_succ, List.length_cons, List.length_nil, List.cons_append, List.nil_append, Nat.reduceAdd, Nat.reduceEqDiff, reduceCtorEq, Bool.not_true, Bool.not_false, Bool.true_and, Bool.and_true, Bool.false_and, Bool.and_false, Bool.or_true, Bool.true_or, Bool.or_false, Bool.false_or, Bool.false_eq_true, Bool.true_eq_false, Sc.int_i, Sc.bool_b, Sc.list_l, Sc.str_s, Int.reduceEq, Int.reduceLT, Int.reduceLE, Int.reduceNe, decide_true, decide_false, decide_not, eq_self, Classical.not_not, List.getElem?_cons_zero, List.getElem?_cons_succ, beq_self_eq_true, bne_self_eq_false]
  | some f =>
    have ff := (fitO_some ho).2
    have mu := rmul_O (FP_pr ff) hh
    rw [valP_pr ff] at mu
    simp only [pr] at mu
    cases hmu : mulO (some f) (valP h) with
    | none =>
      rw [hmu, enc_none] at mu
      simp only [enc_some, mu, hmu, Int.natCast_nonneg, bne_iff_ne, beq_iff_eq, ne_eq, decide_eq_true_eq, Bool.and_eq_true, Bool.or_eq_true, Bool.not_eq_true', decide_eq_false_iff_not, beq_eq_false_iff_ne, bne_eq_false_iff_eq, not_true_eq_false, not_false_eq_true, if_true, if_false, reduceIte, and_true, true_and, and_false, false_and, or_false, false_or, or_true, true_or, List.getD_cons_zero, List.getD_cons_succ, List.length_cons, List.length_nil, List.cons_append, List.nil_append, Nat.reduceAdd, Nat.reduceEqDiff, reduceCtorEq, Bool.not_true, Bool.not_false, Bool.true_and, Bool.and_true, Bool.false_and, Bool.and_false, Bool.or_true, Bool.true_or, Bool.or_false, Bool.false_or, Bool.false_eq_true, Bool.true_eq_false, Sc.int_i, Sc.bool_b, Sc.list_l, Sc.str_s, Int.reduceEq, Int.reduceLT, Int.reduceLE, Int.reduceNe, decide_true, decide_false, decide_not, eq_self, Classical.not_not, List.getElem?_cons_zero, List.getElem?_cons_succ, beq_self_eq_true, bne_self_eq_false]
    | some w =>
      rw [hmu, enc_some] at mu
      cases hmv : valP m with
      | none =>
        rw [valP_bad hmv]
        simp only [enc_some, mu, hmu, Int.natCast_nonneg, bne_iff_ne, beq_iff_eq, ne_eq, decide_eq_true_eq, Bool.and_eq_true, Bool.or_eq_true, Bool.not_eq_true', decide_eq_false_iff_not, beq_eq_false_iff_ne, bne_eq_false_iff_eq, not_true_eq_false, not_false_eq_true, if_true, if_false, reduceIte, and_true, true_and, and_false, false_and, or_false, false_or, or_true, true_or, List.getD_cons_zero, List.getD_cons_succ, List.length_cons, List.length_nil, List.cons_append, List.nil_append, Nat.reduceAdd, Nat.reduceEqDiff, reduceCtorEq, Bool.not_true, Bool.not_false, Bool.true_and, Bool.and_true, Bool.false_and, Bool.and_false, Bool.or_true, Bool.true_or, Bool.or_false, Bool.false_or, Bool.false_eq_true, Bool.true_eq_false, Sc.int_i, Sc.bool_b, Sc.list_l, Sc.str_s, Int.reduceEq, Int.reduceLT, Int.reduceLE, Int.reduceNe, decide_true, decide_false, decide_not, eq_self, Classical.not_not, List.getElem?_cons_zero, List.getElem?_cons_succ, beq_self_eq_true, bne_self_eq_false]
      | some q =>
        obtain ⟨g1, g2⟩ := valP_ok hmv
        rw [g1, g2]
        have em := (valP_some hmv).1
        have fq := (valP_some hmv).2
        have z := rsize49_F fq
        have e1 : m.1 = q.num := by rw [em]; rfl
        have e2 : m.2 = q.den := by rw [em]; rfl
        rw [← e1, ← e2] at z
        have fw := mulO_fit hmu
        obtain ⟨i1, i2⟩ := fit_i64 fw
        obtain ⟨i3, i4⟩ := fit_i64 (absR_fit fq)
        have c := rCmp_F w.num w.den (absR q).num (absR q).den i1 i2 i3 i4
        rw [usual_ok fw, usual_ok (absR_fit fq)] at c
        simp only [enc_some, mu, z, c, hmu, Int.natCast_nonneg, bne_iff_ne, beq_iff_eq, ne_eq, decide_eq_true_eq, Bool.and_eq_true, Bool.or_eq_true, Bool.not_eq_true', decide_eq_false_iff_not, beq_eq_false_iff_ne, bne_eq_false_iff_eq, not_true_eq_false, not_false_eq_true, if_true, if_false, reduceIte, and_true, true_and, and_false, false_and, or_false, false_or, or_true, true_or, List.getD_cons_zero, List.getD_cons_succ, List.length_cons, List.length_nil, List.cons_append, List.nil_append, Nat.reduceAdd, Nat.reduceEqDiff, reduceCtorEq, Bool.not_true, Bool.not_false, Bool.true_and, Bool.and_true, Bool.false_and, Bool.and_false, Bool.or_true, Bool.true_or, Bool.or_false, Bool.false_or, Bool.false_eq_true, Bool.true_eq_false, Sc.int_i, Sc.bool_b, Sc.list_l, Sc.str_s, Int.reduceEq, Int.reduceLT, Int.reduceLE, Int.reduceNe, decide_true, decide_false, decide_not, eq_self, Classical.not_not, List.getElem?_cons_zero, List.getElem?_cons_succ, beq_self_eq_true, bne_self_eq_false]
/-- How Of ends. -/
theorem ofB_cases (ps : List (Int × Int)) : (∃ e, e ≠ 0 ∧ ofB ps = [.i 0, .i 0, .i 0, .i 0, .i e]) ∨ ∃ m v, mean50O ps = some m ∧ varO ps = some v ∧ 2 ≤ ps.length ∧ ps.length ≤ 50 ∧ hOf ps.length v ≤ 1000000000000 ∧
    ofB ps = [.i m.num, .i m.den, .i (Rat.divInt (hOf ps.length v) 1000).num, .i (Rat.divInt (hOf ps.length v) 1000).den, .i 0] := by
  by_cases h1 : ps.length < 2
  · exact .inl ⟨7, by omega, ofB_short h1⟩
  by_cases h2 : 50 < ps.length
  · exact .inl ⟨6, by omega, ofB_long h2⟩
  cases hm : mean50O ps with
  | none => exact .inl ⟨2, by omega, ofB_none h1 h2 (.inl hm)⟩
  | some m =>
    cases hv : varO ps with
    | none => exact .inl ⟨2, by omega, ofB_none h1 h2 (.inr hv)⟩
    | some v =>
      have e := ofB_some h1 h2 hm hv
      by_cases c : hOf ps.length v ≤ 1000000000000
      · rw [if_pos c] at e
        exact .inr ⟨m, v, rfl, rfl, by omega, by omega, c, e⟩
      · rw [if_neg c] at e
        exact .inl ⟨2, by omega, e⟩
theorem half_fit {h : Nat} (c : h ≤ 1000000000000) : fitQ (Rat.divInt h 1000) = true := fit_small (by omega) (by unfold maxN; omega) (by unfold maxD; omega)
theorem half_pos (h : Nat) : 0 ≤ Rat.divInt h 1000 := by
  rw [Rat.divInt_eq_div]
  exact div_nonneg' (Rat.intCast_nonneg.2 (by omega)) (by have : ((0 : Int) : Rat) < ((1000 : Int) : Rat) := Rat.intCast_lt_intCast.2 (by omega); exact this)
end Go.Proofs.YtchnhfnnlkncdaaDoor
