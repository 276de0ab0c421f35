/-
  Names: both checks agree. 
-/
import Derived.Test.YtpmplppkjedpiaaM25b
namespace Go.Proofs.Ytpmplppkjedpiaa
set_option linter.unusedSimpArgs false
set_option linter.unusedVariables false

def kwords : List (List Nat) := [[97, 100, 100], [97, 102, 116, 101, 114], [97, 110, 100], [97, 116], [98, 101, 108, 116], [98, 111, 111, 108], [99, 111, 110, 115, 101, 114, 118, 101], [99, 111, 110, 115, 116], [99, 111, 117, 110, 116], [99, 121, 99, 108, 101], [100, 111, 119, 110], [100, 114, 97, 119], [100, 117, 114], [101, 108, 115, 101], [101, 110, 100], [101, 118, 101, 114, 121], [102, 97, 108, 115, 101], [102, 97, 117, 108, 116], [102, 105, 102, 111], [102, 114, 101, 101], [102, 114, 111, 109], [103, 101, 111, 109], [103, 101, 116], [104, 111, 108, 100], [105, 102], [105, 110, 116], [105, 110, 116, 111], [108, 101, 97, 115, 116], [108, 101, 118, 101, 108], [108, 105, 102, 111], [108, 105, 110, 107], [108, 111, 99, 97, 108], [109, 97, 120], [109, 105, 110], [109, 111, 100, 101, 108], [110, 111, 116], [110, 111, 119], [111, 98, 115, 101, 114, 118, 101], [111, 114], [112, 97, 114, 97, 109], [112, 114, 101, 101, 109, 112, 116], [112, 114, 105, 111], [112, 117, 116], [113, 117, 101, 117, 101], [114, 101, 108, 101, 97, 115, 101], [114, 101, 115, 111, 117, 114, 99, 101], [114, 105, 100, 101], [114, 111, 117, 116, 105, 110, 101], [115, 101, 105, 122, 101], [115, 101, 110, 100], [115, 101, 116], [115, 104, 105, 102, 116], [115, 105, 103, 110, 97, 108], [115, 105, 116, 101], [115, 105, 122, 101], [115, 112, 97, 119, 110], [115, 116, 97, 114, 116], [115, 116, 111, 112], [115, 116, 111, 114, 101], [115, 116, 114, 101, 97, 109], [115, 117, 109], [116, 97, 98, 108, 101], [116, 97, 108, 108, 121], [116, 105, 99, 107, 115], [116, 105, 109, 101], [116, 114, 117, 101], [117, 110, 105, 102, 111, 114, 109], [117, 110, 116, 105, 108], [117, 112], [118, 97, 114], [119, 97, 105, 116], [119, 97, 105, 116, 105, 110, 103], [119, 104, 105, 108, 101]]
def kwT : List (List Nat) → T (List Ex)
  | [] => .leaf [.b false]
  | [w] => .ite (.o .seq (.v 0) (.s w)) (.leaf [.b true]) (.leaf [.b false])
  | w :: r => .ite (.o .seq (.v 0) (.s w)) (.ite (.o .seq (.v 0) (.s w)) (.leaf [.b true]) (.leaf [.b false])) (kwT r)
def kwE : List (List Nat) → Ex
  | [] => .nil
  | w :: r => .o .cons (.s w) (kwE r)
def bsN (w : List Nat) : ByteArray := ⟨(w.map UInt8.ofNat).toArray⟩
def kwB (x : ByteArray) (ws : List (List Nat)) : Bool := ws.any fun w => x.toList == (bsN w).toList
theorem kwT_eq : tk_names_Keyword = kwT kwords := by kernel_rfl
theorem kwE_eq : tk_simulatorref07_Keywords = .leaf [kwE kwords] := by kernel_rfl
theorem kwT_den (Γ : Nat → List Sc → Option (List Sc)) (x : ByteArray) : ∀ ws, (kwT ws).den Γ [.s x] [] = some [.b (kwB x ws)]
  | [] => rfl
  | [w] => by
    have e : Ex.ev [.s x] (.o .seq (.v 0) (.s w)) = .b (x.toList == (bsN w).toList) := rfl
    have b : kwB x [w] = (x.toList == (bsN w).toList) := by simp [kwB]
    rw [b]
    simp only [kwT, Go.Proofs.Ytpmplppkjedpiaa.T.den, e]
    show (if (x.toList == (bsN w).toList) = true then _ else _) = _
    split
    · rename_i h; rw [h]; rfl
    · rename_i h; rw [Bool.not_eq_true] at h; rw [h]; rfl
  | w :: v :: r => by
    have e : Ex.ev [.s x] (.o .seq (.v 0) (.s w)) = .b (x.toList == (bsN w).toList) := rfl
    have ih := kwT_den Γ x (v :: r)
    have b : kwB x (w :: v :: r) = ((x.toList == (bsN w).toList) || kwB x (v :: r)) := by unfold kwB; rw [List.any_cons]
    rw [b]
    have d : (kwT (w :: v :: r)).den Γ [.s x] [] = if (x.toList == (bsN w).toList) = true then (if (x.toList == (bsN w).toList) = true then some [.b true] else some [.b false]) else (kwT (v :: r)).den Γ [.s x] [] := by
      simp only [kwT, Go.Proofs.Ytpmplppkjedpiaa.T.den, e]; rfl
    rw [d]
    split
    · rename_i h; rw [h, Bool.true_or]
    · rename_i h; rw [Bool.not_eq_true] at h; rw [h, Bool.false_or]; exact ih
theorem keyword_F (x : ByteArray) : k_names_Keyword.F [.s x] = some [.b (kwB x kwords)] := by
  rw [k_names_Keyword_F, if_pos (by rfl : [Sc.s x].length = 1), kwT_eq]; exact kwT_den _ x _
theorem kwE_ev : ∀ ws, (kwE ws).ev [] = .l (ws.map fun w => Sc.s (bsN w))
  | [] => rfl
  | w :: r => by
    show Sc.l (_ :: ((kwE r).ev []).list) = _
    rw [kwE_ev r]; rfl
theorem rkeywords_F : k_simulatorref07_Keywords.F [] = some [.l (kwords.map fun w => Sc.s (bsN w))] := by
  rw [k_simulatorref07_Keywords_F, if_pos (by rfl : ([] : List Sc).length = 0), kwE_eq]
  show some [(kwE kwords).ev []] = _
  rw [kwE_ev]
theorem rfind_F (ws : List (List Nat)) (x : ByteArray) (hl : ws.length ≤ 1000) : ∃ i : Int, k_simulatorref07_Find.F [.l (ws.map fun w => Sc.s (bsN w)), .s x] = some [.i i] ∧ decide (0 ≤ i) = kwB x ws := by
  simp only [k_simulatorref07_Find_F, tk_simulatorref07_Find, List.length_map, Go.Proofs.Ytpmplppkjedpiaa.T.den, Ex.ev, U1.ev, U2.ev, U3.ev, gam, List.map, List.getD_cons_zero, List.getD_cons_succ, List.length, List.cons_append, List.nil_append, if_true, int_n, bool_n, list_n, Sc.str_s, Nat.reduceEqDiff, if_false, List.getElem?_cons_zero, List.getElem?_cons_succ]
  have key : ∃ i : Int, ((∃ j : Nat, i = j ∧ j < ws.length ∧ x.toList = (bsN (ws.getD j [])).toList ∧ ∀ l, l < j → x.toList ≠ (bsN (ws.getD l [])).toList) ∨ (i = -1 ∧ ∀ l, l < ws.length → x.toList ≠ (bsN (ws.getD l [])).toList)) := by
    by_cases h : ∃ j, j < ws.length ∧ x.toList = (bsN (ws.getD j [])).toList
    · obtain ⟨h1, h2⟩ := leastOf_spec (p := fun j => j < ws.length ∧ x.toList = (bsN (ws.getD j [])).toList) h
      exact ⟨_, .inl ⟨_, rfl, h1.1, h1.2, fun l hl e => by have := h2 l ⟨by omega, e⟩; omega⟩⟩
    · exact ⟨-1, .inr ⟨rfl, fun l hl e => h ⟨l, hl, e⟩⟩⟩
  obtain ⟨i, hi⟩ := key
  refine ⟨i, ?_, ?_⟩
  · refine loop_rounds (S := Nat) (fun j => [.i (j : Int)]) (fun _ => some [.i i]) (fun j => j ≤ ws.length ∧ ∀ l, l < j → x.toList ≠ (bsN (ws.getD l [])).toList) (fun j => ws.length - j) ?_ 0 ⟨Nat.zero_le _, fun l hl => by omega⟩ (by omega)
    rintro j rec ⟨hj, hn⟩ hrec
    by_cases hlt : j < ws.length
    · have k1 : (j : Int) < ws.length := by omega
      have hx := idx_map (fun w => Sc.s (bsN w)) ws j hlt
      have eg : ws.getD j [] = ws[j] := by rw [List.getD_eq_getElem?_getD, List.getElem?_eq_getElem hlt]; rfl
      have hs := succ_w (n := ws.length) hlt (by omega)
      by_cases c : (bsN ws[j]).toList = x.toList
      · have ei : i = j := by
          rcases hi with ⟨p, e, h1, h2, h3⟩ | ⟨e, h⟩
          · have : p = j := by
              rcases Nat.lt_trichotomy p j with h | h | h
              · exact absurd h2 (hn p h)
              · exact h
              · exact absurd (by rw [eg]; exact c.symm) (h3 j h)
            rw [e, this]
          · exact absurd (by rw [eg]; exact c.symm) (h j hlt)
        subst ei
        simp only [k1, hx, c, Int.natCast_nonneg, bne_iff_ne, beq_iff_eq, ne_eq, decide_eq_true_eq, Bool.and_eq_true, Bool.or_eq_true, Bool.not_eq_true', decide_eq_false_iff_not, beq_eq_false_iff_ne, bne_eq_false_iff_eq, not_true_eq_false, not_false_eq_true, if_true, if_false, reduceIte, and_true, true_and, and_false, false_and, or_false, false_or, or_true, true_or, List.getD_cons_zero, List.getD_cons_succ, List.length_cons, List.length_nil, List.cons_append, List.nil_append, Nat.reduceAdd, Nat.reduceEqDiff, reduceCtorEq, Bool.not_true, Bool.not_false, Bool.true_and, Bool.and_true, Bool.false_and, Bool.and_false, Bool.or_true, Bool.true_or, Bool.or_false, Bool.false_or, Bool.false_eq_true, Bool.true_eq_false, int_n, bool_n, list_n, Sc.str_s, Int.reduceEq, Int.reduceLT, Int.reduceLE, Int.reduceNe, decide_true, decide_false, decide_not, eq_self, Classical.not_not, List.getElem?_cons_zero, List.getElem?_cons_succ, beq_self_eq_true, bne_self_eq_false]
      · have hr := hrec (j + 1) ⟨by omega, fun l hl => by
          by_cases z : l = j
          · subst z; rw [eg]; exact fun h => c h.symm
          · exact hn l (by omega)⟩ (by omega)
        simp only [k1, hx, c, hs, hr, Int.natCast_nonneg, bne_iff_ne, beq_iff_eq, ne_eq, decide_eq_true_eq, Bool.and_eq_true, Bool.or_eq_true, Bool.not_eq_true', decide_eq_false_iff_not, beq_eq_false_iff_ne, bne_eq_false_iff_eq, not_true_eq_false, not_false_eq_true, if_true, if_false, reduceIte, and_true, true_and, and_false, false_and, or_false, false_or, or_true, true_or, List.getD_cons_zero, List.getD_cons_succ, List.length_cons, List.length_nil, List.cons_append, List.nil_append, Nat.reduceAdd, Nat.reduceEqDiff, reduceCtorEq, Bool.not_true, Bool.not_false, Bool.true_and, Bool.and_true, Bool.false_and, Bool.and_false, Bool.or_true, Bool.true_or, Bool.or_false, Bool.false_or, Bool.false_eq_true, Bool.true_eq_false, int_n, bool_n, list_n, Sc.str_s, Int.reduceEq, Int.reduceLT, Int.reduceLE, Int.reduceNe, decide_true, decide_false, decide_not, eq_self, Classical.not_not, List.getElem?_cons_zero, List.getElem?_cons_succ, beq_self_eq_true, bne_self_eq_false]
    · have k1 : ¬ (j : Int) < ws.length := by omega
      have e : i = -1 := by
        rcases hi with ⟨p, e, h1, h2, h3⟩ | ⟨e, h⟩
        · exact absurd h2 (hn p (by omega))
        · exact e
      subst e
      simp only [k1, Int.natCast_nonneg, bne_iff_ne, beq_iff_eq, ne_eq, decide_eq_true_eq, Bool.and_eq_true, Bool.or_eq_true, Bool.not_eq_true', decide_eq_false_iff_not, beq_eq_false_iff_ne, bne_eq_false_iff_eq, not_true_eq_false, not_false_eq_true, if_true, if_false, reduceIte, and_true, true_and, and_false, false_and, or_false, false_or, or_true, true_or, List.getD_cons_zero, List.getD_cons_succ, List.length_cons, List.length_nil, List.cons_append, List.nil_append, Nat.reduceAdd, Nat.reduceEqDiff, reduceCtorEq, Bool.not_true, Bool.not_false, Bool.true_and, Bool.and_true, Bool.false_and, Bool.and_false, Bool.or_true, Bool.true_or, Bool.or_false, Bool.false_or, Bool.false_eq_true, Bool.true_eq_false, int_n, bool_n, list_n, Sc.str_s, Int.reduceEq, Int.reduceLT, Int.reduceLE, Int.reduceNe, decide_true, decide_false, decide_not, eq_self, Classical.not_not, List.getElem?_cons_zero, List.getElem?_cons_succ, beq_self_eq_true, bne_self_eq_false]
  · rcases hi with ⟨p, e, h1, h2, h3⟩ | ⟨e, h⟩
    · have : kwB x ws = true := by
        unfold kwB
        rw [List.any_eq_true]
        have eg : ws.getD p [] = ws[p] := by rw [List.getD_eq_getElem?_getD, List.getElem?_eq_getElem h1]; rfl
        rw [eg] at h2
        exact ⟨ws[p], List.getElem_mem h1, beq_iff_eq.2 h2⟩
      rw [this, e]; exact decide_eq_true (by omega)
    · have : kwB x ws = false := by
        unfold kwB
        rw [List.any_eq_false]
        intro w hw hb
        obtain ⟨p, hp, rfl⟩ := List.mem_iff_getElem.1 hw
        have eg : ws.getD p [] = ws[p] := by rw [List.getD_eq_getElem?_getD, List.getElem?_eq_getElem hp]; rfl
        exact h p hp (by rw [eg]; exact beq_iff_eq.1 hb)
      rw [this, e]; rfl
theorem rkeyword_F (x : ByteArray) : k_simulatorref07_Keyword.F [.s x] = some [.b (kwB x kwords)] := by
  obtain ⟨i, h1, h2⟩ := rfind_F kwords x (by decide)
  simp only [k_simulatorref07_Keyword_F, tk_simulatorref07_Keyword, k_simulatorref07_Keywords_f, k_simulatorref07_Find_f, rkeywords_F, h1, h2, Go.Proofs.Ytpmplppkjedpiaa.T.den, Ex.ev, U1.ev, U2.ev, U3.ev, gam, List.map, List.getD_cons_zero, List.getD_cons_succ, List.length, List.cons_append, List.nil_append, if_true, int_n, bool_n, list_n, Sc.str_s, Nat.reduceEqDiff, if_false, List.getElem?_cons_zero, List.getElem?_cons_succ]
def letB (c : Int) : Bool := decide (97 ≤ c) && decide (c ≤ 122)
theorem letter_F (c : Int) : k_names_letter.F [.i c] = some [.b (letB c)] := by
  simp only [k_names_letter_F, tk_names_letter, Go.Proofs.Ytpmplppkjedpiaa.T.den, Ex.ev, U1.ev, U2.ev, U3.ev, gam, List.map, List.getD_cons_zero, List.getD_cons_succ, List.length, List.cons_append, List.nil_append, if_true, int_n, bool_n, list_n, Sc.str_s, Nat.reduceEqDiff, if_false, List.getElem?_cons_zero, List.getElem?_cons_succ]
  unfold letB
  by_cases h : 97 ≤ c <;> simp [h]
theorem rletter_F (c : Int) : k_simulatorref07_letter.F [.i c] = some [.b (letB c)] := by
  simp only [k_simulatorref07_letter_F, tk_simulatorref07_letter, Go.Proofs.Ytpmplppkjedpiaa.T.den, Ex.ev, U1.ev, U2.ev, U3.ev, gam, List.map, List.getD_cons_zero, List.getD_cons_succ, List.length, List.cons_append, List.nil_append, if_true, int_n, bool_n, list_n, Sc.str_s, Nat.reduceEqDiff, if_false, List.getElem?_cons_zero, List.getElem?_cons_succ]
  unfold letB
  by_cases h : 97 ≤ c <;> simp [h]
def chrAt (x : ByteArray) (j : Nat) : Int := ((x.data.toList.getD j 0).toNat : Int)
def chrB (c : Int) : Bool := letB c || (decide (48 ≤ c) && decide (c ≤ 57)) || decide (c = 95)
def nameG (x : ByteArray) : Int := if (List.range x.size).all (fun j => chrB (chrAt x j)) = true then 0 else 3
/-- What the check of a name returns. -/
def nameV (x : ByteArray) : Int := if x.size = 0 then 3 else if 24 < x.size then 3 else if letB (chrAt x 0) = false then 3 else if kwB x kwords = true then 3 else nameG x
theorem nameG_at {x : ByteArray} {j : Nat} (h : j < x.size) (hc : chrB (chrAt x j) = false) : nameG x = 3 := by
  unfold nameG
  rw [if_neg]
  intro ha
  rw [List.all_eq_true] at ha
  have := ha j (List.mem_range.2 h)
  rw [hc] at this; cases this
theorem nameG_all {x : ByteArray} (h : ∀ l, l < x.size → chrB (chrAt x l) = true) : nameG x = 0 := by
  unfold nameG
  rw [if_pos]
  rw [List.all_eq_true]
  exact fun j hj => h j (List.mem_range.1 hj)
theorem strE (x : ByteArray) : (x.toList == (ByteArray.mk #[]).toList) = decide (x.size = 0) := by
  rw [ByteArray.toList_eq, ByteArray.toList_eq]
  obtain ⟨⟨l⟩⟩ := x
  cases l <;> simp [ByteArray.size]
def mid1 (c : Int) : Bool := letB c || (decide (48 ≤ c) && decide (c ≤ 57)) || decide (c = 95)
theorem ncheck_F (x : ByteArray) (hx : x.size ≤ 17592186044416) : k_names_Check.F [.s x] = some [.i (nameV x)] := by
  simp only [k_names_Check_F, tk_names_Check, k_names_letter_f, k_names_Keyword_f, letter_F, keyword_F, Go.Proofs.Ytpmplppkjedpiaa.T.den, Ex.ev, U1.ev, U2.ev, U3.ev, gam, List.map, List.getD_cons_zero, List.getD_cons_succ, List.length, List.cons_append, List.nil_append, if_true, int_n, bool_n, list_n, Sc.str_s, Nat.reduceEqDiff, if_false, List.getElem?_cons_zero, List.getElem?_cons_succ]
  unfold nameV
  simp only [List.map_nil, strE]
  by_cases c1 : x.size = 0
  · simp only [c1, Int.natCast_nonneg, bne_iff_ne, beq_iff_eq, ne_eq, decide_eq_true_eq, Bool.and_eq_true, Bool.or_eq_true, Bool.not_eq_true', decide_eq_false_iff_not, beq_eq_false_iff_ne, bne_eq_false_iff_eq, not_true_eq_false, not_false_eq_true, if_true, if_false, reduceIte, and_true, true_and, and_false, false_and, or_false, false_or, or_true, true_or, List.getD_cons_zero, List.getD_cons_succ, List.length_cons, List.length_nil, List.cons_append, List.nil_append, Nat.reduceAdd, Nat.reduceEqDiff, reduceCtorEq, Bool.not_true, Bool.not_false, Bool.true_and, Bool.and_true, Bool.false_and, Bool.and_false, Bool.or_true, Bool.true_or, Bool.or_false, Bool.false_or, Bool.false_eq_true, Bool.true_eq_false, int_n, bool_n, list_n, Sc.str_s, Int.reduceEq, Int.reduceLT, Int.reduceLE, Int.reduceNe, decide_true, decide_false, decide_not, eq_self, Classical.not_not, List.getElem?_cons_zero, List.getElem?_cons_succ, beq_self_eq_true, bne_self_eq_false]
  have c1' : (0 : Int) < x.size := by omega
  by_cases c2 : 24 < x.size
  · have c2' : (24 : Int) < x.size := by omega
    simp only [c1, c2, c2', Int.natCast_nonneg, bne_iff_ne, beq_iff_eq, ne_eq, decide_eq_true_eq, Bool.and_eq_true, Bool.or_eq_true, Bool.not_eq_true', decide_eq_false_iff_not, beq_eq_false_iff_ne, bne_eq_false_iff_eq, not_true_eq_false, not_false_eq_true, if_true, if_false, reduceIte, and_true, true_and, and_false, false_and, or_false, false_or, or_true, true_or, List.getD_cons_zero, List.getD_cons_succ, List.length_cons, List.length_nil, List.cons_append, List.nil_append, Nat.reduceAdd, Nat.reduceEqDiff, reduceCtorEq, Bool.not_true, Bool.not_false, Bool.true_and, Bool.and_true, Bool.false_and, Bool.and_false, Bool.or_true, Bool.true_or, Bool.or_false, Bool.false_or, Bool.false_eq_true, Bool.true_eq_false, int_n, bool_n, list_n, Sc.str_s, Int.reduceEq, Int.reduceLT, Int.reduceLE, Int.reduceNe, decide_true, decide_false, decide_not, eq_self, Classical.not_not, List.getElem?_cons_zero, List.getElem?_cons_succ, beq_self_eq_true, bne_self_eq_false]
  have c2' : ¬ (24 : Int) < x.size := by omega
  have e0 : ((x.data.toList.getD (Int.toNat 0) 0).toNat : Int) = chrAt x 0 := rfl
  cases c3 : letB (chrAt x 0)
  · simp only [c1, c1', c2, c2', e0, c3, Int.natCast_nonneg, bne_iff_ne, beq_iff_eq, ne_eq, decide_eq_true_eq, Bool.and_eq_true, Bool.or_eq_true, Bool.not_eq_true', decide_eq_false_iff_not, beq_eq_false_iff_ne, bne_eq_false_iff_eq, not_true_eq_false, not_false_eq_true, if_true, if_false, reduceIte, and_true, true_and, and_false, false_and, or_false, false_or, or_true, true_or, List.getD_cons_zero, List.getD_cons_succ, List.length_cons, List.length_nil, List.cons_append, List.nil_append, Nat.reduceAdd, Nat.reduceEqDiff, reduceCtorEq, Bool.not_true, Bool.not_false, Bool.true_and, Bool.and_true, Bool.false_and, Bool.and_false, Bool.or_true, Bool.true_or, Bool.or_false, Bool.false_or, Bool.false_eq_true, Bool.true_eq_false, int_n, bool_n, list_n, Sc.str_s, Int.reduceEq, Int.reduceLT, Int.reduceLE, Int.reduceNe, decide_true, decide_false, decide_not, eq_self, Classical.not_not, List.getElem?_cons_zero, List.getElem?_cons_succ, beq_self_eq_true, bne_self_eq_false]
  cases c4 : kwB x kwords
  rotate_left
  · simp only [c1, c1', c2, c2', e0, c3, c4, Int.natCast_nonneg, bne_iff_ne, beq_iff_eq, ne_eq, decide_eq_true_eq, Bool.and_eq_true, Bool.or_eq_true, Bool.not_eq_true', decide_eq_false_iff_not, beq_eq_false_iff_ne, bne_eq_false_iff_eq, not_true_eq_false, not_false_eq_true, if_true, if_false, reduceIte, and_true, true_and, and_false, false_and, or_false, false_or, or_true, true_or, List.getD_cons_zero, List.getD_cons_succ, List.length_cons, List.length_nil, List.cons_append, List.nil_append, Nat.reduceAdd, Nat.reduceEqDiff, reduceCtorEq, Bool.not_true, Bool.not_false, Bool.true_and, Bool.and_true, Bool.false_and, Bool.and_false, Bool.or_true, Bool.true_or, Bool.or_false, Bool.false_or, Bool.false_eq_true, Bool.true_eq_false, int_n, bool_n, list_n, Sc.str_s, Int.reduceEq, Int.reduceLT, Int.reduceLE, Int.reduceNe, decide_true, decide_false, decide_not, eq_self, Classical.not_not, List.getElem?_cons_zero, List.getElem?_cons_succ, beq_self_eq_true, bne_self_eq_false]
  simp only [c1, c1', c2, c2', e0, c3, c4, Int.natCast_nonneg, bne_iff_ne, beq_iff_eq, ne_eq, decide_eq_true_eq, Bool.and_eq_true, Bool.or_eq_true, Bool.not_eq_true', decide_eq_false_iff_not, beq_eq_false_iff_ne, bne_eq_false_iff_eq, not_true_eq_false, not_false_eq_true, if_true, if_false, reduceIte, and_true, true_and, and_false, false_and, or_false, false_or, or_true, true_or, List.getD_cons_zero, List.getD_cons_succ, List.length_cons, List.length_nil, List.cons_append, List.nil_append, Nat.reduceAdd, Nat.reduceEqDiff, reduceCtorEq, Bool.not_true, Bool.not_false, Bool.true_and, Bool.and_true, Bool.false_and, Bool.and_false, Bool.or_true, Bool.true_or, Bool.or_false, Bool.false_or, Bool.false_eq_true, Bool.true_eq_false, int_n, bool_n, list_n, Sc.str_s, Int.reduceEq, Int.reduceLT, Int.reduceLE, Int.reduceNe, decide_true, decide_false, decide_not, eq_self, Classical.not_not, List.getElem?_cons_zero, List.getElem?_cons_succ, beq_self_eq_true, bne_self_eq_false]
  refine loop_rounds (S := Nat) (fun j => [.i (j : Int)]) (fun _ => some [.i (nameG x)]) (fun j => j ≤ x.size ∧ ∀ l, l < j → chrB (chrAt x l) = true) (fun j => x.size - j) ?_ 0 ⟨Nat.zero_le _, fun l hl => by omega⟩ (by omega)
  rintro j rec ⟨hj, hn⟩ hrec
  by_cases hlt : j < x.size
  · have k1 : (j : Int) < x.size := by omega
    have hs := succ_w (n := x.size) hlt (by omega)
    have ej : ((x.data.toList.getD ((j : Int)).toNat 0).toNat : Int) = chrAt x j := by rw [Int.toNat_natCast]; rfl
    have good := fun (hc : chrB (chrAt x j) = true) => hrec (j + 1) ⟨by omega, fun l hl => by
          by_cases z : l = j
          · subst z; exact hc
          · exact hn l (by omega)⟩ (by omega)
    have bad := nameG_at (x := x) hlt
    unfold chrB at good bad
    generalize chrAt x j = c at *
    cases l1 : letB c
    · rw [l1] at good bad
      by_cases d1 : c < 48
      · by_cases d2 : c = 95
        · omega
        · have b := bad (by have : ¬ 48 ≤ c := by omega
                            simp [this, d2])
          simp only [k1, ej, l1, d1, d2, b, Int.natCast_nonneg, bne_iff_ne, beq_iff_eq, ne_eq, decide_eq_true_eq, Bool.and_eq_true, Bool.or_eq_true, Bool.not_eq_true', decide_eq_false_iff_not, beq_eq_false_iff_ne, bne_eq_false_iff_eq, not_true_eq_false, not_false_eq_true, if_true, if_false, reduceIte, and_true, true_and, and_false, false_and, or_false, false_or, or_true, true_or, List.getD_cons_zero, List.getD_cons_succ, List.length_cons, List.length_nil, List.cons_append, List.nil_append, Nat.reduceAdd, Nat.reduceEqDiff, reduceCtorEq, Bool.not_true, Bool.not_false, Bool.true_and, Bool.and_true, Bool.false_and, Bool.and_false, Bool.or_true, Bool.true_or, Bool.or_false, Bool.false_or, Bool.false_eq_true, Bool.true_eq_false, int_n, bool_n, list_n, Sc.str_s, Int.reduceEq, Int.reduceLT, Int.reduceLE, Int.reduceNe, decide_true, decide_false, decide_not, eq_self, Classical.not_not, List.getElem?_cons_zero, List.getElem?_cons_succ, beq_self_eq_true, bne_self_eq_false]
      · by_cases d3 : 57 < c
        · by_cases d2 : c = 95
          · have g := good (by simp [d2])
            subst d2
            simp only [k1, ej, l1, hs, g, Int.natCast_nonneg, bne_iff_ne, beq_iff_eq, ne_eq, decide_eq_true_eq, Bool.and_eq_true, Bool.or_eq_true, Bool.not_eq_true', decide_eq_false_iff_not, beq_eq_false_iff_ne, bne_eq_false_iff_eq, not_true_eq_false, not_false_eq_true, if_true, if_false, reduceIte, and_true, true_and, and_false, false_and, or_false, false_or, or_true, true_or, List.getD_cons_zero, List.getD_cons_succ, List.length_cons, List.length_nil, List.cons_append, List.nil_append, Nat.reduceAdd, Nat.reduceEqDiff, reduceCtorEq, Bool.not_true, Bool.not_false, Bool.true_and, Bool.and_true, Bool.false_and, Bool.and_false, Bool.or_true, Bool.true_or, Bool.or_false, Bool.false_or, Bool.false_eq_true, Bool.true_eq_false, int_n, bool_n, list_n, Sc.str_s, Int.reduceEq, Int.reduceLT, Int.reduceLE, Int.reduceNe, decide_true, decide_false, decide_not, eq_self, Classical.not_not, List.getElem?_cons_zero, List.getElem?_cons_succ, beq_self_eq_true, bne_self_eq_false]
          · have b := bad (by have : ¬ c ≤ 57 := by omega
                              simp [this, d2])
            simp only [k1, ej, l1, d1, d2, d3, b, Int.natCast_nonneg, bne_iff_ne, beq_iff_eq, ne_eq, decide_eq_true_eq, Bool.and_eq_true, Bool.or_eq_true, Bool.not_eq_true', decide_eq_false_iff_not, beq_eq_false_iff_ne, bne_eq_false_iff_eq, not_true_eq_false, not_false_eq_true, if_true, if_false, reduceIte, and_true, true_and, and_false, false_and, or_false, false_or, or_true, true_or, List.getD_cons_zero, List.getD_cons_succ, List.length_cons, List.length_nil, List.cons_append, List.nil_append, Nat.reduceAdd, Nat.reduceEqDiff, reduceCtorEq, Bool.not_true, Bool.not_false, Bool.true_and, Bool.and_true, Bool.false_and, Bool.and_false, Bool.or_true, Bool.true_or, Bool.or_false, Bool.false_or, Bool.false_eq_true, Bool.true_eq_false, int_n, bool_n, list_n, Sc.str_s, Int.reduceEq, Int.reduceLT, Int.reduceLE, Int.reduceNe, decide_true, decide_false, decide_not, eq_self, Classical.not_not, List.getElem?_cons_zero, List.getElem?_cons_succ, beq_self_eq_true, bne_self_eq_false]
        · have g := good (by have h1 : 48 ≤ c := by omega
                             have h2 : c ≤ 57 := by omega
                             simp [h1, h2])
          simp only [k1, ej, l1, d1, d3, hs, g, Int.natCast_nonneg, bne_iff_ne, beq_iff_eq, ne_eq, decide_eq_true_eq, Bool.and_eq_true, Bool.or_eq_true, Bool.not_eq_true', decide_eq_false_iff_not, beq_eq_false_iff_ne, bne_eq_false_iff_eq, not_true_eq_false, not_false_eq_true, if_true, if_false, reduceIte, and_true, true_and, and_false, false_and, or_false, false_or, or_true, true_or, List.getD_cons_zero, List.getD_cons_succ, List.length_cons, List.length_nil, List.cons_append, List.nil_append, Nat.reduceAdd, Nat.reduceEqDiff, reduceCtorEq, Bool.not_true, Bool.not_false, Bool.true_and, Bool.and_true, Bool.false_and, Bool.and_false, Bool.or_true, Bool.true_or, Bool.or_false, Bool.false_or, Bool.false_eq_true, Bool.true_eq_false, int_n, bool_n, list_n, Sc.str_s, Int.reduceEq, Int.reduceLT, Int.reduceLE, Int.reduceNe, decide_true, decide_false, decide_not, eq_self, Classical.not_not, List.getElem?_cons_zero, List.getElem?_cons_succ, beq_self_eq_true, bne_self_eq_false]
    · rw [l1] at good bad
      have g := good (by simp)
      simp only [k1, ej, l1, hs, g, Int.natCast_nonneg, bne_iff_ne, beq_iff_eq, ne_eq, decide_eq_true_eq, Bool.and_eq_true, Bool.or_eq_true, Bool.not_eq_true', decide_eq_false_iff_not, beq_eq_false_iff_ne, bne_eq_false_iff_eq, not_true_eq_false, not_false_eq_true, if_true, if_false, reduceIte, and_true, true_and, and_false, false_and, or_false, false_or, or_true, true_or, List.getD_cons_zero, List.getD_cons_succ, List.length_cons, List.length_nil, List.cons_append, List.nil_append, Nat.reduceAdd, Nat.reduceEqDiff, reduceCtorEq, Bool.not_true, Bool.not_false, Bool.true_and, Bool.and_true, Bool.false_and, Bool.and_false, Bool.or_true, Bool.true_or, Bool.or_false, Bool.false_or, Bool.false_eq_true, Bool.true_eq_false, int_n, bool_n, list_n, Sc.str_s, Int.reduceEq, Int.reduceLT, Int.reduceLE, Int.reduceNe, decide_true, decide_false, decide_not, eq_self, Classical.not_not, List.getElem?_cons_zero, List.getElem?_cons_succ, beq_self_eq_true, bne_self_eq_false]
  · have k1 : ¬ (j : Int) < x.size := by omega
    have e : j = x.size := by omega
    subst e
    rw [nameG_all hn]
    simp only [k1, Int.natCast_nonneg, bne_iff_ne, beq_iff_eq, ne_eq, decide_eq_true_eq, Bool.and_eq_true, Bool.or_eq_true, Bool.not_eq_true', decide_eq_false_iff_not, beq_eq_false_iff_ne, bne_eq_false_iff_eq, not_true_eq_false, not_false_eq_true, if_true, if_false, reduceIte, and_true, true_and, and_false, false_and, or_false, false_or, or_true, true_or, List.getD_cons_zero, List.getD_cons_succ, List.length_cons, List.length_nil, List.cons_append, List.nil_append, Nat.reduceAdd, Nat.reduceEqDiff, reduceCtorEq, Bool.not_true, Bool.not_false, Bool.true_and, Bool.and_true, Bool.false_and, Bool.and_false, Bool.or_true, Bool.true_or, Bool.or_false, Bool.false_or, Bool.false_eq_true, Bool.true_eq_false, int_n, bool_n, list_n, Sc.str_s, Int.reduceEq, Int.reduceLT, Int.reduceLE, Int.reduceNe, decide_true, decide_false, decide_not, eq_self, Classical.not_not, List.getElem?_cons_zero, List.getElem?_cons_succ, beq_self_eq_true, bne_self_eq_false]
theorem rncheck_F (x : ByteArray) (hx : x.size ≤ 17592186044416) : k_simulatorref07_Check.F [.s x] = some [.i (nameV x)] := by
  simp only [k_simulatorref07_Check_F, tk_simulatorref07_Check, k_simulatorref07_letter_f, k_simulatorref07_Keyword_f, rletter_F, rkeyword_F, Go.Proofs.Ytpmplppkjedpiaa.T.den, Ex.ev, U1.ev, U2.ev, U3.ev, gam, List.map, List.getD_cons_zero, List.getD_cons_succ, List.length, List.cons_append, List.nil_append, if_true, int_n, bool_n, list_n, Sc.str_s, Nat.reduceEqDiff, if_false, List.getElem?_cons_zero, List.getElem?_cons_succ]
  unfold nameV
  by_cases c1 : x.size = 0
  · have c0 : ((x.size : Nat) : Int) < 1 := by omega
    rw [if_pos c1]
    simp only [c0, Int.natCast_nonneg, bne_iff_ne, beq_iff_eq, ne_eq, decide_eq_true_eq, Bool.and_eq_true, Bool.or_eq_true, Bool.not_eq_true', decide_eq_false_iff_not, beq_eq_false_iff_ne, bne_eq_false_iff_eq, not_true_eq_false, not_false_eq_true, if_true, if_false, reduceIte, and_true, true_and, and_false, false_and, or_false, false_or, or_true, true_or, List.getD_cons_zero, List.getD_cons_succ, List.length_cons, List.length_nil, List.cons_append, List.nil_append, Nat.reduceAdd, Nat.reduceEqDiff, reduceCtorEq, Bool.not_true, Bool.not_false, Bool.true_and, Bool.and_true, Bool.false_and, Bool.and_false, Bool.or_true, Bool.true_or, Bool.or_false, Bool.false_or, Bool.false_eq_true, Bool.true_eq_false, int_n, bool_n, list_n, Sc.str_s, Int.reduceEq, Int.reduceLT, Int.reduceLE, Int.reduceNe, decide_true, decide_false, decide_not, eq_self, Classical.not_not, List.getElem?_cons_zero, List.getElem?_cons_succ, beq_self_eq_true, bne_self_eq_false]
  have c0 : ¬ ((x.size : Nat) : Int) < 1 := by omega
  have c1' : (0 : Int) < x.size := by omega
  by_cases c2 : 24 < x.size
  · have c2' : (24 : Int) < x.size := by omega
    simp only [c0, c1, c2, c2', Int.natCast_nonneg, bne_iff_ne, beq_iff_eq, ne_eq, decide_eq_true_eq, Bool.and_eq_true, Bool.or_eq_true, Bool.not_eq_true', decide_eq_false_iff_not, beq_eq_false_iff_ne, bne_eq_false_iff_eq, not_true_eq_false, not_false_eq_true, if_true, if_false, reduceIte, and_true, true_and, and_false, false_and, or_false, false_or, or_true, true_or, List.getD_cons_zero, List.getD_cons_succ, List.length_cons, List.length_nil, List.cons_append, List.nil_append, Nat.reduceAdd, Nat.reduceEqDiff, reduceCtorEq, Bool.not_true, Bool.not_false, Bool.true_and, Bool.and_true, Bool.false_and, Bool.and_false, Bool.or_true, Bool.true_or, Bool.or_false, Bool.false_or, Bool.false_eq_true, Bool.true_eq_false, int_n, bool_n, list_n, Sc.str_s, Int.reduceEq, Int.reduceLT, Int.reduceLE, Int.reduceNe, decide_true, decide_false, decide_not, eq_self, Classical.not_not, List.getElem?_cons_zero, List.getElem?_cons_succ, beq_self_eq_true, bne_self_eq_false]
  have c2' : ¬ (24 : Int) < x.size := by omega
  have e0 : ((x.data.toList.getD (Int.toNat 0) 0).toNat : Int) = chrAt x 0 := rfl
  cases c3 : letB (chrAt x 0)
  · simp only [c0, c1, c1', c2, c2', e0, c3, Int.natCast_nonneg, bne_iff_ne, beq_iff_eq, ne_eq, decide_eq_true_eq, Bool.and_eq_true, Bool.or_eq_true, Bool.not_eq_true', decide_eq_false_iff_not, beq_eq_false_iff_ne, bne_eq_false_iff_eq, not_true_eq_false, not_false_eq_true, if_true, if_false, reduceIte, and_true, true_and, and_false, false_and, or_false, false_or, or_true, true_or, List.getD_cons_zero, List.getD_cons_succ, List.length_cons, List.length_nil, List.cons_append, List.nil_append, Nat.reduceAdd, Nat.reduceEqDiff, reduceCtorEq, Bool.not_true, Bool.not_false, Bool.true_and, Bool.and_true, Bool.false_and, Bool.and_false, Bool.or_true, Bool.true_or, Bool.or_false, Bool.false_or, Bool.false_eq_true, Bool.true_eq_false, int_n, bool_n, list_n, Sc.str_s, Int.reduceEq, Int.reduceLT, Int.reduceLE, Int.reduceNe, decide_true, decide_false, decide_not, eq_self, Classical.not_not, List.getElem?_cons_zero, List.getElem?_cons_succ, beq_self_eq_true, bne_self_eq_false]
  cases c4 : kwB x kwords
  rotate_left
  · simp only [c0, c1, c1', c2, c2', e0, c3, c4, Int.natCast_nonneg, bne_iff_ne, beq_iff_eq, ne_eq, decide_eq_true_eq, Bool.and_eq_true, Bool.or_eq_true, Bool.not_eq_true', decide_eq_false_iff_not, beq_eq_false_iff_ne, bne_eq_false_iff_eq, not_true_eq_false, not_false_eq_true, if_true, if_false, reduceIte, and_true, true_and, and_false, false_and, or_false, false_or, or_true, true_or, List.getD_cons_zero, List.getD_cons_succ, List.length_cons, List.length_nil, List.cons_append, List.nil_append, Nat.reduceAdd, Nat.reduceEqDiff, reduceCtorEq, Bool.not_true, Bool.not_false, Bool.true_and, Bool.and_true, Bool.false_and, Bool.and_false, Bool.or_true, Bool.true_or, Bool.or_false, Bool.false_or, Bool.false_eq_true, Bool.true_eq_false, int_n, bool_n, list_n, Sc.str_s, Int.reduceEq, Int.reduceLT, Int.reduceLE, Int.reduceNe, decide_true, decide_false, decide_not, eq_self, Classical.not_not, List.getElem?_cons_zero, List.getElem?_cons_succ, beq_self_eq_true, bne_self_eq_false]
  simp only [c0, c1, c1', c2, c2', e0, c3, c4, Int.natCast_nonneg, bne_iff_ne, beq_iff_eq, ne_eq, decide_eq_true_eq, Bool.and_eq_true, Bool.or_eq_true, Bool.not_eq_true', decide_eq_false_iff_not, beq_eq_false_iff_ne, bne_eq_false_iff_eq, not_true_eq_false, not_false_eq_true, if_true, if_false, reduceIte, and_true, true_and, and_false, false_and, or_false, false_or, or_true, true_or, List.getD_cons_zero, List.getD_cons_succ, List.length_cons, List.length_nil, List.cons_append, List.nil_append, Nat.reduceAdd, Nat.reduceEqDiff, reduceCtorEq, Bool.not_true, Bool.not_false, Bool.true_and, Bool.and_true, Bool.false_and, Bool.and_false, Bool.or_true, Bool.true_or, Bool.or_false, Bool.false_or, Bool.false_eq_true, Bool.true_eq_false, int_n, bool_n, list_n, Sc.str_s, Int.reduceEq, Int.reduceLT, Int.reduceLE, Int.reduceNe, decide_true, decide_false, decide_not, eq_self, Classical.not_not, List.getElem?_cons_zero, List.getElem?_cons_succ, beq_self_eq_true, bne_self_eq_false]
  refine loop_rounds (S := Nat) (fun j => [.i (j : Int)]) (fun _ => some [.i (nameG x)]) (fun j => j ≤ x.size ∧ ∀ l, l < j → chrB (chrAt x l) = true) (fun j => x.size - j) ?_ 0 ⟨Nat.zero_le _, fun l hl => by omega⟩ (by omega)
  rintro j rec ⟨hj, hn⟩ hrec
  by_cases hlt : j < x.size
  · have k1 : (j : Int) < x.size := by omega
    have hs := succ_w (n := x.size) hlt (by omega)
    have ej : ((x.data.toList.getD ((j : Int)).toNat 0).toNat : Int) = chrAt x j := by rw [Int.toNat_natCast]; rfl
    have good := fun (hc : chrB (chrAt x j) = true) => hrec (j + 1) ⟨by omega, fun l hl => by
          by_cases z : l = j
          · subst z; exact hc
          · exact hn l (by omega)⟩ (by omega)
    have bad := nameG_at (x := x) hlt
    unfold chrB at good bad
    generalize chrAt x j = c at *
    cases l1 : letB c
    · rw [l1] at good bad
      by_cases d2 : c = 95
      · have g := good (by simp [d2])
        subst d2
        simp only [k1, ej, l1, hs, g, Int.natCast_nonneg, bne_iff_ne, beq_iff_eq, ne_eq, decide_eq_true_eq, Bool.and_eq_true, Bool.or_eq_true, Bool.not_eq_true', decide_eq_false_iff_not, beq_eq_false_iff_ne, bne_eq_false_iff_eq, not_true_eq_false, not_false_eq_true, if_true, if_false, reduceIte, and_true, true_and, and_false, false_and, or_false, false_or, or_true, true_or, List.getD_cons_zero, List.getD_cons_succ, List.length_cons, List.length_nil, List.cons_append, List.nil_append, Nat.reduceAdd, Nat.reduceEqDiff, reduceCtorEq, Bool.not_true, Bool.not_false, Bool.true_and, Bool.and_true, Bool.false_and, Bool.and_false, Bool.or_true, Bool.true_or, Bool.or_false, Bool.false_or, Bool.false_eq_true, Bool.true_eq_false, int_n, bool_n, list_n, Sc.str_s, Int.reduceEq, Int.reduceLT, Int.reduceLE, Int.reduceNe, decide_true, decide_false, decide_not, eq_self, Classical.not_not, List.getElem?_cons_zero, List.getElem?_cons_succ, beq_self_eq_true, bne_self_eq_false]
      by_cases d1 : c < 48
      · have b := bad (by have : ¬ 48 ≤ c := by omega
                          simp [this, d2])
        simp only [k1, ej, l1, d1, d2, b, Int.natCast_nonneg, bne_iff_ne, beq_iff_eq, ne_eq, decide_eq_true_eq, Bool.and_eq_true, Bool.or_eq_true, Bool.not_eq_true', decide_eq_false_iff_not, beq_eq_false_iff_ne, bne_eq_false_iff_eq, not_true_eq_false, not_false_eq_true, if_true, if_false, reduceIte, and_true, true_and, and_false, false_and, or_false, false_or, or_true, true_or, List.getD_cons_zero, List.getD_cons_succ, List.length_cons, List.length_nil, List.cons_append, List.nil_append, Nat.reduceAdd, Nat.reduceEqDiff, reduceCtorEq, Bool.not_true, Bool.not_false, Bool.true_and, Bool.and_true, Bool.false_and, Bool.and_false, Bool.or_true, Bool.true_or, Bool.or_false, Bool.false_or, Bool.false_eq_true, Bool.true_eq_false, int_n, bool_n, list_n, Sc.str_s, Int.reduceEq, Int.reduceLT, Int.reduceLE, Int.reduceNe, decide_true, decide_false, decide_not, eq_self, Classical.not_not, List.getElem?_cons_zero, List.getElem?_cons_succ, beq_self_eq_true, bne_self_eq_false]
      · by_cases d3 : 57 < c
        · have b := bad (by have : ¬ c ≤ 57 := by omega
                            simp [this, d2])
          simp only [k1, ej, l1, d1, d2, d3, b, Int.natCast_nonneg, bne_iff_ne, beq_iff_eq, ne_eq, decide_eq_true_eq, Bool.and_eq_true, Bool.or_eq_true, Bool.not_eq_true', decide_eq_false_iff_not, beq_eq_false_iff_ne, bne_eq_false_iff_eq, not_true_eq_false, not_false_eq_true, if_true, if_false, reduceIte, and_true, true_and, and_false, false_and, or_false, false_or, or_true, true_or, List.getD_cons_zero, List.getD_cons_succ, List.length_cons, List.length_nil, List.cons_append, List.nil_append, Nat.reduceAdd, Nat.reduceEqDiff, reduceCtorEq, Bool.not_true, Bool.not_false, Bool.true_and, Bool.and_true, Bool.false_and, Bool.and_false, Bool.or_true, Bool.true_or, Bool.or_false, Bool.false_or, Bool.false_eq_true, Bool.true_eq_false, int_n, bool_n, list_n, Sc.str_s, Int.reduceEq, Int.reduceLT, Int.reduceLE, Int.reduceNe, decide_true, decide_false, decide_not, eq_self, Classical.not_not, List.getElem?_cons_zero, List.getElem?_cons_succ, beq_self_eq_true, bne_self_eq_false]
        · have g := good (by have h1 : 48 ≤ c := by omega
                             have h2 : c ≤ 57 := by omega
                             simp [h1, h2])
          simp only [k1, ej, l1, d1, d2, d3, hs, g, Int.natCast_nonneg, bne_iff_ne, beq_iff_eq, ne_eq, decide_eq_true_eq, Bool.and_eq_true, Bool.or_eq_true, Bool.not_eq_true', decide_eq_false_iff_not, beq_eq_false_iff_ne, bne_eq_false_iff_eq, not_true_eq_false, not_false_eq_true, if_true, if_false, reduceIte, and_true, true_and, and_false, false_and, or_false, false_or, or_true, true_or, List.getD_cons_zero, List.getD_cons_succ, List.length_cons, List.length_nil, List.cons_append, List.nil_append, Nat.reduceAdd, Nat.reduceEqDiff, reduceCtorEq, Bool.not_true, Bool.not_false, Bool.true_and, Bool.and_true, Bool.false_and, Bool.and_false, Bool.or_true, Bool.true_or, Bool.or_false, Bool.false_or, Bool.false_eq_true, Bool.true_eq_false, int_n, bool_n, list_n, Sc.str_s, Int.reduceEq, Int.reduceLT, Int.reduceLE, Int.reduceNe, decide_true, decide_false, decide_not, eq_self, Classical.not_not, List.getElem?_cons_zero, List.getElem?_cons_succ, beq_self_eq_true, bne_self_eq_false]
    · rw [l1] at good bad
      have g := good (by simp)
      simp only [k1, ej, l1, hs, g, Int.natCast_nonneg, bne_iff_ne, beq_iff_eq, ne_eq, decide_eq_true_eq, Bool.and_eq_true, Bool.or_eq_true, Bool.not_eq_true', decide_eq_false_iff_not, beq_eq_false_iff_ne, bne_eq_false_iff_eq, not_true_eq_false, not_false_eq_true, if_true, if_false, reduceIte, and_true, true_and, and_false, false_and, or_false, false_or, or_true, true_or, List.getD_cons_zero, List.getD_cons_succ, List.length_cons, List.length_nil, List.cons_append, List.nil_append, Nat.reduceAdd, Nat.reduceEqDiff, reduceCtorEq, Bool.not_true, Bool.not_false, Bool.true_and, Bool.and_true, Bool.false_and, Bool.and_false, Bool.or_true, Bool.true_or, Bool.or_false, Bool.false_or, Bool.false_eq_true, Bool.true_eq_false, int_n, bool_n, list_n, Sc.str_s, Int.reduceEq, Int.reduceLT, Int.reduceLE, Int.reduceNe, decide_true, decide_false, decide_not, eq_self, Classical.not_not, List.getElem?_cons_zero, List.getElem?_cons_succ, beq_self_eq_true, bne_self_eq_false]
  · have k1 : ¬ (j : Int) < x.size := by omega
    have e : j = x.size := by omega
    subst e
    rw [nameG_all hn]
    simp only [k1, Int.natCast_nonneg, bne_iff_ne, beq_iff_eq, ne_eq, decide_eq_true_eq, Bool.and_eq_true, Bool.or_eq_true, Bool.not_eq_true', decide_eq_false_iff_not, beq_eq_false_iff_ne, bne_eq_false_iff_eq, not_true_eq_false, not_false_eq_true, if_true, if_false, reduceIte, and_true, true_and, and_false, false_and, or_false, false_or, or_true, true_or, List.getD_cons_zero, List.getD_cons_succ, List.length_cons, List.length_nil, List.cons_append, List.nil_append, Nat.reduceAdd, Nat.reduceEqDiff, reduceCtorEq, Bool.not_true, Bool.not_false, Bool.true_and, Bool.and_true, Bool.false_and, Bool.and_false, Bool.or_true, Bool.true_or, Bool.or_false, Bool.false_or, Bool.false_eq_true, Bool.true_eq_false, int_n, bool_n, list_n, Sc.str_s, Int.reduceEq, Int.reduceLT, Int.reduceLE, Int.reduceNe, decide_true, decide_false, decide_not, eq_self, Classical.not_not, List.getElem?_cons_zero, List.getElem?_cons_succ, beq_self_eq_true, bne_self_eq_false]
end Go.Proofs.Ytpmplppkjedpiaa
