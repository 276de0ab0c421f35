/-
  Different distributions have different texts: plain facts.
-/
import Derived.Test.YtmaocifplceopaaDoorT04e
namespace Go.Proofs.YtmaocifplceopaaDoor
set_option linter.unusedSimpArgs false
set_option linter.unusedVariables false

def spell (l : List UInt8) : Nat := l.foldl (fun a c => 10 * a + (c.toNat - 48)) 0
theorem dig_toNat {k : Nat} (h : k < 10) : (UInt8.ofNat (48 + k)).toNat = 48 + k := by
  rw [UInt8.toNat_ofNat']; omega
theorem spell_dec (u : Nat) : spell (Lib.decDigits u) = u := by
  induction u using Nat.strongRecOn with
  | _ u ih =>
    by_cases h : u < 10
    · rw [Lib.decDigits_one h]
      show 10 * 0 + ((UInt8.ofNat (48 + u)).toNat - 48) = u
      rw [dig_toNat h]; omega
    · rw [Lib.decDigits, dif_neg h]
      unfold spell at ih ⊢
      rw [List.foldl_append, ih (u / 10) (by omega)]
      show 10 * (u / 10) + ((UInt8.ofNat (48 + u % 10)).toNat - 48) = u
      rw [dig_toNat (by omega)]; omega
theorem dec_inj {u v : Nat} (h : Lib.decDigits u = Lib.decDigits v) : u = v := by rw [← spell_dec u, h, spell_dec]
def isDig (c : UInt8) : Prop := 48 ≤ c.toNat ∧ c.toNat ≤ 57
theorem dec_dig (u : Nat) : ∀ c ∈ Lib.decDigits u, isDig c := by
  induction u using Nat.strongRecOn with
  | _ u ih =>
    intro c hc
    by_cases h : u < 10
    · rw [Lib.decDigits_one h, List.mem_singleton] at hc
      rw [hc]; unfold isDig; rw [dig_toNat h]; omega
    · rw [Lib.decDigits, dif_neg h] at hc
      rcases List.mem_append.1 hc with hc | hc
      · exact ih (u / 10) (by omega) c hc
      · rw [List.mem_singleton.1 hc]; unfold isDig; rw [dig_toNat (by omega)]; omega
theorem itoa_dig {n : Int} (h : 0 ≤ n) : ∀ c ∈ Lib.itoa n, isDig c := by rw [itoa_nat n h]; exact dec_dig _
theorem itoa_inj0 {n m : Int} (h1 : 0 ≤ n) (h2 : 0 ≤ m) (h : Lib.itoa n = Lib.itoa m) : n = m := by
  rw [itoa_nat n h1, itoa_nat m h2] at h
  have := dec_inj h; omega
/-- Nothing follows, or something that is no digit. -/
def endsD : List UInt8 → Prop
  | [] => True
  | c :: _ => ¬ isDig c
theorem split_dig : ∀ (x y r s : List UInt8), (∀ c ∈ x, isDig c) → (∀ c ∈ y, isDig c) → endsD r → endsD s → x ++ r = y ++ s → x = y ∧ r = s
  | [], [], r, s, _, _, _, _, h => ⟨rfl, h⟩
  | [], d :: y, r, s, _, hy, hr, _, h => by
    have h : r = d :: (y ++ s) := h
    rw [h] at hr
    exact absurd (hy d (List.mem_cons_self ..)) hr
  | c :: x, [], r, s, hx, _, _, hs, h => by
    have h : c :: (x ++ r) = s := h
    rw [← h] at hs
    exact absurd (hx c (List.mem_cons_self ..)) hs
  | c :: x, d :: y, r, s, hx, hy, hr, hs, h => by
    simp only [List.cons_append, List.cons.injEq] at h
    obtain ⟨e, f⟩ := split_dig x y r s (fun c hc => hx c (List.mem_cons_of_mem _ hc)) (fun c hc => hy c (List.mem_cons_of_mem _ hc)) hr hs h.2
    exact ⟨by rw [h.1, e], f⟩
theorem e32 (l : List UInt8) : endsD (32 :: l) := by
  show ¬ (48 ≤ (32 : UInt8).toNat ∧ (32 : UInt8).toNat ≤ 57)
  decide
theorem e58 (l : List UInt8) : endsD (58 :: l) := by
  show ¬ (48 ≤ (58 : UInt8).toNat ∧ (58 : UInt8).toNat ≤ 57)
  decide
theorem flat_end (l : List (Int × Int)) : endsD (l.flatMap tabP) := by
  cases l with
  | nil => trivial
  | cons p r => exact e32 _
theorem flat_inj : ∀ (l m : List (Int × Int)), (∀ p ∈ l, 0 ≤ p.1 ∧ 0 ≤ p.2) → (∀ p ∈ m, 0 ≤ p.1 ∧ 0 ≤ p.2) → l.flatMap tabP = m.flatMap tabP → l = m
  | [], [], _, _, _ => rfl
  | [], p :: m, _, _, h => by simp [tabP] at h
  | p :: l, [], _, _, h => by simp [tabP] at h
  | p :: l, q :: m, hl, hm, h => by
    obtain ⟨a1, a2⟩ := hl p (List.mem_cons_self ..)
    obtain ⟨b1, b2⟩ := hm q (List.mem_cons_self ..)
    simp only [List.flatMap_cons, tabP, List.cons_append, List.append_assoc, List.cons.injEq, true_and] at h
    obtain ⟨e1, h⟩ := split_dig _ _ _ _ (itoa_dig a1) (itoa_dig b1) (e58 _) (e58 _) h
    simp only [List.cons.injEq, true_and] at h
    obtain ⟨e2, h⟩ := split_dig _ _ _ _ (itoa_dig a2) (itoa_dig b2) (flat_end l) (flat_end m) h
    have := flat_inj l m (fun p hp => hl p (List.mem_cons_of_mem _ hp)) (fun p hp => hm p (List.mem_cons_of_mem _ hp)) h
    rw [this, show p = q from Prod.ext (itoa_inj0 a1 b1 e1) (itoa_inj0 a2 b2 e2)]
theorem zip_inj : ∀ (a b c d : List Int), a.length = b.length → c.length = d.length → a.zip b = c.zip d → a = c ∧ b = d
  | [], [], [], [], _, _, _ => ⟨rfl, rfl⟩
  | x :: a, y :: b, z :: c, t :: d, h1, h2, h => by
    simp only [List.zip_cons_cons, List.cons.injEq, Prod.mk.injEq] at h
    obtain ⟨e1, e2⟩ := zip_inj a b c d (by simpa using h1) (by simpa using h2) h.2
    rw [h.1.1, h.1.2, e1, e2]; exact ⟨rfl, rfl⟩
  | [], [], z :: c, t :: d, _, _, h => by simp at h
  | x :: a, y :: b, [], [], _, _, h => by simp at h
  | [], _ :: _, _, _, h, _, _ => by simp at h
  | _ :: _, [], _, _, h, _, _ => by simp at h
  | _, _, [], _ :: _, _, h, _ => by simp at h
  | _, _, _ :: _, [], _, h, _ => by simp at h
theorem textD_ok {op a b n : Int} {vs ws : List Int} (h0 : chkD op a b n vs ws = 0) : textD op a b n vs ws = if op = 1 then joinL wConst [a] else if op = 2 then joinL wUni [a, b] else if op = 4 then joinL wSum [n, a, b] else if op = 5 then joinL wGeom [a, b] else tabL vs ws vs.length := by
  unfold textD; rw [if_neg (fun h => h h0)]
def headOf (op : Int) : UInt8 := if op = 1 then 99 else if op = 2 then 117 else if op = 4 then 115 else if op = 5 then 103 else 116
theorem text_head {op a b n : Int} {vs ws : List Int} (h0 : chkD op a b n vs ws = 0) : ∃ r, textD op a b n vs ws = headOf op :: r := by
  rw [textD_ok h0]
  rcases chk_op h0 with rfl | rfl | rfl | rfl | rfl
  · exact ⟨_, rfl⟩
  · exact ⟨_, rfl⟩
  · exact ⟨_, rfl⟩
  · exact ⟨_, rfl⟩
  · exact ⟨_, rfl⟩
theorem text_none (op a b n : Int) (vs ws : List Int) : textD op a b n vs ws = [] ↔ chkD op a b n vs ws ≠ 0 := by
  by_cases h0 : chkD op a b n vs ws = 0
  · obtain ⟨r, h⟩ := text_head h0
    rw [h, h0]; simp
  · unfold textD; rw [if_pos h0]; simp [h0]
theorem chk_unused {op a b n : Int} {vs ws : List Int} (h : chkD op a b n vs ws = 0) : unusedB op a b n vs.length ws.length = true := by
  unfold chkD at h
  cases hu : unusedB op a b n vs.length ws.length
  · rw [hu] at h; simp at h
  · rfl
theorem nil_of {l : List Int} (h : l.length = 0) : l = [] := List.eq_nil_of_length_eq_zero h
/-- Accepted distributions with one text are one. -/
theorem text_inj {op a b n op' a' b' n' : Int} {vs ws vs' ws' : List Int} (h0 : chkD op a b n vs ws = 0) (h1 : chkD op' a' b' n' vs' ws' = 0) (h : textD op a b n vs ws = textD op' a' b' n' vs' ws') :
    op = op' ∧ a = a' ∧ b = b' ∧ n = n' ∧ vs = vs' ∧ ws = ws' := by
  obtain ⟨r, e1⟩ := text_head h0
  obtain ⟨s, e2⟩ := text_head h1
  have hh : headOf op = headOf op' := by
    rw [e1, e2] at h
    exact (List.cons.inj h).1
  have hop : op = op' := by
    rcases chk_op h0 with rfl | rfl | rfl | rfl | rfl <;> rcases chk_op h1 with rfl | rfl | rfl | rfl | rfl <;> first | rfl | (exact absurd hh (by decide))
  subst hop
  rw [textD_ok h0, textD_ok h1] at h
  have u := chk_unused h0
  have v := chk_unused h1
  unfold unusedB at u v
  rcases chk_op h0 with rfl | rfl | rfl | rfl | rfl
  · have c := chk1 h0
    have d := chk1 h1
    simp only [Int.reduceEq, if_true, if_false, Bool.and_eq_true, decide_eq_true_eq] at u v
    have h : wConst ++ 32 :: Lib.itoa a = wConst ++ 32 :: Lib.itoa a' := h
    have h := List.append_cancel_left h
    simp only [List.cons.injEq, true_and] at h
    refine ⟨rfl, itoa_inj0 c.1 d.1 h, by omega, by omega, ?_, ?_⟩
    · rw [nil_of (l := vs) (by omega), nil_of (l := vs') (by omega)]
    · rw [nil_of (l := ws) (by omega), nil_of (l := ws') (by omega)]
  · have c := chk2 h0
    have d := chk2 h1
    simp only [Int.reduceEq, if_true, if_false, Bool.and_eq_true, decide_eq_true_eq] at u v
    have h : wUni ++ 32 :: Lib.itoa a ++ 32 :: Lib.itoa b = wUni ++ 32 :: Lib.itoa a' ++ 32 :: Lib.itoa b' := h
    rw [List.append_assoc, List.append_assoc] at h
    have h := List.append_cancel_left h
    simp only [List.cons_append, List.cons.injEq, true_and] at h
    obtain ⟨f1, h⟩ := split_dig _ _ _ _ (itoa_dig (by omega)) (itoa_dig (by omega)) (e32 _) (e32 _) h
    simp only [List.cons.injEq, true_and] at h
    refine ⟨rfl, itoa_inj0 (by omega) (by omega) f1, itoa_inj0 (by omega) (by omega) h, by omega, ?_, ?_⟩
    · rw [nil_of (l := vs) (by omega), nil_of (l := vs') (by omega)]
    · rw [nil_of (l := ws) (by omega), nil_of (l := ws') (by omega)]
  · obtain ⟨l1, l2, l3, l4, l5⟩ := chk3 h0
    obtain ⟨m1, m2, m3, m4, m5⟩ := chk3 h1
    simp only [Int.reduceEq, if_true, if_false, Bool.and_eq_true, decide_eq_true_eq] at u v
    have h : tabL vs ws vs.length = tabL vs' ws' vs'.length := h
    unfold tabL at h
    have h := List.append_cancel_left h
    rw [List.take_of_length_le (by rw [List.length_zip]; omega), List.take_of_length_le (by rw [List.length_zip]; omega)] at h
    have pos : ∀ (vs ws : List Int), (∀ x ∈ vs, 0 ≤ x ∧ x ≤ 1000000000) → (∀ x ∈ ws, 1 ≤ x ∧ x ≤ 1000) → ∀ p ∈ vs.zip ws, 0 ≤ p.1 ∧ 0 ≤ p.2 := fun vs ws a b p hp => by
      have h1 := a _ (List.of_mem_zip hp).1
      have h2 := b _ (List.of_mem_zip hp).2
      omega
    have h := flat_inj _ _ (pos vs ws l4 l5) (pos vs' ws' m4 m5) h
    obtain ⟨q1, q2⟩ := zip_inj _ _ _ _ l1 m1 h
    exact ⟨rfl, by omega, by omega, by omega, q1, q2⟩
  · have c := chk4 h0
    have d := chk4 h1
    simp only [Int.reduceEq, if_true, if_false, Bool.and_eq_true, decide_eq_true_eq] at u v
    have h : wSum ++ 32 :: Lib.itoa n ++ 32 :: Lib.itoa a ++ 32 :: Lib.itoa b = wSum ++ 32 :: Lib.itoa n' ++ 32 :: Lib.itoa a' ++ 32 :: Lib.itoa b' := h
    rw [List.append_assoc, List.append_assoc, List.append_assoc, List.append_assoc] at h
    have h := List.append_cancel_left h
    simp only [List.cons_append, List.cons.injEq, true_and] at h
    obtain ⟨f0, h⟩ := split_dig _ _ _ _ (itoa_dig (by omega)) (itoa_dig (by omega)) (e32 _) (e32 _) h
    simp only [List.cons.injEq, true_and] at h
    obtain ⟨f1, h⟩ := split_dig _ _ _ _ (itoa_dig (by omega)) (itoa_dig (by omega)) (e32 _) (e32 _) h
    simp only [List.cons.injEq, true_and] at h
    refine ⟨rfl, itoa_inj0 (by omega) (by omega) f1, itoa_inj0 (by omega) (by omega) h, itoa_inj0 (by omega) (by omega) f0, ?_, ?_⟩
    · rw [nil_of (l := vs) (by omega), nil_of (l := vs') (by omega)]
    · rw [nil_of (l := ws) (by omega), nil_of (l := ws') (by omega)]
  · have c := chk5 h0
    have d := chk5 h1
    simp only [Int.reduceEq, if_true, if_false, Bool.and_eq_true, decide_eq_true_eq] at u v
    have h : wGeom ++ 32 :: Lib.itoa a ++ 32 :: Lib.itoa b = wGeom ++ 32 :: Lib.itoa a' ++ 32 :: Lib.itoa b' := h
    rw [List.append_assoc, List.append_assoc] at h
    have h := List.append_cancel_left h
    simp only [List.cons_append, List.cons.injEq, true_and] at h
    obtain ⟨f1, h⟩ := split_dig _ _ _ _ (itoa_dig (by omega)) (itoa_dig (by omega)) (e32 _) (e32 _) h
    simp only [List.cons.injEq, true_and] at h
    refine ⟨rfl, itoa_inj0 (by omega) (by omega) f1, itoa_inj0 (by omega) (by omega) h, by omega, ?_, ?_⟩
    · rw [nil_of (l := vs) (by omega), nil_of (l := vs') (by omega)]
    · rw [nil_of (l := ws) (by omega), nil_of (l := ws') (by omega)]
end Go.Proofs.YtmaocifplceopaaDoor
