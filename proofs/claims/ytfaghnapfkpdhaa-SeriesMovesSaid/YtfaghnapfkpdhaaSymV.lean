/-
  Regions that draw their order: every order follows the plan.
-/
import Derived.Test.YtfaghnapfkpdhaaSymU
namespace Go.Proofs.Ytfaghnapfkpdhaa
open Go.RowKit

section
variable {X : Cx} {Γ : Nat → List Sc → Option (List Sc)} {ops : List Oper} {ρ : List Sc} {σ0 : St} {items : List Item} {B : Nat} {w0 : World} {c c0 : Ct} {a : Act} {w : World}

def inS (listed : Array Bool) : Nat → Bool := fun j => listed.getD j false
def Closed (items : List Item) (S : Nat → Bool) : Prop := ∀ (j : Nat) (x : Item), items[j]? = some x → S j = true → ∀ k, x.pre.testBit k = true → S k = true

theorem fitsI_spec {l : List Item} {x : Item} (h : fitsI l x = true) {j : Nat} {y : Item} (hy : l[j]? = some y) (hp : x.pre.testBit j = false) :
    (∀ p ∈ y.r.nb, p ∉ x.r.nb) ∧ (∀ p ∈ y.r.nr, p ∉ x.r.nr) ∧ (∀ n, y.wr.testBit n = true → x.rd.testBit n = false ∧ x.wr.testBit n = false) ∧ (∀ n, y.rd.testBit n = true → x.wr.testBit n = false) := by
  unfold fitsI at h
  have := List.all_eq_true.1 h (y, j) (by
    rw [List.mem_iff_getElem?]
    exact ⟨j, by rw [List.getElem?_zipIdx, hy]; simp⟩)
  simp only [Bool.and_eq_true, hp, Bool.false_or, List.all_eq_true] at this
  obtain ⟨⟨h1, h2⟩, h3, h4⟩ := this
  refine ⟨fun p hp' hm => ?_, fun p hp' hm => ?_, fun n hn => ⟨?_, ?_⟩, fun n hn => ?_⟩
  · have := h1 p hp'; simp [hasN_mem.2 hm] at this
  · have := h2 p hp'; simp [hasN_mem.2 hm] at this
  · cases hb : x.rd.testBit n
    · rfl
    · exact (land_zero h3 hn (lor_left hb)).elim
  · cases hb : x.wr.testBit n
    · rfl
    · exact (land_zero h3 hn (lor_right hb)).elim
  · cases hb : x.wr.testBit n
    · rfl
    · exact (land_zero h4 hn hb).elim
theorem fitsI_new {l : List Item} {x : Item} (h : fitsI l x = true) {j : Nat} {y : Item} (hy : l[j]? = some y) : (∀ p ∈ y.r.nb, p ∉ x.r.nb) ∧ (∀ p ∈ y.r.nr, p ∉ x.r.nr) := by
  unfold fitsI at h
  have := List.all_eq_true.1 h (y, j) (by
    rw [List.mem_iff_getElem?]
    exact ⟨j, by rw [List.getElem?_zipIdx, hy]; simp⟩)
  simp only [Bool.and_eq_true, List.all_eq_true] at this
  obtain ⟨⟨h1, h2⟩, _⟩ := this
  exact ⟨fun p hp' hm => by have := h1 p hp'; simp [hasN_mem.2 hm] at this, fun p hp' hm => by have := h2 p hp'; simp [hasN_mem.2 hm] at this⟩

theorem preOf_go (items : List Item) (k : Nat) : ∀ (l : List Edge) (acc : Nat), (l.foldl (fun acc e => if Region.binds .any e then Nat.lor acc (Nat.lor (Nat.shiftLeft 1 e.on) (match items[e.on]? with | some x => x.pre | none => 0)) else acc) acc).testBit k = true →
    acc.testBit k = true ∨ ∃ e ∈ l, Region.binds .any e = true ∧ (e.on = k ∨ ∃ y, items[e.on]? = some y ∧ y.pre.testBit k = true)
  | [], acc, h => .inl h
  | e :: l, acc, h => by
    rcases preOf_go items k l _ h with h | ⟨e', he', h⟩
    · dsimp only at h
      by_cases hb : Region.binds .any e = true
      · rw [if_pos hb] at h
        have h : (acc ||| (Nat.shiftLeft 1 e.on ||| (match items[e.on]? with | some x => x.pre | none => 0))).testBit k = true := h
        rw [Nat.testBit_or, Nat.testBit_or] at h
        simp only [Bool.or_eq_true] at h
        rcases h with h | h | h
        · exact .inl h
        · refine .inr ⟨e, List.mem_cons_self .., hb, .inl ?_⟩
          have : Nat.shiftLeft 1 e.on = 2 ^ e.on := by show 1 <<< e.on = _; rw [Nat.one_shiftLeft]
          rw [this, Nat.testBit_two_pow] at h
          simpa using h
        · refine .inr ⟨e, List.mem_cons_self .., hb, .inr ?_⟩
          split at h
          · rename_i x hx; exact ⟨x, hx, h⟩
          · simp at h
      · rw [if_neg hb] at h; exact .inl h
    · exact .inr ⟨e', List.mem_cons_of_mem _ he', h⟩
theorem preOf_spec {items : List Item} {o : Oper} {k : Nat} (h : (preOf items o).testBit k = true) : ∃ e ∈ o.after.toList, Region.binds .any e = true ∧ (e.on = k ∨ ∃ y, items[e.on]? = some y ∧ y.pre.testBit k = true) := by
  unfold preOf at h
  rcases preOf_go items k _ _ h with h | h
  · simp at h
  · exact h

/-- The state when operation i is ready, as far as it looks. -/
theorem agree_rd (hp : PlanOk X Γ ops ρ σ0 items) {S : Nat → Bool} (hS : Closed items S) {i : Nat} {x : Item} (hx : items[i]? = some x) (hpre : ∀ k, x.pre.testBit k = true → S k = true) (hi : S i = false) {l : Nat} (hl : x.rd.testBit l = true) :
    look (appl S items 0 σ0) l = look (appl allS (items.take i) 0 σ0) l := by
  have hi2 : i < items.length := (List.getElem?_eq_some_iff.1 hx).1
  have e0 : appl allS (items.take i) 0 σ0 = appl (fun j => decide (j < i)) items 0 σ0 := by
    conv => rhs; rw [← List.take_append_drop i items]
    rw [appl_append, appl_all_eq _ (items.drop i) _ _ (fun j _ => by simp; omega)]
    have : ∀ (m : List Item) (j : Nat) (σ : St), j + m.length ≤ i → appl allS m j σ = appl (fun j => decide (j < i)) m j σ := by
      intro m
      induction m with
      | nil => intro _ _ _; rfl
      | cons y m ih => intro j σ hj; simp only [List.length_cons] at hj; simp only [appl, allS, if_true]; rw [if_pos (by simp; omega)]; exact ih (j + 1) _ (by omega)
    exact this _ 0 _ (by simp; omega)
  rw [e0]
  refine appl_agree l items 0 σ0 σ0 rfl rfl (fun j y hj hw => ?_)
  simp only [Nat.zero_add]
  have hwb : y.wr.testBit l = true := by
    obtain ⟨o, _, q2, _, q4, _⟩ := hp j y hj
    rw [q4, ← q2]; exact wrBits_ok hw
  rcases Nat.lt_trichotomy j i with h | h | h
  · rw [show decide (j < i) = true by simpa using h]
    obtain ⟨o, _, _, _, _, _, _, q7, _⟩ := hp i x hx
    cases hb : x.pre.testBit j
    · have hy : (items.take i)[j]? = some y := by rw [List.getElem?_take, if_pos h]; exact hj
      have := (fitsI_spec q7 hy hb).2.2.1 l hwb
      rw [hl] at this; cases this.1
    · exact hpre j hb
  · subst h; rw [hi]; simp
  · rw [show decide (j < i) = false by simp; omega]
    cases hs : S j
    · rfl
    · obtain ⟨o, _, _, _, _, _, _, q7, _⟩ := hp j y hj
      cases hb : y.pre.testBit i
      · have hxx : (items.take j)[i]? = some x := by rw [List.getElem?_take, if_pos h]; exact hx
        have := (fitsI_spec q7 hxx hb).2.2.2 l hl
        rw [hwb] at this; cases this
      · have := hS j y hj hs i hb
        rw [hi] at this; cases this

/-- The state behind operation i. -/
theorem agree_wr (hp : PlanOk X Γ ops ρ σ0 items) {S : Nat → Bool} (hS : Closed items S) {i : Nat} {x : Item} (hx : items[i]? = some x) (hi : S i = false) {S' : Nat → Bool} (hS' : ∀ j, S' j = (S j || decide (j = i))) (l : Nat) :
    look (appl S' items 0 σ0) l = look ((appl S items 0 σ0).after x.dst x.r) l := by
  have hi2 : i < items.length := (List.getElem?_eq_some_iff.1 hx).1
  by_cases hw : Wr x.dst x.r l
  · -- items = take i, x, drop (i+1)
    have hsplit : items = items.take i ++ x :: items.drop (i + 1) := by
      conv => lhs; rw [← List.take_append_drop i items]
      congr 1
      rw [List.drop_eq_getElem_cons hi2]
      congr 1
      exact (List.getElem?_eq_some_iff.1 hx).2
    have hlen : (items.take i).length = i := by simp; omega
    have hno : ∀ j y, items[j]? = some y → i < j → Wr y.dst y.r l → S j = false := fun j y hj hlt hwy => by
      cases hs : S j
      · rfl
      · obtain ⟨o, _, q2, _, q4, _, _, q7, _⟩ := hp j y hj
        obtain ⟨o', _, p2, _, p4, _⟩ := hp i x hx
        have hxw : x.wr.testBit l = true := by rw [p4, ← p2]; exact wrBits_ok hw
        have hyw : y.wr.testBit l = true := by rw [q4, ← q2]; exact wrBits_ok hwy
        cases hb : y.pre.testBit i
        · have hxx : (items.take j)[i]? = some x := by rw [List.getElem?_take, if_pos hlt]; exact hx
          have := (fitsI_spec q7 hxx hb).2.2.1 l hxw
          rw [hyw] at this; cases this.2
        · have := hS j y hj hs i hb
          rw [hi] at this; cases this
    have e1 : look (appl S' items 0 σ0) l = look ((appl S' (items.take i) 0 σ0).after x.dst x.r) l := by
      conv => lhs; rw [hsplit]
      rw [appl_append, appl, hlen, Nat.zero_add, show S' i = true by rw [hS']; simp, if_pos rfl]
      have := appl_agree (S := S') (S' := fun _ => false) l (items.drop (i + 1)) (i + 1) ((appl S' (items.take i) 0 σ0).after x.dst x.r) ((appl S' (items.take i) 0 σ0).after x.dst x.r) rfl rfl (fun j y hj hwy => by
        rw [List.getElem?_drop] at hj
        have := hno (i + 1 + j) y hj (by omega) hwy
        rw [hS', this]; simp; omega)
      rw [this, appl_all_eq _ _ _ _ (fun _ _ => rfl)]
    rw [e1]
    exact after_same (by rw [appl_slots, appl_slots]) (.inr hw) (fun t ht => by rw [slot_out (by rw [appl_slots]; rw [appl_slots] at ht; exact ht), slot_out ht])
  · rw [after_out hw]
    refine appl_agree l items 0 σ0 σ0 rfl rfl (fun j y hj hwy => ?_)
    simp only [Nat.zero_add]
    rw [hS']
    have : j ≠ i := fun e => by subst e; rw [hx] at hj; cases hj; exact hw hwy
    simp [this]

/-- Where the run stands behind the operations of S. -/
structure Stand (B : Nat) (w0 : World) (c : Ct) (σ0 : St) (items : List Item) (ρ : List Sc) (S : Nat → Bool) (c' : Ct) (a : Act) (w : World) : Prop where
  sub : c.sub c'
  env : c'.ρ = ρ
  good : Good B w0 (appl S items 0 σ0) c' a w
  β : ∀ p, (∀ j x, items[j]? = some x → S j = true → p ∉ x.r.nb) → c'.β p = c.β p
  R : ∀ p, (∀ j x, items[j]? = some x → S j = true → p ∉ x.r.nr) → c'.R p = c.R p
end
end Go.Proofs.Ytfaghnapfkpdhaa
