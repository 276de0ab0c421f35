/-
  Regions that draw their order: the plan, and that every order follows it.
-/
import Derived.Test.YtfaghnapfkpdhaaSymT
namespace Go.Proofs.Ytfaghnapfkpdhaa
open Go.RowKit

section
variable {Γ : Nat → List Sc → Option (List Sc)} {L : Type}
theorem splitG_wp2 {b : Bool} {r : OpR} {k : OpR → T L} {ρ : List Sc} {N : Nx} {Φ : L → List Sc → Nx → Prop} (h : (splitG b r k).wp Γ ρ N Φ) :
    ∃ sv, (k { r with val := sv }).wp Γ ρ N Φ ∧ (sv = r.val ∨ ∃ e y, r.val = .c (.a (.bool e)) ∧ sv = .at (.bool (.b y)) ∧ (e.ev ρ).bool = y) := by
  unfold splitG at h
  split at h
  · rename_i x hv
    exact ⟨_, h, .inl hv.symm⟩
  · rename_i e _ hv
    simp only [T.wp] at h
    by_cases hb : (e.ev ρ).bool = true
    · rw [if_pos hb] at h
      exact ⟨_, h, .inr ⟨e, true, hv, rfl, hb⟩⟩
    · rw [if_neg hb] at h
      exact ⟨_, h, .inr ⟨e, false, hv, rfl, by simpa using hb⟩⟩
  · exact ⟨r.val, h, .inl rfl⟩
end

/-- What a planned operation does. -/
def Acts (X : Cx) (Γ : Nat → List Sc → Option (List Sc)) (ops : List Oper) (ρ : List Sc) (σ : St) (o : Oper) (x : Item) : Prop :=
  (wantedS ops σ o = some false ∧ x.r = skipR) ∨
  (wantedS ops σ o = some true ∧ ∃ r0 sv, stepR X ops σ o = some r0 ∧ planU σ o r0 = true ∧ (σ.after o.dst r0).nv ≤ ρ.length ∧ (∀ e ∈ r0.needs, (e.ev ρ).bool = true) ∧
    (∀ f es n, r0.call = some (f, es, n) → ∃ rs, Γ f (es.map (Ex.ev ρ)) = some rs ∧ rs.length = n ∧ ∀ i, i < rs.length → ρ.getD (σ.nv + i) (.i 0) = rs.getD i (.i 0)) ∧
    x.r = { r0 with val := sv } ∧ (sv = r0.val ∨ ∃ e y, r0.val = .c (.a (.bool e)) ∧ sv = .at (.bool (.b y)) ∧ (e.ev ρ).bool = y))
theorem Acts.ext {X : Cx} {Γ : Nat → List Sc → Option (List Sc)} {ops : List Oper} {ρ : List Sc} {σ : St} {o : Oper} {x : Item} (h : Acts X Γ ops ρ σ o x) (r : List Sc) : Acts X Γ ops (ρ ++ r) σ o x := by
  rcases h with h | ⟨hw, r0, sv, h1, h2, h3, h4, h5, h6, h7⟩
  · exact .inl h
  · refine .inr ⟨hw, r0, sv, h1, h2, by simp; omega, ?_, ?_, h6, ?_⟩
    all_goals
      have hu := h2
      simp only [planU, Bool.and_eq_true, List.all_eq_true] at hu
      have hnv : σ.nv ≤ (σ.after o.dst r0).nv := by unfold St.after; simp only; split <;> omega
      have hext : ∀ n, n ≤ ρ.length → ∀ i, i < n → (ρ ++ r).getD i (.i 0) = ρ.getD i (.i 0) := fun n hn i hi => getD_append_lt _ _ _ _ (by omega)
    · intro e he
      rw [Ex.ev_under (hext σ.nv (by omega)) (hu.1 e he)]; exact h4 e he
    · intro f es n hc
      obtain ⟨rs, q1, q0, q2⟩ := h5 f es n hc
      have hes : es.all (·.under σ.nv) = true := by
        unfold stepR at h1
        split at h1
        · split at h1
          · rename_i hg; cases h1
            simp only [Bool.and_eq_true, callOk, hc] at hg
            exact hg.2.2
          · cases h1
        · cases h1
      have hn : (σ.after o.dst r0).nv = σ.nv + n := by unfold St.after; simp only [hc]
      refine ⟨rs, by rw [evL_under (hext σ.nv (by omega)) hes]; exact q1, q0, fun i hi => ?_⟩
      rw [getD_append_lt _ _ _ _ (by omega)]; exact q2 i hi
    · rcases h7 with h7 | ⟨e, y, e1, e2, e3⟩
      · exact .inl h7
      · refine .inr ⟨e, y, e1, e2, ?_⟩
        have := hu.2
        rw [e1] at this
        rw [Ex.ev_under (hext _ h3) this]; exact e3

def allS : Nat → Bool := fun _ => true
/-- A plan: each operation as it was reckoned in the text's order. -/
def PlanOk (X : Cx) (Γ : Nat → List Sc → Option (List Sc)) (ops : List Oper) (ρ : List Sc) (σ0 : St) (items : List Item) : Prop :=
  ∀ (j : Nat) (x : Item), items[j]? = some x → ∃ o, ops[j]? = some o ∧ x.dst = o.dst ∧ x.rd = rdBits (appl allS (items.take j) 0 σ0) (oTmps ops o) ∧ x.wr = wrBits o.dst x.r ∧ x.pre = preOf (items.take j) o ∧
    Acts X Γ ops ρ (appl allS (items.take j) 0 σ0) o x ∧ fitsI (items.take j) x = true ∧ edgesI j o = true
theorem PlanOk.ext {X : Cx} {Γ : Nat → List Sc → Option (List Sc)} {ops : List Oper} {ρ : List Sc} {σ0 : St} {items : List Item} (h : PlanOk X Γ ops ρ σ0 items) (r : List Sc) : PlanOk X Γ ops (ρ ++ r) σ0 items := fun j x hj => by
  obtain ⟨o, q1, q2, q3, q4, q5, q6, q7, q8⟩ := h j x hj
  exact ⟨o, q1, q2, q3, q4, q5, q6.ext r, q7, q8⟩
theorem PlanOk.snoc {X : Cx} {Γ : Nat → List Sc → Option (List Sc)} {ops : List Oper} {ρ : List Sc} {σ0 : St} {items : List Item} (h : PlanOk X Γ ops ρ σ0 items) {x : Item} {o : Oper} (ho : ops[items.length]? = some o) (q2 : x.dst = o.dst) (q3 : x.rd = rdBits (appl allS items 0 σ0) (oTmps ops o)) (q4 : x.wr = wrBits o.dst x.r) (q5 : x.pre = preOf items o)
    (q6 : Acts X Γ ops ρ (appl allS items 0 σ0) o x) (q7 : fitsI items x = true) (q8 : edgesI items.length o = true) : PlanOk X Γ ops ρ σ0 (items ++ [x]) := fun j y hj => by
  by_cases hlt : j < items.length
  · rw [List.getElem?_append_left hlt] at hj
    rw [List.take_append_of_le_length (by omega)]
    exact h j y hj
  · have hj2 : j < (items ++ [x]).length := (List.getElem?_eq_some_iff.1 hj).1
    have : j = items.length := by simp at hj2; omega
    subst this
    simp at hj
    subst hj
    rw [List.take_append_of_le_length (Nat.le_refl _), List.take_of_length_le (Nat.le_refl _)]
    exact ⟨o, ho, q2, q3, q4, q5, q6, q7, q8⟩

theorem after_val_nv (σ : St) (d : Option Tmp) (r : OpR) (sv : SV) : (σ.after d { r with val := sv }).nv = (σ.after d r).nv := rfl

theorem plan_sound {X : Cx} {Γ : Nat → List Sc → Option (List Sc)} {ops : List Oper} {σ0 : St} {N : Nx} {Φ : St × List Item → List Sc → Nx → Prop} : ∀ (rest : List Oper) (n : Nat) (σ : St) (items : List Item) (ρ : List Sc), (planOps X ops rest n σ items).wp Γ ρ N Φ →
    (∀ k, rest[k]? = ops[n + k]?) → n = items.length → σ = appl allS items 0 σ0 → σ.nv = ρ.length → PlanOk X Γ ops ρ σ0 items →
    ∃ r itemsf, Φ (appl allS itemsf 0 σ0, itemsf) (ρ ++ r) N ∧ PlanOk X Γ ops (ρ ++ r) σ0 itemsf ∧ itemsf.length = ops.length ∧ (appl allS itemsf 0 σ0).nv = (ρ ++ r).length
  | [], n, σ, items, ρ, h, hrest, hn, hσ, hnv, hp => by
    refine ⟨[], items, by simp only [List.append_nil]; subst hσ; exact h, by simpa using hp, ?_, by rw [← hσ]; simpa using hnv⟩
    have h0 := hrest 0
    simp at h0
    have hle : ∀ x, items.length ≤ x → ops.length ≤ x := fun x hx => by omega
    have h1 : items.length ≤ ops.length := by
      rcases Nat.eq_zero_or_pos items.length with h | h
      · omega
      · obtain ⟨o, q1, _⟩ := hp (items.length - 1) items[items.length - 1] (List.getElem?_eq_getElem (by omega))
        have := (List.getElem?_eq_some_iff.1 q1).1
        omega
    omega
  | o :: rest, n, σ, items, ρ, h, hrest, hn, hσ, hnv, hp => by
    have ho : ops[items.length]? = some o := by have := hrest 0; simp at this; rw [← hn]; exact this.symm
    have hrest' : ∀ k, rest[k]? = ops[n + 1 + k]? := fun k => by have := hrest (k + 1); rw [show n + 1 + k = n + (k + 1) by omega]; simpa using this
    unfold planOps at h
    split at h
    · exact h.elim
    rename_i hedge
    have hedge : edgesI items.length o = true := by rw [← hn]; simpa using hedge
    simp only at h
    have hgo : ∀ (r : OpR) (ρ' : List Sc), T.wp Γ (if fitsI items ⟨o.dst, r, rdBits σ (oTmps ops o), wrBits o.dst r, preOf items o⟩ = true then planOps X ops rest (n + 1) (σ.after o.dst r) (items ++ [⟨o.dst, r, rdBits σ (oTmps ops o), wrBits o.dst r, preOf items o⟩]) else .fail "order") ρ' N Φ →
        (∃ r0, ρ' = ρ ++ r0) → (σ.after o.dst r).nv = ρ'.length → Acts X Γ ops ρ' σ o ⟨o.dst, r, rdBits σ (oTmps ops o), wrBits o.dst r, preOf items o⟩ →
        ∃ r itemsf, Φ (appl allS itemsf 0 σ0, itemsf) (ρ ++ r) N ∧ PlanOk X Γ ops (ρ ++ r) σ0 itemsf ∧ itemsf.length = ops.length ∧ (appl allS itemsf 0 σ0).nv = (ρ ++ r).length := by
      intro r ρ' hw hρ hnv' hact
      obtain ⟨r0, rfl⟩ := hρ
      split at hw
      · rename_i hfit
        have hp' := (hp.ext r0).snoc (x := ⟨o.dst, r, rdBits σ (oTmps ops o), wrBits o.dst r, preOf items o⟩) ho rfl (by rw [hσ]) rfl rfl (by rw [← hσ]; exact hact) hfit hedge
        obtain ⟨r1, itemsf, f1, f2, f3, f4⟩ := plan_sound rest (n + 1) (σ.after o.dst r) _ (ρ ++ r0) hw hrest' (by simp [hn]) (by rw [appl_append, ← hσ]; rfl) hnv' hp'
        exact ⟨r0 ++ r1, itemsf, by rw [← List.append_assoc]; exact f1, by rw [← List.append_assoc]; exact f2, f3, by rw [← List.append_assoc]; exact f4⟩
      · exact hw.elim
    split at h
    · exact h.elim
    · rename_i hw
      exact hgo skipR ρ h ⟨[], by simp⟩ (by simpa [St.after, skipR, OpR.pure] using hnv) (.inl ⟨hw, rfl⟩)
    · rename_i hw
      split at h
      · exact h.elim
      · rename_i r0 hr0
        split at h
        rotate_left
        · exact h.elim
        rename_i hpu
        obtain ⟨hneeds, h⟩ := withNeeds_wp h
        have hkey : r0.call = none ∨ ∃ f es n, r0.call = some (f, es, n) := by cases r0.call with | none => exact .inl rfl | some x => exact .inr ⟨x.1, x.2.1, x.2.2, rfl⟩
        have hneedsU : ∀ e ∈ r0.needs, e.under σ.nv = true := by simp only [planU, Bool.and_eq_true, List.all_eq_true] at hpu; exact hpu.1
        rcases hkey with hcall | ⟨f, es, m, hcall⟩
        · rw [hcall] at h
          obtain ⟨sv, h2, hsv⟩ := splitG_wp2 h
          have hnv' : (σ.after o.dst r0).nv = ρ.length := by simp only [St.after, hcall]; exact hnv
          exact hgo _ ρ h2 ⟨[], by simp⟩ hnv' (.inr ⟨hw, r0, sv, hr0, hpu, by omega, hneeds, (fun f es n hc => by rw [hcall] at hc; cases hc), rfl, hsv⟩)
        · rw [hcall] at h
          simp only at h
          obtain ⟨rs, hF, hlen, h⟩ := h
          obtain ⟨sv, h2, hsv⟩ := splitG_wp2 h
          have hnv' : (σ.after o.dst r0).nv = (ρ ++ rs).length := by simp only [St.after, hcall, List.length_append]; omega
          have hext : ∀ i, i < σ.nv → (ρ ++ rs).getD i (.i 0) = ρ.getD i (.i 0) := fun i hi => getD_append_lt _ _ _ _ (by omega)
          have hes : es.all (·.under σ.nv) = true := by
            unfold stepR at hr0
            split at hr0
            · split at hr0
              · rename_i hg; cases hr0
                simp only [Bool.and_eq_true, callOk, hcall] at hg
                exact hg.2.2
              · cases hr0
            · cases hr0
          refine hgo _ (ρ ++ rs) h2 ⟨rs, rfl⟩ hnv' (.inr ⟨hw, r0, sv, hr0, hpu, by omega, fun e he => by rw [Ex.ev_under hext (hneedsU e he)]; exact hneeds e he, fun f' es' n' hc => ?_, rfl, hsv⟩)
          rw [hcall] at hc; cases hc
          refine ⟨rs, by rw [evL_under hext hes]; exact hF, hlen, fun i hi => ?_⟩
          rw [hnv, List.getD_eq_getElem?_getD, List.getElem?_append_right (by omega), Nat.add_sub_cancel_left, ← List.getD_eq_getElem?_getD]
end Go.Proofs.Ytfaghnapfkpdhaa
