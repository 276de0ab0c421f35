/-
  Regions that draw their order: the whole.
-/
import Derived.Test.YtfaghnapfkpdhaaSymV
namespace Go.Proofs.Ytfaghnapfkpdhaa
open Go.RowKit

section
variable {X : Cx} {Γ : Nat → List Sc → Option (List Sc)} {ops : List Oper} {ρ : List Sc} {σ0 : St} {items : List Item} {B : Nat} {w0 : World} {c c0 : Ct} {a : Act} {w : World}

theorem appl_lens (S : Nat → Bool) : ∀ (l : List Item) (j : Nat) (σ : St), σ.blks.length ≤ (appl S l j σ).blks.length ∧ σ.rows.length ≤ (appl S l j σ).rows.length
  | [], _, _ => ⟨Nat.le_refl _, Nat.le_refl _⟩
  | x :: l, j, σ => by
    have ih := appl_lens S l (j + 1) (if S j then σ.after x.dst x.r else σ)
    have h1 := putBlks_length x.r.blks σ.blks
    have h2 := putRows_length x.r.rows σ.rows
    simp only [appl]
    split at ih
    · rename_i hs
      rw [if_pos hs]
      exact ⟨Nat.le_trans h1.1 ih.1, Nat.le_trans h2.1 ih.2⟩
    · rename_i hs
      rw [if_neg hs]; exact ih
theorem appl_keys (S : Nat → Bool) : ∀ (l : List Item) (j : Nat) (σ : St) (i : Nat) (x : Item), l[i]? = some x → S (j + i) = true → (∀ y ∈ x.r.blks, y.1 < (appl S l j σ).blks.length) ∧ (∀ y ∈ x.r.rows, y.1 < (appl S l j σ).rows.length)
  | y :: l, j, σ, 0, x, h, hs => by
    simp at h; subst h
    simp only [Nat.add_zero] at hs
    simp only [appl, hs, if_true]
    have h1 := putBlks_length y.r.blks σ.blks
    have h2 := putRows_length y.r.rows σ.rows
    have h3 := appl_lens S l (j + 1) (σ.after y.dst y.r)
    exact ⟨fun z hz => Nat.lt_of_lt_of_le (h1.2 z hz) h3.1, fun z hz => Nat.lt_of_lt_of_le (h2.2 z hz) h3.2⟩
  | y :: l, j, σ, i + 1, x, h, hs => by
    simp only [appl]
    exact appl_keys S l (j + 1) _ i x (by simpa using h) (by rw [show j + 1 + i = j + (i + 1) by omega]; exact hs)
  | [], _, _, _, _, h, _ => by simp at h

theorem step_any (hX : X.ok Γ) (hp : PlanOk X Γ ops ρ σ0 items) (hf0 : Fresh σ0 c) {S : Nat → Bool} (hS : Closed items S) {c' : Ct} (hst : Stand B w0 c σ0 items ρ S c' a w) {i : Nat} {x : Item} (hx : items[i]? = some x) (hpre : ∀ k, x.pre.testBit k = true → S k = true) (hi : S i = false)
    {S' : Nat → Bool} (hS' : ∀ j, S' j = (S j || decide (j = i))) (Q : Exit → Act → World → Prop) (K : Act → World → Prop) (hK : ∀ c2 a2 w2, Stand B w0 c σ0 items ρ S' c2 a2 w2 → K a2 w2) : wpOp X.P ops.toArray Q i K a w := by
  obtain ⟨o, ho, hdst, hrd, hwr, hprq, hact, hfit, hedge⟩ := hp i x hx
  have hlook : ∀ l, Rs (appl allS (items.take i) 0 σ0) (oTmps ops o) l → look (appl S items 0 σ0) l = look (appl allS (items.take i) 0 σ0) l := fun l hl =>
    agree_rd hp hS hx hpre hi (by rw [hrd]; exact rdBits_ok hl)
  have hguard : wantedS ops (appl S items 0 σ0) o = wantedS ops (appl allS (items.take i) 0 σ0) o := by
    unfold wantedS
    cases hg : o.guard with
    | none => rfl
    | some gw =>
      obtain ⟨gi, want⟩ := gw
      simp only
      cases ht : (ops[gi]?).bind (·.dst) with
      | none => rfl
      | some t =>
        have hmem : t ∈ oTmps ops o := by unfold oTmps; rw [hg]; simp only; rw [ht]; simp
        have := hlook (3 * t) (.inl ⟨t, hmem, rfl⟩)
        rw [look_slot, look_slot] at this
        simp only [(Prod.mk.inj this).1]
  -- the state behind it
  have hfin : ∀ (c2 : Ct) (v : Value) (w2 : World), c'.sub c2 → c2.ρ = ρ → x.r.val.rel c2 v → Good B w0 { (appl S items 0 σ0) with blks := putBlks (appl S items 0 σ0).blks x.r.blks, rows := putRows (appl S items 0 σ0).rows x.r.rows } c2 a w2 →
      (∀ p, p ∉ x.r.nb → c2.β p = c'.β p) → (∀ p, p ∉ x.r.nr → c2.R p = c'.R p) → K (a.put o.dst v) w2 := by
    intro c2 v w2 hsub henv hrel hg hβ hR
    refine hK c2 _ w2 ⟨hst.sub.trans hsub, henv, ?_, fun p h => ?_, fun p h => ?_⟩
    · have g1 := hg.put hrel o.dst
      refine g1.congr ?_ (fun l => ?_)
      · have := g1.size
        rw [appl_slots]
        have h2 := hst.good.size
        rw [appl_slots] at h2
        cases hd : o.dst <;> simp [Act.put] <;> exact h2
      · rw [agree_wr hp hS hx hi hS' l, hdst]
        unfold St.after
        cases o.dst <;> rfl
    · rw [hβ p (h i x hx (by rw [hS']; simp))]
      exact hst.β p (fun j y hj hs => h j y hj (by rw [hS', hs]; rfl))
    · rw [hR p (h i x hx (by rw [hS']; simp))]
      exact hst.R p (fun j y hj hs => h j y hj (by rw [hS', hs]; rfl))
  unfold wpOp
  simp only [List.getElem?_toArray, ho]
  rcases hact with ⟨hw, hr⟩ | ⟨hw, r0, sv, hr0, hpu, hnv, hneeds, hcalls, hr, hsv⟩
  · have hwant := wanted_ok (hguard.trans hw) hst.good
    rw [if_neg (by rw [hwant]; simp)]
    exact hfin c' undef w (.refl _) hst.env (by rw [hr]; exact ⟨[], rfl, trivial⟩) (by rw [hr]; exact hst.good) (fun _ _ => rfl) (fun _ _ => rfl)
  · have hwant := wanted_ok (hguard.trans hw) hst.good
    rw [if_pos hwant]
    left
    unfold stepR at hr0
    split at hr0
    rotate_left
    · cases hr0
    rename_i r0' hsym
    split at hr0
    rotate_left
    · cases hr0
    rename_i hgc
    cases hr0
    simp only [Bool.and_eq_true] at hgc
    obtain ⟨hgood, hcallok⟩ := hgc
    simp only [goodR, Bool.and_eq_true, List.all_eq_true, List.any_eq_true] at hgood
    obtain ⟨hgb, hgr⟩ := hgood
    have hnb : ∀ p ∈ r0.nb, (appl allS (items.take i) 0 σ0).blks.length ≤ p := fun p hp' => by rw [Nat.eq_of_beq_eq_true (hgb p hp').1]; exact Nat.le_refl _
    have hnr : ∀ p ∈ r0.nr, (appl allS (items.take i) 0 σ0).rows.length ≤ p := fun p hp' => Nat.le_of_ble_eq_true (hgr p hp').1
    have hrd2 : (appl allS (items.take i) 0 σ0).rd ops o = rdOf (appl S items 0 σ0).slot (appl S items 0 σ0).blk (appl S items 0 σ0).row (oTmps ops o) (appl allS (items.take i) 0 σ0).nv (appl allS (items.take i) 0 σ0).blks.length (appl allS (items.take i) 0 σ0).rows.length := by
      unfold St.rd
      exact (rdOf_congr hlook _ _ _).symm
    rw [hrd2] at hsym
    have hval : x.r.val = sv ∧ x.r.blks = r0.blks ∧ x.r.rows = r0.rows ∧ x.r.nb = r0.nb ∧ x.r.nr = r0.nr := by rw [hr]; exact ⟨rfl, rfl, rfl, rfl, rfl⟩
    obtain ⟨v1, v2, v3, v4, v5⟩ := hval
    have hlens := appl_lens allS (items.take i) 0 σ0
    have hother : ∀ (p j : Nat) (y : Item), items[j]? = some y → S j = true → (p ∈ r0.nb → p ∉ y.r.nb) ∧ (p ∈ r0.nr → p ∉ y.r.nr) := by
      intro p j y hj hs
      rcases Nat.lt_trichotomy j i with h | h | h
      · have hy : (items.take i)[j]? = some y := by rw [List.getElem?_take, if_pos h]; exact hj
        have := fitsI_new hfit hy
        rw [v4, v5] at this
        exact ⟨fun h1 h2 => this.1 p h2 h1, fun h1 h2 => this.2 p h2 h1⟩
      · subst h; rw [hi] at hs; cases hs
      · obtain ⟨o', _, _, _, _, _, _, hfit', _⟩ := hp j y hj
        have hy : (items.take j)[i]? = some x := by rw [List.getElem?_take, if_pos h]; exact hx
        have := fitsI_new hfit' hy
        rw [v4, v5] at this
        exact ⟨fun h1 => this.1 p h1, fun h1 => this.2 p h1⟩
    have hfb : ∀ p ∈ r0.nb, c'.β p = none := fun p hp' => by
      rw [hst.β p (fun j y hj hs => (hother p j y hj hs).1 hp')]
      exact hf0.β p (Nat.le_trans hlens.1 (hnb p hp'))
    have hfr : ∀ p ∈ r0.nr, c'.R p = none := fun p hp' => by
      rw [hst.R p (fun j y hj hs => (hother p j y hj hs).2 hp')]
      exact hf0.R p (Nat.le_trans hlens.2 (hnr p hp'))
    have hweak : ∀ (c2 : Ct) (v : Value), c2.ρ = ρ → r0.val.rel c2 v → x.r.val.rel c2 v := fun c2 v hc2 hv => by
      rw [v1]
      rcases hsv with rfl | ⟨e, y, e1, rfl, e3⟩
      · exact hv
      · rw [e1] at hv
        have hv : v = .bool (e.ev c2.ρ).bool := hv
        show v = .bool y
        rw [hv, hc2, e3]
    have hneeds' : ∀ e ∈ r0.needs, (e.ev c'.ρ).bool = true := fun e he => by rw [hst.env]; exact hneeds e he
    have hkey : r0.call = none ∨ ∃ f es n, r0.call = some (f, es, n) := by cases r0.call with | none => exact .inl rfl | some z => exact .inr ⟨z.1, z.2.1, z.2.2, rfl⟩
    rcases hkey with hcall | ⟨f, es, n, hcall⟩
    · obtain ⟨nx, w', v, c2, hrun, hnx, hle, hβ, hR, hrel, hg⟩ := op_ok (o := o) hX.pl hst.good (rdOf_ok hst.good _ _ _ _) hfb hfr hsym hcall hneeds'
      have henv2 : c2.ρ = ρ := hle.ρ.trans hst.env
      have hput : K (a.put o.dst v) w' := hfin c2 v w' hle.sub henv2 (hweak c2 v henv2 hrel) (by rw [v2, v3]; exact hg) (by rw [v4]; exact hβ) (by rw [v5]; exact hR)
      unfold Oper.wp
      rw [hrun]
      rcases hnx with rfl | ⟨rfl, rfl⟩
      · exact hput
      · exact hput
    · obtain ⟨rs, hF, hlen, hrs⟩ := hcalls f es n hcall
      refine call_ok (o := o) hst.good (rdOf_ok hst.good _ _ _ _) hX.cons hsym hcall (rs := rs) (by rw [hst.env]; exact hF) (fun k hk => by rw [hst.env]; exact hrs k hk) hfr K _ ?_
      intro v w' c2 hle hβ hR hrel hg
      have henv2 : c2.ρ = ρ := hle.ρ.trans hst.env
      exact hfin c2 v w' hle.sub henv2 (hweak c2 v henv2 hrel) (by rw [v2, v3]; exact hg) (fun p _ => by rw [hβ]) (by rw [v5]; exact hR)

theorem any_sound (hX : X.ok Γ) (hp : PlanOk X Γ ops ρ σ0 items) (hlen : items.length = ops.length) (hf0 : Fresh σ0 c) (Q : Exit → Act → World → Prop) (hQ : ∀ c2 a2 w2, Stand B w0 c σ0 items ρ allS c2 a2 w2 → Q .normal a2 w2) :
    ∀ (fuel : Nat) (listed : Array Bool) (a : Act) (w : World) (c' : Ct), listed.size = ops.length → Closed items (inS listed) → Stand B w0 c σ0 items ρ (inS listed) c' a w → (∃ l : List Nat, l.length ≤ fuel ∧ ∀ i, i < ops.length → inS listed i = false → i ∈ l) →
      wpAny X.P .any ops.toArray Q fuel listed a w := by
  have hready : ∀ (listed : Array Bool), listed.size = ops.length → Closed items (inS listed) → Region.ready .any ops.toArray listed = [] → ∀ i, i < ops.length → inS listed i = true := by
    intro listed hsz hcl hr i
    induction i using Nat.strongRecOn with
    | _ i ih =>
      intro hi
      cases hs : inS listed i
      · exfalso
        have : i ∈ Region.ready .any ops.toArray listed := by
          rw [mem_ready]
          refine ⟨?_, ops[i], by simp [hi], fun e he hb => ?_⟩
          · unfold inS at hs
            have : i < listed.size := by omega
            simp [Array.getElem?_eq_getElem this] at hs ⊢; exact hs
          · obtain ⟨x, hx⟩ : ∃ x, items[i]? = some x := ⟨items[i], List.getElem?_eq_getElem (by omega)⟩
            obtain ⟨o, ho, _, _, _, _, _, _, hedge⟩ := hp i x hx
            have ho2 : ops[i] = o := by rw [List.getElem?_eq_getElem hi] at ho; exact Option.some.inj ho
            unfold edgesI at hedge
            rw [ho2] at he
            have := List.all_eq_true.1 hedge e (by simpa using he)
            simp only [hb, Bool.not_true, Bool.false_or] at this
            have hlt : e.on < i := Nat.le_of_ble_eq_true (by simpa [Nat.blt] using this)
            exact ih e.on hlt (by omega)
        rw [hr] at this; cases this
      · rfl
  have hend : ∀ (listed : Array Bool) (a : Act) (w : World) (c' : Ct), Stand B w0 c σ0 items ρ (inS listed) c' a w → (∀ i, i < ops.length → inS listed i = true) → Q .normal a w := by
    intro listed a w c' hst hall
    refine hQ c' a w ⟨hst.sub, hst.env, ?_, fun p h => hst.β p (fun j x hj _ => h j x hj rfl), fun p h => hst.R p (fun j x hj _ => h j x hj rfl)⟩
    refine hst.good.congr (by have := hst.good.size; rw [appl_slots] at this ⊢; exact this) (fun l => appl_agree l items 0 σ0 σ0 rfl rfl (fun i x hx _ => ?_))
    have : i < items.length := (List.getElem?_eq_some_iff.1 hx).1
    simp only [Nat.zero_add, allS]
    exact (hall i (by omega)).symm
  intro fuel
  induction fuel with
  | zero =>
    intro listed a w c' hsz hcl hst ⟨l, hl, hcov⟩
    have hall : ∀ i, i < ops.length → inS listed i = true := fun i hi => by
      cases hs : inS listed i
      · have hm := hcov i hi hs
        have : l = [] := List.eq_nil_of_length_eq_zero (by omega)
        subst this
        cases hm
      · rfl
    refine ⟨?_, hend listed a w c' hst hall⟩
    cases hr : Region.ready .any ops.toArray listed with
    | nil => rfl
    | cons i is =>
      have : i ∈ Region.ready .any ops.toArray listed := by rw [hr]; exact List.mem_cons_self ..
      obtain ⟨h0, o, ho, _⟩ := mem_ready.1 this
      have hi : i < ops.length := by have := (Array.getElem?_eq_some_iff.1 ho).1; simpa using this
      have := hall i hi
      unfold inS at this
      have hlt : i < listed.size := by omega
      simp [Array.getElem?_eq_getElem hlt] at h0 this
      rw [h0] at this; cases this
  | succ fuel ih =>
    intro listed a w c' hsz hcl hst ⟨l, hl, hcov⟩
    refine ⟨fun hr => hend listed a w c' hst (hready listed hsz hcl hr), fun i hi => ?_⟩
    obtain ⟨h0, o, ho, hedges⟩ := mem_ready.1 hi
    have hilt : i < ops.length := by have := (Array.getElem?_eq_some_iff.1 ho).1; simpa using this
    obtain ⟨x, hx⟩ : ∃ x, items[i]? = some x := ⟨items[i], List.getElem?_eq_getElem (by omega)⟩
    have hlt : i < listed.size := by omega
    have hun : inS listed i = false := by unfold inS; simp [Array.getElem?_eq_getElem hlt] at h0 ⊢; exact h0
    obtain ⟨o', ho', _, _, _, hpre, _⟩ := hp i x hx
    have hoo : o' = o := by simp at ho; rw [ho] at ho'; exact (Option.some.inj ho').symm
    subst hoo
    have hprein : ∀ k, x.pre.testBit k = true → inS listed k = true := fun k hk => by
      rw [hpre] at hk
      obtain ⟨e, he, hb, hor⟩ := preOf_spec hk
      have hl1 := hedges e (by simpa using he) hb
      rcases hor with rfl | ⟨y, hy, hyk⟩
      · exact hl1
      · rw [List.getElem?_take] at hy
        split at hy
        · exact hcl e.on y hy hl1 k hyk
        · cases hy
    have hset : ∀ j, inS (listed.setIfInBounds i true) j = (inS listed j || decide (j = i)) := fun j => by
      unfold inS
      by_cases hj : j = i
      · subst hj; simp [hlt]
      · simp [Array.getElem?_setIfInBounds_ne (Ne.symm hj), hj]
    refine step_any hX hp hf0 hcl hst hx hprein hun hset Q _ (fun c2 a2 w2 hst2 => ih _ a2 w2 c2 (by simpa using hsz) (fun j y hj hs k hk => ?_) hst2 ⟨l.erase i, ?_, fun j hj hs => ?_⟩)
    · rw [hset] at hs ⊢
      by_cases hji : j = i
      · subst hji
        rw [hx] at hj; cases hj
        rw [hprein k hk]; rfl
      · simp [hji] at hs
        rw [hcl j y hj hs k hk]; rfl
    · have hm := hcov i hilt hun
      rw [List.length_erase_of_mem hm]; omega
    · rw [hset] at hs
      simp only [Bool.or_eq_false_iff, decide_eq_false_iff_not] at hs
      exact (List.mem_erase_of_ne hs.2).2 (hcov j hj hs.1)

/-- A region that draws its order. -/
theorem draw_sound (hX : X.ok Γ) {id : Nat} {opsA : Array Oper} {σ : St} {N : Nx} {Φ : St → List Sc → Nx → Prop} (h : T.wp Γ (if σ.under then (planOps X opsA.toList opsA.toList 0 σ []).bind fun x => .leaf x.1 else .fail "under") ρ N Φ)
    (hi : Is B w0 c0 c σ ρ N a w) (Q : Exit → Act → World → Prop) (hQ : ∀ σ' r c' a' w', Φ σ' (ρ ++ r) N → Is B w0 c0 c' σ' (ρ ++ r) N a' w' → Q .normal a' w') : (Code.region id opsA true).wp X.P Q a w := by
  split at h
  rotate_left
  · exact h.elim
  rename_i hu
  have h := T.wp_bind h
  obtain ⟨r, itemsf, hΦ, hp, hlen, hnv⟩ := plan_sound opsA.toList 0 σ [] ρ h (fun k => by simp) rfl rfl hi.nv (fun j x hj => by simp at hj)
  have henv := hi.env
  subst henv
  have g2 : Good B w0 σ { c with ρ := c.ρ ++ r } a { w with drawn := w.drawn + 1 } := (hi.good.drew).env hu (fun i h => getD_append_lt _ _ _ _ (by rw [← hi.nv]; exact h))
  refine wp_region_any hX.mixed ?_
  have := any_sound (B := B) (w0 := w0) (c := { c with ρ := c.ρ ++ r }) hX hp (by simpa using hlen) ⟨hi.fresh.β, hi.fresh.R⟩ Q (fun c2 a2 w2 hst => ?_) opsA.size (Array.replicate opsA.size false) a { w with drawn := w.drawn + 1 } { c with ρ := c.ρ ++ r } (by simp) (fun j x hj hs => by
    unfold inS at hs
    by_cases hlt : j < opsA.size
    · simp [hlt] at hs
    · simp [hlt] at hs) ⟨.refl _, rfl, ?_, fun _ _ => rfl, fun _ _ => rfl⟩ ⟨List.range opsA.size, by simp, fun i hi' _ => by simpa using hi'⟩
  · simpa using this
  · refine hQ _ r c2 a2 w2 hΦ ⟨hi.sub.trans ⟨hst.sub.K, hst.sub.β, hst.sub.R⟩, hst.env, hst.good, ⟨fun p hp' => ?_, fun p hp' => ?_⟩, hnv, ?_⟩
    · rw [hst.β p (fun j x hj _ hm => ?_)]
      · exact hi.fresh.β p (Nat.le_trans (appl_lens allS itemsf 0 σ).1 hp')
      · obtain ⟨o, ho, _, _, _, _, hact, _, _⟩ := hp j x hj
        rcases hact with ⟨_, hr⟩ | ⟨_, r0, sv, hr0, _, _, _, _, hr, _⟩
        · rw [hr] at hm; simp [skipR, OpR.pure] at hm
        · rw [hr] at hm
          unfold stepR at hr0
          split at hr0
          · split at hr0
            · rename_i hg; cases hr0
              simp only [Bool.and_eq_true, goodR, List.all_eq_true, List.any_eq_true] at hg
              obtain ⟨y, hy, e⟩ := (hg.1.1 p hm).2
              have := (appl_keys allS itemsf 0 σ j x hj rfl).1 y (by rw [hr]; exact hy)
              rw [Nat.eq_of_beq_eq_true e] at this; simp only at hp'; omega
            · cases hr0
          · cases hr0
    · rw [hst.R p (fun j x hj _ hm => ?_)]
      · exact hi.fresh.R p (Nat.le_trans (appl_lens allS itemsf 0 σ).2 hp')
      · obtain ⟨o, ho, _, _, _, _, hact, _, _⟩ := hp j x hj
        rcases hact with ⟨_, hr⟩ | ⟨_, r0, sv, hr0, _, _, _, _, hr, _⟩
        · rw [hr] at hm; simp [skipR, OpR.pure] at hm
        · rw [hr] at hm
          unfold stepR at hr0
          split at hr0
          · split at hr0
            · rename_i hg; cases hr0
              simp only [Bool.and_eq_true, goodR, List.all_eq_true, List.any_eq_true] at hg
              obtain ⟨y, hy, e⟩ := (hg.1.2 p hm).2
              have := (appl_keys allS itemsf 0 σ j x hj rfl).2 y (by rw [hr]; exact hy)
              rw [Nat.eq_of_beq_eq_true e] at this; simp only at hp'; omega
            · cases hr0
          · cases hr0
    · have : ∀ (l : List Item) (j : Nat) (s : St), (appl allS l j s).lv = s.lv := by
        intro l
        induction l with
        | nil => intro _ _; rfl
        | cons x l ih => intro j s; simp only [appl, allS, if_true]; rw [ih]; rfl
      rw [this]; exact hi.lv
  · have e : appl (inS (Array.replicate opsA.size false)) itemsf 0 σ = σ := appl_all_eq _ _ _ _ (fun i hi' => by
      unfold inS
      by_cases hlt : i < opsA.size <;> simp [hlt])
    rw [e]; exact g2
end
end Go.Proofs.Ytfaghnapfkpdhaa
