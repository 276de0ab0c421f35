/-
  Calls by contracts.
-/
import Derived.Test.YtfaghnapfkpdhaaSymO
namespace Go.Proofs.Ytfaghnapfkpdhaa
open Go.RowKit

section
variable {P : Program} {B : Nat} {w0 : World} {σ : St} {c : Ct} {a : Act} {w : World} {o : Oper} {rd : Rd}

/-- The rows that are handed on are no longer one's own. -/
def Fz (row : Nat → Option Rw) (σ : St) (fr : List (Nat × Option Rw)) : Prop := ∀ q k, row q = some k → (k.own = false ∨ (q, some { k with own := false }) ∈ fr) → σ.row q = some { k with own := false }
def FzOk (row : Nat → Option Rw) (fr : List (Nat × Option Rw)) : Prop := ∀ q z, (q, z) ∈ fr → ∃ k, row q = some k ∧ z = some { k with own := false }
theorem Fz.left {row : Nat → Option Rw} {f1 f2 : List (Nat × Option Rw)} (h : Fz row σ (f1 ++ f2)) : Fz row σ f1 := fun q k hk hc => h q k hk (hc.imp id (fun m => List.mem_append_left _ m))
theorem Fz.right {row : Nat → Option Rw} {f1 f2 : List (Nat × Option Rw)} (h : Fz row σ (f1 ++ f2)) : Fz row σ f2 := fun q k hk hc => h q k hk (hc.imp id (fun m => List.mem_append_right _ m))
theorem FzOk.append {row : Nat → Option Rw} {f1 f2 : List (Nat × Option Rw)} (h1 : FzOk row f1) (h2 : FzOk row f2) : FzOk row (f1 ++ f2) := fun q z hz => (List.mem_append.1 hz).elim (h1 q z) (h2 q z)

theorem argsOf_spec (g : Good B w0 σ c a w) {row : Nat → Option Rw} : ∀ {ss : List AS} {xs : List At} {es : List Ex} {fr : List (Nat × Option Rw)}, argsOf row ss xs = some (es, fr) → Fz row σ fr → ∀ {vs : List Value}, relL c xs vs →
    asRelL w (okIn B σ c) ss vs (es.map (Ex.ev c.ρ)) ∧ FzOk row fr
  | [], [], es, fr, h, _, vs, hv => by
    simp [argsOf] at h
    obtain ⟨rfl, rfl⟩ := h
    cases vs with
    | nil => exact ⟨trivial, fun q z hz => by cases hz⟩
    | cons => exact hv.elim
  | s :: ss, x :: xs, es, fr, h, hf, vs, hv => by
    match vs, hv with
    | v :: vs, hv =>
      simp only [argsOf] at h
      split at h
      · rename_i e r es' rs h1 h2
        cases h
        obtain ⟨q1, q2⟩ := argOf_spec g h1 hf.left hv.1
        obtain ⟨q3, q4⟩ := argsOf_spec g h2 hf.right hv.2
        exact ⟨⟨q1, q3⟩, FzOk.append q2 q4⟩
      · cases h
  | [], _ :: _, _, _, h, _, _, _ => by simp [argsOf] at h
  | _ :: _, [], _, _, h, _, _, _ => by simp [argsOf] at h

theorem argC_spec (g : Good B w0 σ c a w) {row : Nat → Option Rw} {s : CS} {x : SV} {es : List Ex} {fr : List (Nat × Option Rw)} (h : argC row s x = some (es, fr)) (hf : Fz row σ fr) {v : Value} (hv : x.rel c v) :
    csRel w (okIn B σ c) s v (es.map (Ex.ev c.ρ)) ∧ FzOk row fr := by
  unfold argC at h
  split at h
  · simp only [Option.map_eq_some_iff, Prod.mk.injEq] at h
    obtain ⟨⟨e, r⟩, h1, h2, rfl⟩ := h
    subst h2
    obtain ⟨q1, q2⟩ := argOf_spec g h1 hf hv
    exact ⟨⟨_, rfl, q1⟩, q2⟩
  · obtain ⟨vs, rfl, hr⟩ := hv
    obtain ⟨q1, q2⟩ := argsOf_spec g h hf hr
    exact ⟨⟨vs, rfl, q1⟩, q2⟩
  · cases h

theorem argsC_spec (g : Good B w0 σ c a w) {row : Nat → Option Rw} : ∀ {ss : List CS} {xs : List SV} {es : List Ex} {fr : List (Nat × Option Rw)}, argsC row ss xs = some (es, fr) → Fz row σ fr → ∀ {vs : List Value}, xs.length = vs.length →
    (∀ i (h1 : i < xs.length) (h2 : i < vs.length), (xs[i]).rel c (vs[i])) → csRelL w (okIn B σ c) ss vs (es.map (Ex.ev c.ρ)) ∧ FzOk row fr
  | [], [], es, fr, h, _, vs, hl, hv => by
    simp [argsC] at h
    obtain ⟨rfl, rfl⟩ := h
    cases vs with
    | nil => exact ⟨rfl, fun q z hz => by cases hz⟩
    | cons => simp at hl
  | s :: ss, x :: xs, es, fr, h, hf, vs, hl, hv => by
    cases vs with
    | nil => simp at hl
    | cons v vs =>
      simp only [argsC] at h
      split at h
      · rename_i e r es' rs h1 h2
        cases h
        obtain ⟨q1, q2⟩ := argC_spec g h1 hf.left (hv 0 (by simp) (by simp))
        obtain ⟨q3, q4⟩ := argsC_spec g h2 hf.right (vs := vs) (by simpa using hl) (fun i h1 h2 => by
          have := hv (i + 1) (by simp; omega) (by simp; omega)
          simpa using this)
        exact ⟨⟨_, _, by simp, q1, q3⟩, FzOk.append q2 q4⟩
      · cases h
  | [], _ :: _, _, _, h, _, _, _, _ => by simp [argsC] at h
  | _ :: _, [], _, _, h, _, _, _, _ => by simp [argsC] at h

/-! ### Results -/
/-- What the rows of a result add to a state. -/
def Adds (B : Nat) (w0 : World) (σ : St) (c : Ct) (a : Act) (w : World) (rs : List (Nat × Option Rw)) (nr nr' : Nat) (R : Ct → Prop) : Prop :=
  ∃ c', c.le c' ∧ c'.β = c.β ∧ (∀ i, i < nr ∨ nr' ≤ i → c'.R i = c.R i) ∧ R c' ∧ Good B w0 { σ with rows := putRows σ.rows rs } c' a w
theorem putRows_append : ∀ (l : List (Option Rw)) (r s : List (Nat × Option Rw)), putRows l (r ++ s) = putRows (putRows l r) s
  | _, [], _ => rfl
  | l, (i, v) :: r, s => putRows_append (setN none l i v) r s

theorem okIn_rows {rs : List (Nat × Option Rw)} {c' : Ct} {K : Nat → Prop} (h : ∀ p, K p → okIn B σ c p) (h2 : ∀ x p, St.owns { σ with rows := putRows σ.rows rs } c' x p → σ.owns c x p) (hK : c'.K = c.K) : ∀ p, K p → okIn B { σ with rows := putRows σ.rows rs } c' p :=
  fun p hp => ⟨fun x hx => (h p hp).1 x (h2 x p hx), by rw [hK]; exact (h p hp).2⟩

/-- Only rows of others are added. -/
structure Ext (B : Nat) (σ σ' : St) (c c' : Ct) : Prop where
  le : c.le c'
  owns : ∀ x p, σ'.owns c' x p → σ.owns c x p

theorem resA_spec (g : Good B w0 σ c a w) {ok : Nat → Prop} (hok : ∀ p, ok p → okIn B σ c p) {s : AS} {nv nr : Nat} {v : Value} {y : Sc} (hy : c.ρ.getD nv (.i 0) = y) (hr : asRel w ok s v y) (hR : c.R nr = none) :
    ∃ c', c'.β = c.β ∧ (∀ i, i < nr ∨ (resA nv nr s).2.2 ≤ i → c'.R i = c.R i) ∧ nr ≤ (resA nv nr s).2.2 ∧ (resA nv nr s).1.rel c' v ∧ Good B w0 { σ with rows := putRows σ.rows (resA nv nr s).2.1 } c' a w ∧
      Ext B σ { σ with rows := putRows σ.rows (resA nv nr s).2.1 } c c' := by
  cases s with
  | ck k =>
    refine ⟨c, rfl, fun _ _ => rfl, Nat.le_refl _, ?_, g, .refl c, fun _ _ h => h⟩
    have hr : v = k.val y := hr
    subst hr hy
    cases k <;> rfl
  | row el ks agg =>
    obtain ⟨ad, n, cap, rfl, h1, h2, h3, h4⟩ := hr
    have hev : ((Ex.v nv).ev c.ρ).list = y.list := by show (c.ρ.getD nv (.i 0)).list = _; rw [hy]
    have gg := g.newRow (w' := w) g.below (Nat.le_refl _) (fun _ _ => rfl) hR (k := ⟨el, ks, agg, .v nv, false⟩) (ad := ad) (n := n) (cap := cap) (by rw [hev]; exact h1) h2 h3 (fun h => by cases h) (fun _ j u hj => by
      rw [hev] at hj
      obtain ⟨p, o, e1, e2, e3⟩ := h4 j u hj
      exact ⟨p, o, e1, e2, hok p e3⟩)
    refine ⟨{ c with R := fun i => if i = nr then some (.slice ad n cap) else c.R i }, rfl, fun i hi => ?_, Nat.le_succ _, ⟨by simp, ad, n, cap, rfl⟩, gg, ⟨rfl, rfl, fun _ _ e => e, fun i u e => ?_⟩, ?_⟩
    · have : i ≠ nr := by simp only [resA] at hi; omega
      simp [this]
    · by_cases h : i = nr
      · subst h; rw [hR] at e; cases e
      · simp [h, e]
    · rintro ⟨t, q⟩ p h
      cases t
      · exact h
      · obtain ⟨⟨k', hk', ho⟩, u, hu, hp⟩ := h
        have hk' : (setN none σ.rows nr (some ⟨el, ks, agg, .v nv, false⟩)).getD q none = some k' := hk'
        rw [row_set] at hk'
        by_cases hq : q = nr
        · rw [if_pos hq] at hk'; cases hk'; cases ho
        · rw [if_neg hq] at hk'
          simp [hq] at hu
          exact ⟨⟨k', hk', ho⟩, u, hu, hp⟩

theorem resAs_spec : ∀ {ss : List AS} {σ : St} {c : Ct} {nv nr : Nat} {vs : List Value} {ys : List Sc} {ok : Nat → Prop}, Good B w0 σ c a w → (∀ p, ok p → okIn B σ c p) → (∀ i, i < ys.length → c.ρ.getD (nv + i) (.i 0) = ys.getD i (.i 0)) →
    asRelL w ok ss vs ys → (∀ i, nr ≤ i → i < (resAs nv nr ss).2.2.2 → c.R i = none) →
    ∃ c', c'.β = c.β ∧ (∀ i, i < nr ∨ (resAs nv nr ss).2.2.2 ≤ i → c'.R i = c.R i) ∧ nr ≤ (resAs nv nr ss).2.2.2 ∧ (resAs nv nr ss).2.2.1 = nv + ss.length ∧ relL c' (resAs nv nr ss).1 vs ∧
      Good B w0 { σ with rows := putRows σ.rows (resAs nv nr ss).2.1 } c' a w ∧ Ext B σ { σ with rows := putRows σ.rows (resAs nv nr ss).2.1 } c c'
  | [], σ, c, nv, nr, [], [], ok, g, _, _, _, _ => ⟨c, rfl, fun _ _ => rfl, Nat.le_refl _, rfl, trivial, g, .refl c, fun _ _ h => h⟩
  | s :: ss, σ, c, nv, nr, v :: vs, y :: ys, ok, g, hok, hy, hr, hR => by
    have hmono : ∀ (ss : List AS) (nv nr : Nat), nr ≤ (resAs nv nr ss).2.2.2 := by
      intro ss
      induction ss with
      | nil => intro nv nr; exact Nat.le_refl _
      | cons s ss ih => intro nv nr; exact Nat.le_trans (by cases s <;> simp [resA]) (ih (nv + 1) (resA nv nr s).2.2)
    have hstep := hmono ss (nv + 1) (resA nv nr s).2.2
    have hfirst : s = s := rfl
    by_cases hrow : (resA nv nr s).2.2 = nr
    · -- a plain cell
      cases s with
      | row el ks agg => simp [resA] at hrow
      | ck k =>
        have h0 := hy 0 (by simp)
        simp only [Nat.add_zero, List.getD_cons_zero] at h0
        obtain ⟨c2, d1, d2, d3, d4, d5, d6, d7⟩ := resAs_spec (ss := ss) (nv := nv + 1) (nr := nr) (vs := vs) (ys := ys) g hok (fun i hi => by
          have := hy (i + 1) (by simp; omega)
          rw [show nv + 1 + i = nv + (i + 1) by omega]; simpa using this) hr.2 hR
        refine ⟨c2, d1, d2, d3, by simp only [resAs, resA]; rw [d4]; simp; omega, ⟨?_, d5⟩, d6, d7⟩
        have hv : v = k.val y := hr.1
        subst hv
        rw [← h0, ← d7.le.ρ]
        cases k <;> rfl
    · have hRn : c.R nr = none := hR nr (Nat.le_refl _) (by
        have : nr < (resA nv nr s).2.2 := by cases s <;> simp [resA] at hrow ⊢
        exact Nat.lt_of_lt_of_le this hstep)
      have h0 := hy 0 (by simp)
      simp only [Nat.add_zero, List.getD_cons_zero] at h0
      obtain ⟨c1, a1, a2, a3, a4, a5, a6⟩ := resA_spec g hok (nv := nv) (nr := nr) h0 hr.1 hRn
      obtain ⟨c2, d1, d2, d3, d4, d5, d6, d7⟩ := resAs_spec (ss := ss) (nv := nv + 1) (nr := (resA nv nr s).2.2) (vs := vs) (ys := ys) (ok := ok) a5
        (fun p hp => ⟨fun x hx => (hok p hp).1 x (a6.owns x p hx), by rw [a6.le.K]; exact (hok p hp).2⟩) (fun i hi => by
          have := hy (i + 1) (by simp; omega)
          rw [a6.le.ρ, show nv + 1 + i = nv + (i + 1) by omega]; simpa using this) hr.2 (fun i h1 h2 => by
          rw [a2 i (.inr h1)]; exact hR i (by omega) h2)
      refine ⟨c2, d1.trans a1, fun i hi => ?_, Nat.le_trans a3 d3, by simp only [resAs]; rw [d4]; simp; omega, ⟨At.rel_le d7.le a4, d5⟩, ?_, a6.le.trans d7.le, fun x p h => a6.owns x p (d7.owns x p ?_)⟩
      · have hi' : i < nr ∨ (resAs (nv + 1) (resA nv nr s).2.2 ss).2.2.2 ≤ i := hi
        rw [d2 i (by omega), a2 i (by omega)]
      · simp only [resAs]; rw [putRows_append]; exact d6
      · simp only [resAs] at h; rw [putRows_append] at h; exact h
  | [], _, _, _, _, [], _ :: _, _, _, _, _, hr, _ => hr.elim
  | [], _, _, _, _, _ :: _, _, _, _, _, _, hr, _ => hr.elim
  | _ :: _, _, _, _, _, [], _, _, _, _, _, hr, _ => hr.elim
  | _ :: _, _, _, _, _, _ :: _, [], _, _, _, _, hr, _ => hr.elim
end
end Go.Proofs.Ytfaghnapfkpdhaa
