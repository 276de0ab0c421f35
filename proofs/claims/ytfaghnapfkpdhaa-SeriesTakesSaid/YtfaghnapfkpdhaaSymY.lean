/-
  Loops: behind a round.
-/
import Derived.Test.YtfaghnapfkpdhaaSymX
namespace Go.Proofs.Ytfaghnapfkpdhaa
open Go.RowKit

section
variable {B : Nat} {w0 : World} {tm σ : St} {c c0 c2 : Ct} {a : Act} {w : World} {nv nb nr : Nat}

/-- The place of the next round agrees with this one's on what was at the head. -/
structure Cut (c2 c : Ct) (nv nb nr : Nat) : Prop where
  ρ : ∀ i, i < nv → c2.ρ.getD i (.i 0) = c.ρ.getD i (.i 0)
  β : ∀ p, p < nb → c2.β p = c.β p
  R : ∀ r, r < nr → c2.R r = c.R r

theorem blt_lt {a b : Nat} (h : Nat.blt a b = true) : a < b := by
  have : (a + 1).ble b = true := h
  exact Nat.le_of_ble_eq_true this
def At.inB (nb nr : Nat) (x : At) : Bool := (match x.rid with | some r => Nat.blt r nr | none => true) && (match x.bid with | some p => Nat.blt p nb | none => true) && (match x with | .fn _ cs => cs.all (Nat.blt · nb) | _ => true)
theorem At.rel_cut (hc : Cut c2 c nv nb nr) {x : At} (hu : x.under nv = true) (hb : x.inB nb nr = true) {v : Value} (h : x.rel c v) : x.rel c2 v := by
  unfold At.inB at hb
  simp only [Bool.and_eq_true] at hb
  obtain ⟨⟨b1, b2⟩, b3⟩ := hb
  have hev : ∀ e : Ex, e.under nv = true → e.ev c2.ρ = e.ev c.ρ := fun e he => Ex.ev_under hc.ρ he
  cases x <;> simp only [At.rel, At.under, Bool.and_eq_true] at hu h ⊢
  case int k e => rw [hev _ hu]; exact h
  case bool e => rw [hev _ hu]; exact h
  case str e => rw [hev _ hu]; exact h
  case ptr p off => rw [hc.β p (blt_lt b2)]; exact h
  case pel r es ix off => rw [hev _ hu, hc.R r (blt_lt b1)]; exact h
  case nilp => exact h
  case vec r => rw [hc.R r (blt_lt b1)]; exact h
  case sl r es lo len => rw [hev _ hu.1, hev _ hu.2, hc.R r (blt_lt b1)]; exact h
  case nils => exact h
  case fn f caps =>
    obtain ⟨ns, e, rfl⟩ := h
    refine ⟨ns, ?_, rfl⟩
    rw [← e]
    refine List.map_congr_left fun p hp => hc.β p (blt_lt (List.all_eq_true.1 b3 p hp))
theorem relL_cut (hc : Cut c2 c nv nb nr) : ∀ {xs : List At} {vs : List Value}, xs.all (·.under nv) = true → xs.all (·.inB nb nr) = true → relL c xs vs → relL c2 xs vs
  | [], [], _, _, _ => trivial
  | x :: xs, v :: vs, h1, h2, h => by
    simp only [List.all_cons, Bool.and_eq_true] at h1 h2
    exact ⟨At.rel_cut hc h1.1 h2.1 h.1, relL_cut hc h1.2 h2.2 h.2⟩
  | [], _ :: _, _, _, h => h.elim
  | _ :: _, [], _, _, h => h.elim
theorem SC.rel_cut (hc : Cut c2 c nv nb nr) {x : SC} (hu : x.under nv = true) (hb : x.atoms.all (·.inB nb nr) = true) {v : Value} (h : x.rel c v) : x.rel c2 v := by
  cases x with
  | a x => simp only [SC.atoms, List.all_cons, List.all_nil, Bool.and_true] at hb; exact At.rel_cut hc hu hb h
  | g xs => obtain ⟨vs, e, r⟩ := h; exact ⟨vs, e, relL_cut hc hu hb r⟩
theorem relC_cut (hc : Cut c2 c nv nb nr) : ∀ {xs : List SC} {vs : List Value}, xs.all (·.under nv) = true → (xs.flatMap SC.atoms).all (·.inB nb nr) = true → relC c xs vs → relC c2 xs vs
  | [], [], _, _, _ => trivial
  | x :: xs, v :: vs, h1, h2, h => by
    simp only [List.all_cons, Bool.and_eq_true, List.flatMap_cons, List.all_append] at h1 h2
    exact ⟨SC.rel_cut hc h1.1 h2.1 h.1, relC_cut hc h1.2 h2.2 h.2⟩
  | [], _ :: _, _, _, h => h.elim
  | _ :: _, [], _, _, h => h.elim
theorem SV.rel_cut (hc : Cut c2 c nv nb nr) {x : SV} (hu : x.under nv = true) (hb : x.atoms.all (·.inB nb nr) = true) {v : Value} (h : x.rel c v) : x.rel c2 v := by
  cases x with
  | c x => exact SC.rel_cut hc hu hb h
  | t xs => obtain ⟨vs, e, r⟩ := h; exact ⟨vs, e, relC_cut hc hu hb r⟩
theorem keptAt_spec (hc : Cut c2 c nv nb nr) {x y : At} (hk : keptAt nv nb nr x y = true) {v : Value} (h : y.rel c v) : x.rel c2 v := by
  unfold keptAt at hk
  simp only [Bool.and_eq_true] at hk
  obtain ⟨⟨⟨⟨k1, k2⟩, k3⟩, k4⟩, k5⟩ := hk
  refine At.rel_cut hc k2 ?_ (At.le_rel k1 h)
  unfold At.inB
  simp only [Bool.and_eq_true]
  exact ⟨⟨k3, k4⟩, k5⟩
theorem keptSV_spec (hc : Cut c2 c nv nb nr) {x y : SV} (hk : keptSV nv nb nr x y = true) {v : Value} (h : y.rel c v) : x.rel c2 v := by
  unfold keptSV at hk
  simp only [Bool.and_eq_true] at hk
  obtain ⟨⟨k1, k2⟩, k3⟩ := hk
  exact SV.rel_cut hc k2 k3 (SV.le_rel k1 h)

/-- A loop's row of its own, and the one that takes its place. -/
def NewOk (tm σ : St) (ρ2 ρ : List Sc) (nr : Nat) (z : Nat × Nat) : Prop :=
  ∃ w0 w1 m, tm.row z.1 = some w0 ∧ σ.row z.2 = some w1 ∧ w1.own = true ∧ w0.own = true ∧ w1.el = w0.el ∧ w1.ks = w0.ks ∧ w1.agg = w0.agg ∧ w0.cont = .v m ∧ ρ2.getD m (.i 0) = w1.cont.ev ρ ∧ nr ≤ z.1
theorem tmBack_new {m : Nat} {x y : At} {es : List Ex} {qs : List (Nat × Nat)} (h : tmBack tm.rows σ.rows nr m x y = some (es, qs)) {ρ2 ρ : List Sc} (hv : Vals ρ2 ρ m es) : ∀ z ∈ qs, NewOk tm σ ρ2 ρ nr z := by
  unfold tmBack at h
  split at h <;> (try (split at h <;> (try split at h) <;> (try cases h) <;> (intro z hz; cases hz); done))
  · rename_i r
    split at h
    · rename_i w1 hw1
      split at h
      · rename_i q
        split at h
        · rename_i w0' hw0
          split at h
          · rename_i hc
            cases h
            intro z hz
            simp only [List.mem_singleton] at hz
            subst hz
            obtain ⟨h1, h2, h3, h4, h5, h6, h7⟩ := hc
            exact ⟨w0', w1, m, hw0, hw1, h1, h2, h3, h4, h5, Ex.same_eq h6, hv.at, h7⟩
          · cases h
        · cases h
      · split at h <;> cases h
        intro z hz; cases hz
      · cases h
    · cases h
  all_goals cases h

theorem tmBack_rel (g : Good B w0 σ c a w) (hR : ∀ r, r < nr → c2.R r = c.R r) {m : Nat} {x y : At} {es : List Ex} {qs : List (Nat × Nat)} (h : tmBack tm.rows σ.rows nr m x y = some (es, qs)) (hv : Vals c2.ρ c.ρ m es)
    (hn : ∀ z ∈ qs, c2.R z.1 = c.R z.2) {v : Value} (hy : y.rel c v) : x.rel c2 v := by
  unfold tmBack at h
  split at h
  · split at h
    · split at h
      · rename_i hc
        cases h
        obtain ⟨rfl, rfl⟩ := hc
        have hy : v = _ := hy
        rw [hy]; show _ = Value.int _ (c2.ρ.getD _ (.i 0)).int; rw [hv.at]
      · cases h
    · cases h
  · split at h
    · split at h
      · rename_i hc
        cases h
        subst hc
        have hy : v = _ := hy
        rw [hy]; show _ = Value.bool (c2.ρ.getD _ (.i 0)).bool; rw [hv.at]
      · cases h
    · cases h
  · split at h
    · split at h
      · rename_i hc
        cases h
        subst hc
        have hy : v = _ := hy
        rw [hy]; show _ = Value.string (c2.ρ.getD _ (.i 0)).str; rw [hv.at]
      · cases h
    · cases h
  · rename_i r
    split at h
    · rename_i w1 hw1
      split at h
      · rename_i q
        split at h
        · split at h
          · cases h
            have := hn (q, r) (by simp)
            exact ⟨this.trans hy.1, hy.2⟩
          · cases h
        · cases h
      · split at h
        · rename_i hc
          cases h
          obtain ⟨rfl, rfl, hok, rfl, rfl, hlt⟩ := hc
          refine whole_rel g hw1 hok hy.1 ((hR _ hlt).trans hy.1) ?_ ?_
          · show (c2.ρ.getD _ (.i 0)).int = 0; rw [hv.at]; rfl
          · show (c2.ρ.getD _ (.i 0)).int = _; rw [hv.at1, mk1_ev]; rfl
        · cases h
      · cases h
    · cases h
  · rename_i r es' lo len
    split at h
    · split at h
      · rename_i hc
        cases h
        obtain ⟨rfl, rfl, rfl, rfl, hlt⟩ := hc
        rename_i j'
        have e1 : (Ex.v j').ev c2.ρ = lo.ev c.ρ := hv.at
        have e2 : (Ex.v (j' + 1)).ev c2.ρ = len.ev c.ρ := hv.at1
        simp only [At.rel, e1, e2, hR _ hlt] at hy ⊢
        exact hy
      · cases h
    · cases h
  · cases h

theorem bkVars_spec {ρ2 ρ : List Sc} : ∀ {l : List (Nat × Nat)} {m : Nat} {es : List Ex} {qs : List (Nat × Nat)}, bkVars tm σ nr m l = some (es, qs) → Vals ρ2 ρ m es →
    (∀ z ∈ qs, NewOk tm σ ρ2 ρ nr z) ∧ ∀ t ∈ l, ∃ x y e q m', tm.slot t.1 = .c (.a x) ∧ σ.slot t.1 = .c (.a y) ∧ tmBack tm.rows σ.rows nr m' x y = some (e, q) ∧ Vals ρ2 ρ m' e ∧ ∀ z ∈ q, z ∈ qs
  | [], m, es, qs, h, _ => by
    simp only [bkVars, Option.some.injEq, Prod.mk.injEq] at h
    obtain ⟨rfl, rfl⟩ := h
    exact ⟨fun z hz => (by cases hz), fun t ht => (by cases ht)⟩
  | (t, el) :: r, m, es, qs, h, hv => by
    simp only [bkVars] at h
    split at h
    · rename_i x y hx hy
      split at h
      · rename_i e q hb
        split at h
        · rename_i es' qs' hrec
          simp only [Option.some.injEq, Prod.mk.injEq] at h
          obtain ⟨rfl, rfl⟩ := h
          obtain ⟨i1, i2⟩ := bkVars_spec hrec hv.right
          refine ⟨fun z hz => (List.mem_append.1 hz).elim (tmBack_new hb hv.left z) (i1 z), fun u hu => ?_⟩
          rcases List.mem_cons.1 hu with rfl | hu
          · exact ⟨x, y, e, q, m, at?_eq hx, at?_eq hy, hb, hv.left, fun z hz => List.mem_append_left _ hz⟩
          · obtain ⟨x', y', e', q', m', j1, j2, j3, j4, j5⟩ := i2 u hu
            exact ⟨x', y', e', q', m', j1, j2, j3, j4, fun z hz => List.mem_append_right _ (j5 z hz)⟩
        · cases h
      · cases h
    · cases h
theorem bkCells_spec {ρ2 ρ : List Sc} : ∀ {l : List (Nat × Nat × Nat)} {m : Nat} {es : List Ex} {qs : List (Nat × Nat)}, bkCells tm σ nr m l = some (es, qs) → Vals ρ2 ρ m es →
    (∀ z ∈ qs, NewOk tm σ ρ2 ρ nr z) ∧ ∀ t ∈ l, ∃ x y e q m', tm.cellAt t.1 t.2.1 = some x ∧ σ.cellAt t.1 t.2.1 = some y ∧ tmBack tm.rows σ.rows nr m' x y = some (e, q) ∧ Vals ρ2 ρ m' e ∧ ∀ z ∈ q, z ∈ qs
  | [], m, es, qs, h, _ => by
    simp only [bkCells, Option.some.injEq, Prod.mk.injEq] at h
    obtain ⟨rfl, rfl⟩ := h
    exact ⟨fun z hz => (by cases hz), fun t ht => (by cases ht)⟩
  | (p, off, el) :: r, m, es, qs, h, hv => by
    simp only [bkCells] at h
    split at h
    · rename_i x y hx hy
      split at h
      · rename_i e q hb
        split at h
        · rename_i es' qs' hrec
          simp only [Option.some.injEq, Prod.mk.injEq] at h
          obtain ⟨rfl, rfl⟩ := h
          obtain ⟨i1, i2⟩ := bkCells_spec hrec hv.right
          refine ⟨fun z hz => (List.mem_append.1 hz).elim (tmBack_new hb hv.left z) (i1 z), fun u hu => ?_⟩
          rcases List.mem_cons.1 hu with rfl | hu
          · exact ⟨x, y, e, q, m, hx, hy, hb, hv.left, fun z hz => List.mem_append_left _ hz⟩
          · obtain ⟨x', y', e', q', m', j1, j2, j3, j4, j5⟩ := i2 u hu
            exact ⟨x', y', e', q', m', j1, j2, j3, j4, fun z hz => List.mem_append_right _ (j5 z hz)⟩
        · cases h
      · cases h
    · cases h
theorem bkRows_spec {ρ2 ρ : List Sc} : ∀ {l : List Nat} {m : Nat} {es : List Ex}, bkRows tm σ m l = some es → Vals ρ2 ρ m es →
    ∀ r ∈ l, ∃ w0 w1 m', tm.row r = some w0 ∧ σ.row r = some w1 ∧ w1.own = true ∧ w0.own = true ∧ w1.el = w0.el ∧ w1.ks = w0.ks ∧ w1.agg = w0.agg ∧ w0.cont = .v m' ∧ ρ2.getD m' (.i 0) = w1.cont.ev ρ
  | [], m, es, h, _ => fun r hr => by cases hr
  | r :: rr, m, es, h, hv => by
    simp only [bkRows] at h
    split at h
    · rename_i w0' w1 hx hy
      split at h
      · rename_i hc
        obtain ⟨h1, h2, h3, h4, h5, h6⟩ := hc
        split at h
        · rename_i es' hrec
          cases h
          intro u hu
          rcases List.mem_cons.1 hu with rfl | hu
          · exact ⟨w0', w1, m, hx, hy, h1, h2, h3, h4, h5, Ex.same_eq h6, hv.at⟩
          · exact bkRows_spec hrec hv.tail u hu
        · cases h
      · cases h
    · cases h

theorem keepSlots_spec {h : Hint} : ∀ {xs ys : List SV} {n : Nat}, keepSlots h nv nb nr n xs ys = true → xs.length = ys.length ∧ ∀ t, t < xs.length → (∃ u ∈ h.vars, u.1 = n + t) ∨ keptSV nv nb nr (xs.getD t .top) (ys.getD t .top) = true
  | [], [], n, _ => ⟨rfl, fun t ht => by cases ht⟩
  | x :: xs, y :: ys, n, hk => by
    simp only [keepSlots, Bool.and_eq_true, Bool.or_eq_true, List.any_eq_true] at hk
    obtain ⟨i1, i2⟩ := keepSlots_spec hk.2
    refine ⟨by simp [i1], fun t ht => ?_⟩
    cases t with
    | zero =>
      refine hk.1.imp (fun ⟨u, hu, e⟩ => ⟨u, hu, Nat.eq_of_beq_eq_true e⟩) (fun h => ?_)
      simpa using h
    | succ t =>
      refine (i2 t (by simpa using ht)).imp (fun ⟨u, hu, e⟩ => ⟨u, hu, by omega⟩) (fun h => ?_)
      simpa using h
  | [], _ :: _, _, hk => by simp [keepSlots] at hk
  | _ :: _, [], _, hk => by simp [keepSlots] at hk
theorem keepCells_spec {cells : List (Nat × Nat × Nat)} {p : Nat} : ∀ {xs ys : List At} {n : Nat}, keepCells cells nv nb nr p n xs ys = true → ∀ {P : Nat → At → Value → Prop} {vs : List Value}, relL c ys vs →
    (∀ (j : Nat) (x y : At) (v : Value), xs[j]? = some x → ys[j]? = some y → (isCell cells p (n + j) = true ∨ keptAt nv nb nr x y = true) → y.rel c v → P j x v) → vs.length = xs.length ∧ ∀ (j : Nat) (x : At) (v : Value), xs[j]? = some x → vs[j]? = some v → P j x v
  | [], [], n, _, P, [], _, _ => ⟨rfl, fun j x v h => by simp at h⟩
  | x :: xs, y :: ys, n, hk, P, v :: vs, hr, hP => by
    simp only [keepCells, Bool.and_eq_true, Bool.or_eq_true] at hk
    obtain ⟨i1, i2⟩ := keepCells_spec (n := n + 1) hk.2 (P := fun j x v => P (j + 1) x v) hr.2 (fun j x y v h1 h2 h3 h4 => hP (j + 1) x y v (by simpa using h1) (by simpa using h2) (by rw [show n + (j + 1) = n + 1 + j by omega]; exact h3) h4)
    refine ⟨by simp [i1], fun j u z hu hz => ?_⟩
    cases j with
    | zero => simp at hu hz; subst hu hz; exact hP 0 x y v rfl rfl hk.1 hr.1
    | succ j => exact i2 j u z (by simpa using hu) (by simpa using hz)
  | [], [], _, _, _, _ :: _, hr, _ => hr.elim
  | _ :: _, _ :: _, _, _, _, [], hr, _ => hr.elim
  | [], _ :: _, _, hk, _, _, _, _ => by simp [keepCells] at hk
  | _ :: _, [], _, hk, _, _, _, _ => by simp [keepCells] at hk
theorem relL_of : ∀ {xs : List At} {vs : List Value}, vs.length = xs.length → (∀ (j : Nat) (x : At) (v : Value), xs[j]? = some x → vs[j]? = some v → x.rel c v) → relL c xs vs
  | [], [], _, _ => trivial
  | x :: xs, v :: vs, hl, h => ⟨h 0 x v rfl rfl, relL_of (by simpa using hl) (fun j x v h1 h2 => h (j + 1) x v (by simpa using h1) (by simpa using h2))⟩
  | [], _ :: _, hl, _ => by simp at hl
  | _ :: _, [], hl, _ => by simp at hl
theorem keepBlks_spec {h : Hint} : ∀ {l : List (Option Bk)} {p : Nat}, keepBlks h nv nb nr σ p l = true → ∀ q k, l.getD q none = some k → ∃ k', σ.blk (p + q) = some k' ∧ k.ty = k'.ty ∧ keepCells h.cells nv nb nr (p + q) 0 k.cells k'.cells = true
  | [], p, _, q, k, hq => by simp at hq
  | none :: l, p, hk, q, k, hq => by
    cases q with
    | zero => simp at hq
    | succ q =>
      have := keepBlks_spec (p := p + 1) hk q k (by simpa using hq)
      rw [show p + (q + 1) = p + 1 + q by omega]; exact this
  | some k0 :: l, p, hk, q, k, hq => by
    simp only [keepBlks, Bool.and_eq_true] at hk
    cases q with
    | zero =>
      simp at hq; subst hq
      have h1 := hk.1
      split at h1
      · rename_i k' hk'
        simp only [Bool.and_eq_true] at h1
        exact ⟨k', hk', Nat.eq_of_beq_eq_true h1.1, h1.2⟩
      · cases h1
    | succ q =>
      have := keepBlks_spec (p := p + 1) hk.2 q k (by simpa using hq)
      rw [show p + (q + 1) = p + 1 + q by omega]; exact this
theorem keepRows_spec {h : Hint} {news : List (Nat × Nat)} : ∀ {l : List (Option Rw)} {r : Nat}, keepRows h nv nr σ news r l = true → ∀ q k, l.getD q none = some k →
    (r + q < nr ∧ ((r + q) ∈ h.rows ∨ ∃ k', σ.row (r + q) = some k' ∧ k.same k' = true ∧ k.cont.under nv = true)) ∨ (nr ≤ r + q ∧ ∃ z ∈ news, z.1 = r + q)
  | [], p, _, q, k, hq => by simp at hq
  | none :: l, p, hk, q, k, hq => by
    cases q with
    | zero => simp at hq
    | succ q =>
      have := keepRows_spec (r := p + 1) hk q k (by simpa using hq)
      rw [show p + (q + 1) = p + 1 + q by omega]; exact this
  | some k0 :: l, p, hk, q, k, hq => by
    simp only [keepRows, Bool.and_eq_true] at hk
    cases q with
    | zero =>
      simp at hq; subst hq
      have h1 := hk.1
      split at h1
      · rename_i hlt
        simp only [Bool.or_eq_true] at h1
        refine .inl ⟨by simpa using hlt, h1.imp hasN_mem.1 fun h => ?_⟩
        split at h
        · rename_i k' hk'
          simp only [Bool.and_eq_true] at h
          exact ⟨k', hk', h.1, h.2⟩
        · cases h
      · rename_i hlt
        obtain ⟨z, hz, e⟩ := List.any_eq_true.1 h1
        exact .inr ⟨by simpa using hlt, z, hz, Nat.eq_of_beq_eq_true e⟩
    | succ q =>
      have := keepRows_spec (r := p + 1) hk.2 q k (by simpa using hq)
      rw [show p + (q + 1) = p + 1 + q by omega]; exact this
theorem ownRows_spec : ∀ {l : List (Option Rw)} {r : Nat} (q : Nat) (k : Rw), l.getD q none = some k → k.own = true → r + q < nr → (r + q) ∈ ownRows nr r l
  | [], _, q, k, hq, _, _ => by simp at hq
  | x :: l, r, q, k, hq, ho, hlt => by
    simp only [ownRows, List.mem_append]
    cases q with
    | zero =>
      simp at hq; subst hq
      left
      simp only [Nat.add_zero] at hlt ⊢
      simp [ho, hlt]
    | succ q =>
      right
      rw [show r + (q + 1) = r + 1 + q by omega]
      exact ownRows_spec q k (by simpa using hq) ho (by omega)
theorem distinctN_nodup : ∀ {l : List Nat}, distinctN l = true → l.Nodup
  | [], _ => List.nodup_nil
  | x :: l, h => by
    simp only [distinctN, Bool.and_eq_true, Bool.not_eq_true'] at h
    refine List.nodup_cons.2 ⟨fun hm => ?_, distinctN_nodup h.2⟩
    rw [hasN_mem.2 hm] at h; exact absurd h.1 (by simp)
theorem Rw.same_eq {k k' : Rw} (h : k.same k' = true) : k = k' := by
  unfold Rw.same at h
  simp only [Bool.and_eq_true, decide_eq_true_eq] at h
  obtain ⟨⟨⟨⟨h1, h2⟩, h3⟩, h4⟩, h5⟩ := h
  cases k; cases k'
  simp only at h1 h2 h3 h4 h5
  have h1 := eq_of_beq h1
  have h3 := eq_of_beq h3
  have h5 := eq_of_beq h5
  have h4 := Ex.same_eq h4
  subst h1 h2 h3 h4 h5; rfl
def rowFor (news : List (Nat × Nat)) (nr r : Nat) : Option Nat := if r < nr then some r else (news.find? fun z => Nat.beq z.1 r).map (·.2)
theorem find_key : ∀ {news : List (Nat × Nat)}, (news.map (·.1)).Nodup → ∀ z ∈ news, (news.find? fun y => Nat.beq y.1 z.1) = some z
  | [], _, z, hz => by cases hz
  | y :: l, hd, z, hz => by
    simp only [List.map_cons, List.nodup_cons] at hd
    simp only [List.find?_cons]
    by_cases he : y.1 = z.1
    · rcases List.mem_cons.1 hz with rfl | hz
      · simp
      · exact (hd.1 (List.mem_map.2 ⟨z, hz, he.symm⟩)).elim
    · have : Nat.beq y.1 z.1 = false := by
        cases hb : Nat.beq y.1 z.1
        · rfl
        · exact absurd (Nat.eq_of_beq_eq_true hb) he
      rw [this]
      rcases List.mem_cons.1 hz with rfl | hz
      · exact absurd rfl he
      · exact find_key hd.2 z hz
end
end Go.Proofs.Ytfaghnapfkpdhaa
