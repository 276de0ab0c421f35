/-
  Loops: the state at a loop's head.
  Loops: behind a round.
  Loops: from round to round; code.
  Code: the run says what it does.
  Functions: results, callees run in place.
  Functions: their trees give their contracts.
  A tree as a plain function.
  Functions that call themselves.
-/
import Derived.Test.YtkjgcalkkfgmlaaDoorSymS
import Derived.Deep.LoopGhost
namespace Go.Proofs.YtkjgcalkkfgmlaaDoor
open Go.RowKit

section
variable {P : Program} {B : Nat} {w0 : World} {σ σ' : St} {c c0 c2 : Ct} {a : Act} {w : World}

/-- The variables from m on have the values of the expressions. -/
def Vals (ρ2 ρ : List Sc) (m : Nat) (es : List Ex) : Prop := ∀ i e, es[i]? = some e → ρ2.getD (m + i) (.i 0) = e.ev ρ
theorem Vals.left {ρ2 ρ : List Sc} {m : Nat} {es es' : List Ex} (h : Vals ρ2 ρ m (es ++ es')) : Vals ρ2 ρ m es := fun i e he => h i e (by
  rw [List.getElem?_append_left (List.getElem?_eq_some_iff.1 he).1]; exact he)
theorem Vals.right {ρ2 ρ : List Sc} {m : Nat} {es es' : List Ex} (h : Vals ρ2 ρ m (es ++ es')) : Vals ρ2 ρ (m + es.length) es' := fun i e he => by
  have := h (es.length + i) e (by rw [List.getElem?_append_right (by omega), Nat.add_sub_cancel_left]; exact he)
  rw [Nat.add_assoc]; exact this
theorem Vals.at {ρ2 ρ : List Sc} {m : Nat} {e : Ex} {es : List Ex} (h : Vals ρ2 ρ m (e :: es)) : ρ2.getD m (.i 0) = e.ev ρ := by simpa using h 0 e rfl
theorem Vals.at1 {ρ2 ρ : List Sc} {m : Nat} {e e' : Ex} {es : List Ex} (h : Vals ρ2 ρ m (e :: e' :: es)) : ρ2.getD (m + 1) (.i 0) = e'.ev ρ := h 1 e' rfl
theorem Vals.tail {ρ2 ρ : List Sc} {m : Nat} {e : Ex} {es : List Ex} (h : Vals ρ2 ρ m (e :: es)) : Vals ρ2 ρ (m + 1) es := Vals.right (es := [e]) h

/-- The whole of a row, as a slice of it. -/
theorem whole_rel (g : Good B w0 σ c a w) {r : Nat} {k : Rw} (hr : σ.row r = some k) (hok : okFormB k.agg k.ks = true) {v : Value} (hv : c.R r = some v) (h2 : c2.R r = some v) {lo len : Ex} (hlo : (lo.ev c2.ρ).int = 0) (hlen : (len.ev c2.ρ).int = (k.cont.ev c.ρ).list.length) :
    (At.sl r k.ks.length lo len).rel c2 v := by
  obtain ⟨ad, n, cap, e, h1, h3, h4, h5⟩ := g.read hr
  rw [hv] at e; cases e
  refine ⟨ad, n, cap, ad, cap, h2, ?_, by omega, by omega, by omega, by omega, h4, fun hp => ?_⟩
  · rw [hlen, h1]; simp
  · obtain ⟨hf, hks⟩ := okForm_of hok
    have hl : 0 < (rowFlat k.agg k.ks (k.cont.ev c.ρ).list).length := by rw [flat_length hf]; exact Nat.mul_pos (by omega) hks
    obtain ⟨p, o, e1, _⟩ := h5 0 _ (List.getElem?_eq_getElem hl)
    exact ⟨p, o, e1, by rw [e1, hlo]; simp⟩

theorem Good.reslot (g : Good B w0 σ c a w) {t : Nat} {sv : SV} (h : sv.rel c (a.tmps.getD t undef)) : Good B w0 { σ with slots := σ.slots.set t sv } c a w := by
  refine ⟨g.below, g.hB, g.defers, by simpa using g.size, fun u => ?_, g.blks, g.rows, g.apart⟩
  show ((σ.slots.set t sv).getD u .top).rel c _
  rw [slot_set]
  split
  · rename_i h2; rw [← h2.1]; exact h
  · exact g.slots u
theorem relL_set : ∀ {xs : List At} {vs : List Value} {n : Nat} {x : At} {v : Value}, relL c xs vs → vs[n]? = some v → x.rel c v → relL c (xs.set n x) vs
  | [], [], _, _, _, _, _, _ => trivial
  | _ :: _, v' :: _, 0, _, v, h, e, hx => by simp at e; subst e; exact ⟨hx, h.2⟩
  | _ :: _, _ :: _, n + 1, _, _, h, e, hx => ⟨h.1, relL_set h.2 (by simpa using e) hx⟩
  | [], _ :: _, _, _, _, h, _, _ => h.elim
  | _ :: _, [], _, _, _, h, _, _ => h.elim
theorem blk_set (l : List (Option Bk)) (p : Nat) (k : Option Bk) (q : Nat) (h : p < l.length) : (l.set p k).getD q none = if q = p then k else l.getD q none := by
  simp only [List.getD_eq_getElem?_getD, List.getElem?_set]
  by_cases hq : p = q
  · subst hq; simp [h]
  · simp [hq, Ne.symm hq]
theorem set_row (l : List (Option Rw)) (r : Nat) (k : Option Rw) (q : Nat) (h : r < l.length) : (l.set r k).getD q none = if q = r then k else l.getD q none := by
  simp only [List.getD_eq_getElem?_getD, List.getElem?_set]
  by_cases hq : r = q
  · subst hq; simp [h]
  · simp [hq, Ne.symm hq]
theorem row_lt {r : Nat} {k : Rw} (h : σ.row r = some k) : r < σ.rows.length := by
  rcases Nat.lt_or_ge r σ.rows.length with h2 | h2
  · exact h2
  · exfalso
    have : σ.row r = none := by unfold St.row; simp [List.getD_eq_getElem?_getD, List.getElem?_eq_none h2]
    rw [this] at h; cases h
theorem Good.recont (g : Good B w0 σ c a w) {r : Nat} {k : Rw} (hr : σ.row r = some k) (ho : k.own = true) {e : Ex} (he : e.ev c.ρ = k.cont.ev c.ρ) : Good B w0 { σ with rows := σ.rows.set r (some { k with cont := e }) } c a w := by
  have hrow : ∀ q, St.row { σ with rows := σ.rows.set r (some { k with cont := e }) } q = if q = r then some { k with cont := e } else σ.row q := fun q => set_row _ _ _ _ (row_lt hr)
  have howns : ∀ y n, St.owns { σ with rows := σ.rows.set r (some { k with cont := e }) } c y n → σ.owns c y n := by
    rintro ⟨t, q⟩ n h
    cases t
    · exact h
    · obtain ⟨⟨k', hk', ho'⟩, e'⟩ := h
      refine ⟨?_, e'⟩
      rw [hrow] at hk'
      by_cases hq : q = r
      · subst hq; exact ⟨k, hr, ho⟩
      · rw [if_neg hq] at hk'; exact ⟨k', hk', ho'⟩
  refine ⟨g.below, g.hB, g.defers, g.size, g.slots, g.blks, fun q k' hq => ?_, fun y z n hy hz => g.apart y z n (howns y n hy) (howns z n hz)⟩
  rw [hrow] at hq
  by_cases h2 : q = r
  · rw [if_pos h2] at hq; cases hq; subst h2
    obtain ⟨v, e', ad, n, cap, rfl, h1, h2, h3, h4, h5⟩ := g.rows q k hr
    refine ⟨_, e', ad, n, cap, rfl, by rw [he]; exact h1, h2, h3, fun _ => by rw [he]; exact h4 ho, fun h => by rw [ho] at h; cases h⟩
  · rw [if_neg h2] at hq
    obtain ⟨v, e', ad, n, cap, rfl, h1, h2, h3, h4, h5⟩ := g.rows q k' hq
    exact ⟨_, e', ad, n, cap, rfl, h1, h2, h3, h4, fun ho j u hj => by
      obtain ⟨q, o, e1, e2, e3⟩ := h5 ho j u hj
      exact ⟨q, o, e1, e2, fun y hy => e3.1 y (howns y q hy), e3.2⟩⟩

theorem tmOf_sound (g : Good B w0 σ c a w) (hf : Fresh σ c) {el : Nat} {x x' : At} {es : List Ex} {rs : List (Nat × Option Rw)} (h : tmOf P σ.rows σ.nv σ.rows.length el x = some (x', es, rs)) (hv : Vals c.ρ c.ρ σ.nv es) :
    ∃ c', c.le c' ∧ Good B w0 { σ with rows := putRows σ.rows rs } c' a w ∧ Fresh { σ with rows := putRows σ.rows rs } c' ∧ σ.rows.length ≤ (putRows σ.rows rs).length ∧ ∀ v, x.rel c v → x'.rel c' v := by
  unfold tmOf at h
  split at h
  · cases h
    exact ⟨c, .refl c, g, hf, Nat.le_refl _, fun v hx => by have hx : v = _ := hx; rw [hx]; show _ = Value.int _ (c.ρ.getD σ.nv (.i 0)).int; rw [hv.at]⟩
  · cases h
    exact ⟨c, .refl c, g, hf, Nat.le_refl _, fun v hx => by have hx : v = _ := hx; rw [hx]; show _ = Value.bool (c.ρ.getD σ.nv (.i 0)).bool; rw [hv.at]⟩
  · cases h
    exact ⟨c, .refl c, g, hf, Nat.le_refl _, fun v hx => by have hx : v = _ := hx; rw [hx]; show _ = Value.string (c.ρ.getD σ.nv (.i 0)).str; rw [hv.at]⟩
  · rename_i r
    split at h
    · rename_i k hk
      have hk : σ.row r = some k := hk
      split at h
      · rename_i ho
        cases h
        obtain ⟨v, e, ad, n, cap, rfl, h1, h2, h3, h4, h5⟩ := g.rows r k hk
        have hev : ((Ex.v σ.nv).ev c.ρ) = k.cont.ev c.ρ := by show c.ρ.getD σ.nv (.i 0) = _; rw [hv.at]
        have hRn := hf.R σ.rows.length (Nat.le_refl _)
        have g2 := g.turnRow (w' := w) hk ho e (World.grownBy.refl _ _) (r' := σ.rows.length) (k' := { k with cont := .v σ.nv }) ho (by rw [hev]; exact h1) h2 h3 (by rw [hev]; exact h4 ho) (.inl rfl) (.inl hRn)
        refine ⟨{ c with R := fun i => if i = σ.rows.length then some (.slice ad n cap) else c.R i }, ⟨rfl, rfl, fun _ _ h => h, fun i u h => ?_⟩, g2, ⟨hf.β, fun q hq => ?_⟩, ?_, fun u hx => ?_⟩
        · by_cases hi : i = σ.rows.length
          · subst hi; rw [hRn] at h; cases h
          · simp [hi, h]
        · have hl := putRows_length [(r, none), (σ.rows.length, some { k with cont := Ex.v σ.nv })] σ.rows
          have h1 := hl.2 (σ.rows.length, some { k with cont := Ex.v σ.nv }) (by simp)
          simp only at h1 hq
          have hne : q ≠ σ.rows.length := by omega
          simp only [if_neg hne]
          exact hf.R q (by omega)
        · exact (putRows_length _ _).1
        · obtain ⟨hx, a', n', cap', rfl⟩ := hx
          rw [e] at hx
          refine ⟨by simp [hx], a', n', cap', rfl⟩
      · split at h
        · rename_i hok
          cases h
          refine ⟨c, .refl c, g, hf, Nat.le_refl _, fun v hx => ?_⟩
          refine whole_rel g hk hok hx.1 hx.1 ?_ ?_
          · show (c.ρ.getD σ.nv (.i 0)).int = 0; rw [hv.at]; rfl
          · show (c.ρ.getD (σ.nv + 1) (.i 0)).int = _; rw [hv.at1, mk1_ev]; rfl
        · cases h
    · cases h
  · cases h
    refine ⟨c, .refl c, g, hf, Nat.le_refl _, fun v hx => ?_⟩
    rename_i r es' lo len
    have e1 : (Ex.v σ.nv).ev c.ρ = lo.ev c.ρ := hv.at
    have e2 : (Ex.v (σ.nv + 1)).ev c.ρ = len.ev c.ρ := hv.at1
    simp only [At.rel, e1, e2] at hx ⊢
    exact hx
  · split at h
    · rename_i agg ks _
      cases h
      have hRn := hf.R σ.rows.length (Nat.le_refl _)
      have hev : ((Ex.v σ.nv).ev c.ρ) = .l [] := by show c.ρ.getD σ.nv (.i 0) = _; rw [hv.at]; rfl
      have g2 := g.newRow (w' := w) g.below (Nat.le_refl _) (fun _ _ => rfl) (r := σ.rows.length) hRn (k := ⟨el, ks, agg, .v σ.nv, true⟩) (ad := none) (n := 0) (cap := 0) (by rw [hev]; rfl) (Nat.le_refl _) (by simp [maxLen])
        (fun _ => ⟨by rw [hev]; exact World.ownsRow_nil _ _ _ _, fun p hp => by cases hp⟩) (fun h => by cases h)
      refine ⟨{ c with R := fun i => if i = σ.rows.length then some (.slice none 0 0) else c.R i }, ⟨rfl, rfl, fun _ _ h => h, fun i u h => ?_⟩, g2, ⟨hf.β, fun q hq => ?_⟩, (putRows_length _ _).1, fun v hx => ?_⟩
      · by_cases hi : i = σ.rows.length
        · subst hi; rw [hRn] at h; cases h
        · simp [hi, h]
      · have hl := putRows_length [(σ.rows.length, some (⟨el, ks, agg, .v σ.nv, true⟩ : Rw))] σ.rows
        have h1 := hl.2 (σ.rows.length, some (⟨el, ks, agg, .v σ.nv, true⟩ : Rw)) (by simp)
        simp only at h1 hq
        have hne : q ≠ σ.rows.length := by omega
        simp only [if_neg hne]
        exact hf.R q (by omega)
      · have hx : v = .slice none 0 0 := hx
        subst hx
        exact ⟨by simp, none, 0, 0, rfl⟩
    · cases h
  · cases h

/-- One state grows into another at a loop's head. -/
structure Heads (B : Nat) (w0 : World) (σ σ' : St) (c : Ct) (a : Act) (w : World) (es : List Ex) : Prop where
  ex : ∃ c', c.le c' ∧ Good B w0 σ' c' a w ∧ Fresh σ' c'
  nv : σ'.nv = σ.nv + es.length
  nb : σ'.blks.length = σ.blks.length
  nr : σ.rows.length ≤ σ'.rows.length

theorem at?_eq {sv : SV} {x : At} (h : sv.at? = some x) : sv = .c (.a x) := by
  unfold SV.at? at h; split at h
  · cases h; rfl
  · cases h

theorem tmVars_sound : ∀ {l : List (Nat × Nat)} {σ σ' : St} {c : Ct} {es : List Ex}, tmVars P l σ = some (σ', es) → Good B w0 σ c a w → Fresh σ c → Vals c.ρ c.ρ σ.nv es → Heads B w0 σ σ' c a w es
  | [], σ, σ', c, es, h, g, hf, _ => by
    simp only [tmVars, Option.some.injEq, Prod.mk.injEq] at h
    obtain ⟨rfl, rfl⟩ := h
    exact ⟨⟨c, .refl c, g, hf⟩, rfl, rfl, Nat.le_refl _⟩
  | (t, el) :: r, σ, σ', c, es, h, g, hf, hv => by
    simp only [tmVars] at h
    split at h
    · rename_i x hx
      split at h
      · rename_i x' e1 rs htm
        split at h
        · rename_i σ2 e2 hrec
          simp only [Option.some.injEq, Prod.mk.injEq] at h
          obtain ⟨rfl, rfl⟩ := h
          obtain ⟨c1, hle, g1, hf1, hlen, hrel⟩ := tmOf_sound g hf htm hv.left
          have hst : (σ.slot t).rel c (a.tmps.getD t undef) := g.slots t
          rw [at?_eq hx] at hst
          have g2 : Good B w0 { σ with nv := σ.nv + e1.length, slots := σ.slots.set t (.at x'), rows := putRows σ.rows rs } c1 a w := by
            have := g1.reslot (t := t) (sv := .at x') (hrel _ hst)
            exact ⟨this.below, this.hB, this.defers, this.size, this.slots, this.blks, this.rows, this.apart⟩
          have ih := tmVars_sound hrec g2 ⟨hf1.β, hf1.R⟩ (by rw [hle.ρ]; exact hv.right)
          obtain ⟨⟨c2, hle2, g3, hf3⟩, n1, n2, n3⟩ := ih
          exact ⟨⟨c2, hle.trans hle2, g3, hf3⟩, by simp only at n1; rw [n1]; simp; omega, n2, Nat.le_trans hlen n3⟩
        · cases h
      · cases h
    · cases h

theorem tmCells_sound : ∀ {l : List (Nat × Nat × Nat)} {σ σ' : St} {c : Ct} {es : List Ex}, tmCells P l σ = some (σ', es) → Good B w0 σ c a w → Fresh σ c → Vals c.ρ c.ρ σ.nv es → Heads B w0 σ σ' c a w es
  | [], σ, σ', c, es, h, g, hf, _ => by
    simp only [tmCells, Option.some.injEq, Prod.mk.injEq] at h
    obtain ⟨rfl, rfl⟩ := h
    exact ⟨⟨c, .refl c, g, hf⟩, rfl, rfl, Nat.le_refl _⟩
  | (p, off, el) :: r, σ, σ', c, es, h, g, hf, hv => by
    simp only [tmCells] at h
    split at h
    · rename_i x hx
      split at h
      · rename_i x' e1 rs htm
        split at h
        · rename_i σ2 e2 hrec
          simp only [Option.some.injEq, Prod.mk.injEq] at h
          obtain ⟨rfl, rfl⟩ := h
          obtain ⟨c1, hle, g1, hf1, hlen, hrel⟩ := tmOf_sound g hf htm hv.left
          -- the cell's value is the same in both
          have g2 : Good B w0 (St.setCell { σ with nv := σ.nv + e1.length, rows := putRows σ.rows rs } p off x') c1 a w := by
            have hblk : ∃ k, σ.blk p = some k := by
              unfold St.cellAt at hx
              cases hk : σ.blk p with
              | none => rw [hk] at hx; cases hx
              | some k => exact ⟨k, rfl⟩
            obtain ⟨k, hk⟩ := hblk
            have hxk : k.cells[off]? = some x := by unfold St.cellAt at hx; rw [hk] at hx; exact hx
            have g1' : Good B w0 { σ with nv := σ.nv + e1.length, rows := putRows σ.rows rs } c1 a w := ⟨g1.below, g1.hB, g1.defers, g1.size, g1.slots, g1.blks, g1.rows, g1.apart⟩
            have hlen : p < σ.blks.length := by
              rcases Nat.lt_or_ge p σ.blks.length with h | h
              · exact h
              · exfalso
                have : σ.blk p = none := by unfold St.blk; simp [List.getD_eq_getElem?_getD, List.getElem?_eq_none h]
                rw [this] at hk; cases hk
            -- from the values of the block under c
            obtain ⟨n, cs, eb, hB1, hheap, hcs⟩ := g.blks p k hk
            obtain ⟨v, hvv, hxv⟩ := relL_get hcs hxk
            have hb : ∀ q, St.blk (St.setCell { σ with nv := σ.nv + e1.length, rows := putRows σ.rows rs } p off x') q = if q = p then some { k with cells := k.cells.set off x' } else σ.blk q := fun q => by
              unfold St.setCell
              have : St.blk { σ with nv := σ.nv + e1.length, rows := putRows σ.rows rs } p = some k := hk
              rw [this]
              exact blk_set _ _ _ _ hlen
            have hrow : ∀ q, St.row (St.setCell { σ with nv := σ.nv + e1.length, rows := putRows σ.rows rs } p off x') q = St.row { σ with nv := σ.nv + e1.length, rows := putRows σ.rows rs } q := fun q => by unfold St.setCell; split <;> rfl
            have hslot : ∀ q, St.slot (St.setCell { σ with nv := σ.nv + e1.length, rows := putRows σ.rows rs } p off x') q = σ.slot q := fun q => by unfold St.setCell; split <;> rfl
            have howns : ∀ y m, St.owns (St.setCell { σ with nv := σ.nv + e1.length, rows := putRows σ.rows rs } p off x') c1 y m → St.owns { σ with nv := σ.nv + e1.length, rows := putRows σ.rows rs } c1 y m := by
              rintro ⟨t, q⟩ m h
              cases t
              · obtain ⟨⟨k', hk'⟩, e⟩ := h
                refine ⟨?_, e⟩
                rw [hb] at hk'
                by_cases hq : q = p
                · subst hq; exact ⟨k, hk⟩
                · rw [if_neg hq] at hk'; exact ⟨k', hk'⟩
              · obtain ⟨⟨k', hk', ho'⟩, e⟩ := h
                rw [hrow] at hk'
                exact ⟨⟨k', hk', ho'⟩, e⟩
            refine ⟨g1.below, g1.hB, g1.defers, by unfold St.setCell; split <;> exact g1.size, fun t => by rw [hslot]; exact g1.slots t, fun q k' hq => ?_, fun r k' hr => ?_, fun y z m hy hz => g1'.apart y z m (howns y m hy) (howns z m hz)⟩
            · rw [hb] at hq
              by_cases h2 : q = p
              · rw [if_pos h2] at hq; cases hq; subst h2
                exact ⟨n, cs, hle.β _ _ eb, hB1, hheap, relL_set (relL_le hle hcs) hvv (hrel v hxv)⟩
              · rw [if_neg h2] at hq; exact g1.blks q k' hq
            · rw [hrow] at hr
              obtain ⟨v, e, ad, n, cap, rfl, h1, h2, h3, h4, h5⟩ := g1'.rows r k' hr
              exact ⟨_, e, ad, n, cap, rfl, h1, h2, h3, h4, fun ho j u hj => by
                obtain ⟨q, o, e1, e2, e3⟩ := h5 ho j u hj
                exact ⟨q, o, e1, e2, fun y hy => e3.1 y (howns y q hy), e3.2⟩⟩
          have hl : ∀ (τ : St) (y : At), (τ.setCell p off y).blks.length = τ.blks.length ∧ (τ.setCell p off y).rows = τ.rows ∧ (τ.setCell p off y).nv = τ.nv := fun τ y => by unfold St.setCell; split <;> simp
          have ih := tmCells_sound hrec g2 ⟨fun q hq => hf1.β q (by rw [(hl _ _).1] at hq; exact hq), fun q hq => hf1.R q (by rw [(hl _ _).2.1] at hq; exact hq)⟩ (by rw [hle.ρ, (hl _ _).2.2]; exact hv.right)
          obtain ⟨⟨c2, hle2, g3, hf3⟩, n1, n2, n3⟩ := ih
          rw [(hl _ _).2.2] at n1
          rw [(hl _ _).1] at n2
          rw [(hl _ _).2.1] at n3
          exact ⟨⟨c2, hle.trans hle2, g3, hf3⟩, by rw [n1]; simp; omega, n2, Nat.le_trans hlen n3⟩
        · cases h
      · cases h
    · cases h

theorem tmRows_sound : ∀ {l : List Nat} {σ σ' : St} {c : Ct} {es : List Ex}, tmRows l σ = some (σ', es) → Good B w0 σ c a w → Fresh σ c → Vals c.ρ c.ρ σ.nv es → Heads B w0 σ σ' c a w es
  | [], σ, σ', c, es, h, g, hf, _ => by
    simp only [tmRows, Option.some.injEq, Prod.mk.injEq] at h
    obtain ⟨rfl, rfl⟩ := h
    exact ⟨⟨c, .refl c, g, hf⟩, rfl, rfl, Nat.le_refl _⟩
  | r :: rs, σ, σ', c, es, h, g, hf, hv => by
    simp only [tmRows] at h
    split at h
    · rename_i k hk
      split at h
      · rename_i ho
        split at h
        · rename_i σ2 e2 hrec
          simp only [Option.some.injEq, Prod.mk.injEq] at h
          obtain ⟨rfl, rfl⟩ := h
          have g1 := g.recont hk ho (e := .v σ.nv) hv.at
          have g2 : Good B w0 { σ with nv := σ.nv + 1, rows := σ.rows.set r (some { k with cont := .v σ.nv }) } c a w := ⟨g1.below, g1.hB, g1.defers, g1.size, g1.slots, g1.blks, g1.rows, g1.apart⟩
          have ih := tmRows_sound hrec g2 ⟨hf.β, fun q hq => hf.R q (by simpa using hq)⟩ hv.tail
          obtain ⟨⟨c2, hle2, g3, hf3⟩, n1, n2, n3⟩ := ih
          simp only [List.length_set] at n1 n2 n3
          exact ⟨⟨c2, hle2, g3, hf3⟩, by rw [n1]; simp; omega, n2, n3⟩
        · cases h
      · cases h
    · cases h

theorem tmTops_sound : ∀ {l : List Nat} {σ : St}, Good B w0 σ c a w → Good B w0 (tmTops l σ) c a w ∧ (tmTops l σ).nv = σ.nv ∧ (tmTops l σ).rows = σ.rows ∧ (tmTops l σ).blks = σ.blks
  | [], _, g => ⟨g, rfl, rfl, rfl⟩
  | t :: r, σ, g => tmTops_sound (l := r) (σ := { σ with slots := σ.slots.set t .top }) (g.reslot (t := t) (sv := .top) trivial)

theorem template_sound {ρ : List Sc} {N : Nx} (hi : Is B w0 c0 c σ ρ N a w) {h : Hint} {tm : St} {ini : List Ex} (ht : template P h σ = some (tm, ini)) (hu : σ.under = true) (hini : ini.all (·.under σ.nv) = true) :
    ∃ c1, c.sub c1 ∧ c1.ρ = ρ ++ ini.map (Ex.ev ρ) ∧ Good B w0 tm c1 a w ∧ Fresh tm c1 ∧ tm.lv = σ.lv + 1 ∧ tm.nv = σ.nv + ini.length ∧ tm.blks.length = σ.blks.length ∧ σ.rows.length ≤ tm.rows.length := by
  have henv := hi.env
  subst henv
  have hext : ∀ i, i < σ.nv → (c.ρ ++ ini.map (Ex.ev c.ρ)).getD i (.i 0) = c.ρ.getD i (.i 0) := fun i h => getD_append_lt _ _ _ _ (by rw [← hi.nv]; exact h)
  have g0 := hi.good.env hu hext
  have hvals : Vals (c.ρ ++ ini.map (Ex.ev c.ρ)) (c.ρ ++ ini.map (Ex.ev c.ρ)) σ.nv ini := fun i e he => by
    have hin : e.under σ.nv = true := List.all_eq_true.1 hini e (List.mem_of_getElem? he)
    rw [Ex.ev_under hext hin, hi.nv, List.getD_eq_getElem?_getD, List.getElem?_append_right (by omega), Nat.add_sub_cancel_left, List.getElem?_map, he]
    rfl
  unfold template at ht
  obtain ⟨gt, t1, t2, t3⟩ := tmTops_sound (l := h.tops) g0
  split at ht
  · rename_i σ1 e1 h1
    split at ht
    · rename_i σ2 e2 h2
      split at ht
      · rename_i σ3 e3 h3
        simp only [Option.some.injEq, Prod.mk.injEq] at ht
        obtain ⟨rfl, rfl⟩ := ht
        obtain ⟨⟨c1, l1, g1, f1⟩, n1, b1, r1⟩ := tmVars_sound h1 gt ⟨fun p hp => hi.fresh.β p (by rw [t3] at hp; exact hp), fun p hp => hi.fresh.R p (by rw [t2] at hp; exact hp)⟩ (by rw [t1]; exact hvals.left.left)
        rw [t1] at n1
        obtain ⟨⟨c2, l2, g2, f2⟩, n2, b2, r2⟩ := tmCells_sound h2 g1 f1 (by rw [l1.ρ, n1]; exact hvals.left.right)
        obtain ⟨⟨c3, l3, g3, f3⟩, n3, b3, r3⟩ := tmRows_sound h3 g2 f2 (by rw [l2.ρ, l1.ρ, n2, n1]; have := hvals.right; rw [List.length_append] at this; rw [Nat.add_assoc]; exact this)
        have l := (l1.trans l2).trans l3
        refine ⟨c3, ⟨l.K, l.β, l.R⟩, l.ρ, ⟨g3.below, g3.hB, g3.defers, g3.size, g3.slots, g3.blks, g3.rows, g3.apart⟩, ⟨f3.β, f3.R⟩, rfl, ?_, ?_, ?_⟩
        · show σ3.nv = _; rw [n3, n2, n1]; simp; omega
        · show σ3.blks.length = _; rw [b3, b2, b1, t3]
        · show _ ≤ σ3.rows.length; rw [t2] at r1; omega
      · cases ht
    · cases ht
  · cases ht
end
end Go.Proofs.YtkjgcalkkfgmlaaDoor
namespace Go.Proofs.YtkjgcalkkfgmlaaDoor
open Go.RowKit

section
variable {B : Nat} {w0 : World} {tm σ : St} {c c0 c2 : Ct} {a : Act} {w : World} {nv nb nr : Nat}

/-- The place of the next round agrees with this one's on what was at the head. -/
structure Cut (c2 c : Ct) (nv nb nr : Nat) : Prop where
  ρ : ∀ i, i < nv → c2.ρ.getD i (.i 0) = c.ρ.getD i (.i 0)
  β : ∀ p, p < nb → c2.β p = c.β p
  R : ∀ r, r < nr → c2.R r = c.R r

theorem blt_lt {a b : Nat} (h : Nat.blt a b = true) : a < b := by
  have : (a + 1).ble b = true := h
  exact Nat.le_of_ble_eq_true this
def At.inB (nb nr : Nat) (x : At) : Bool := (match x.rid with | some r => Nat.blt r nr | none => true) && (match x.bid with | some p => Nat.blt p nb | none => true) && (match x with | .fn _ cs => cs.all (Nat.blt · nb) | _ => true)
theorem At.rel_cut (hc : Cut c2 c nv nb nr) {x : At} (hu : x.under nv = true) (hb : x.inB nb nr = true) {v : Value} (h : x.rel c v) : x.rel c2 v := by
  unfold At.inB at hb
  simp only [Bool.and_eq_true] at hb
  obtain ⟨⟨b1, b2⟩, b3⟩ := hb
  have hev : ∀ e : Ex, e.under nv = true → e.ev c2.ρ = e.ev c.ρ := fun e he => Ex.ev_under hc.ρ he
  cases x <;> simp only [At.rel, At.under, Bool.and_eq_true] at hu h ⊢
  case int k e => rw [hev _ hu]; exact h
  case bool e => rw [hev _ hu]; exact h
  case str e => rw [hev _ hu]; exact h
  case ptr p off => rw [hc.β p (blt_lt b2)]; exact h
  case pel r es ix off => rw [hev _ hu, hc.R r (blt_lt b1)]; exact h
  case nilp => exact h
  case vec r => rw [hc.R r (blt_lt b1)]; exact h
  case sl r es lo len => rw [hev _ hu.1, hev _ hu.2, hc.R r (blt_lt b1)]; exact h
  case nils => exact h
  case fn f caps =>
    obtain ⟨ns, e, rfl⟩ := h
    refine ⟨ns, ?_, rfl⟩
    rw [← e]
    refine List.map_congr_left fun p hp => hc.β p (blt_lt (List.all_eq_true.1 b3 p hp))
theorem relL_cut (hc : Cut c2 c nv nb nr) : ∀ {xs : List At} {vs : List Value}, xs.all (·.under nv) = true → xs.all (·.inB nb nr) = true → relL c xs vs → relL c2 xs vs
  | [], [], _, _, _ => trivial
  | x :: xs, v :: vs, h1, h2, h => by
    simp only [List.all_cons, Bool.and_eq_true] at h1 h2
    exact ⟨At.rel_cut hc h1.1 h2.1 h.1, relL_cut hc h1.2 h2.2 h.2⟩
  | [], _ :: _, _, _, h => h.elim
  | _ :: _, [], _, _, h => h.elim
theorem SC.rel_cut (hc : Cut c2 c nv nb nr) {x : SC} (hu : x.under nv = true) (hb : x.atoms.all (·.inB nb nr) = true) {v : Value} (h : x.rel c v) : x.rel c2 v := by
  cases x with
  | a x => simp only [SC.atoms, List.all_cons, List.all_nil, Bool.and_true] at hb; exact At.rel_cut hc hu hb h
  | g xs => obtain ⟨vs, e, r⟩ := h; exact ⟨vs, e, relL_cut hc hu hb r⟩
theorem relC_cut (hc : Cut c2 c nv nb nr) : ∀ {xs : List SC} {vs : List Value}, xs.all (·.under nv) = true → (xs.flatMap SC.atoms).all (·.inB nb nr) = true → relC c xs vs → relC c2 xs vs
  | [], [], _, _, _ => trivial
  | x :: xs, v :: vs, h1, h2, h => by
    simp only [List.all_cons, Bool.and_eq_true, List.flatMap_cons, List.all_append] at h1 h2
    exact ⟨SC.rel_cut hc h1.1 h2.1 h.1, relC_cut hc h1.2 h2.2 h.2⟩
  | [], _ :: _, _, _, h => h.elim
  | _ :: _, [], _, _, h => h.elim
theorem SV.rel_cut (hc : Cut c2 c nv nb nr) {x : SV} (hu : x.under nv = true) (hb : x.atoms.all (·.inB nb nr) = true) {v : Value} (h : x.rel c v) : x.rel c2 v := by
  cases x with
  | c x => exact SC.rel_cut hc hu hb h
  | t xs => obtain ⟨vs, e, r⟩ := h; exact ⟨vs, e, relC_cut hc hu hb r⟩
theorem keptAt_spec (hc : Cut c2 c nv nb nr) {x y : At} (hk : keptAt nv nb nr x y = true) {v : Value} (h : y.rel c v) : x.rel c2 v := by
  unfold keptAt at hk
  simp only [Bool.and_eq_true] at hk
  obtain ⟨⟨⟨⟨k1, k2⟩, k3⟩, k4⟩, k5⟩ := hk
  refine At.rel_cut hc k2 ?_ (At.le_rel k1 h)
  unfold At.inB
  simp only [Bool.and_eq_true]
  exact ⟨⟨k3, k4⟩, k5⟩
theorem keptSV_spec (hc : Cut c2 c nv nb nr) {x y : SV} (hk : keptSV nv nb nr x y = true) {v : Value} (h : y.rel c v) : x.rel c2 v := by
  unfold keptSV at hk
  simp only [Bool.and_eq_true] at hk
  obtain ⟨⟨k1, k2⟩, k3⟩ := hk
  exact SV.rel_cut hc k2 k3 (SV.le_rel k1 h)

/-- A loop's row of its own, and the one that takes its place. -/
def NewOk (tm σ : St) (ρ2 ρ : List Sc) (nr : Nat) (z : Nat × Nat) : Prop :=
  ∃ w0 w1 m, tm.row z.1 = some w0 ∧ σ.row z.2 = some w1 ∧ w1.own = true ∧ w0.own = true ∧ w1.el = w0.el ∧ w1.ks = w0.ks ∧ w1.agg = w0.agg ∧ w0.cont = .v m ∧ ρ2.getD m (.i 0) = w1.cont.ev ρ ∧ nr ≤ z.1
theorem tmBack_new {m : Nat} {x y : At} {es : List Ex} {qs : List (Nat × Nat)} (h : tmBack tm.rows σ.rows nr m x y = some (es, qs)) {ρ2 ρ : List Sc} (hv : Vals ρ2 ρ m es) : ∀ z ∈ qs, NewOk tm σ ρ2 ρ nr z := by
  unfold tmBack at h
  split at h <;> (try (split at h <;> (try split at h) <;> (try cases h) <;> (intro z hz; cases hz); done))
  · rename_i r
    split at h
    · rename_i w1 hw1
      split at h
      · rename_i q
        split at h
        · rename_i w0' hw0
          split at h
          · rename_i hc
            cases h
            intro z hz
            simp only [List.mem_singleton] at hz
            subst hz
            obtain ⟨h1, h2, h3, h4, h5, h6, h7⟩ := hc
            exact ⟨w0', w1, m, hw0, hw1, h1, h2, h3, h4, h5, Ex.same_eq h6, hv.at, h7⟩
          · cases h
        · cases h
      · split at h <;> cases h
        intro z hz; cases hz
      · cases h
    · cases h
  all_goals cases h

theorem tmBack_rel (g : Good B w0 σ c a w) (hR : ∀ r, r < nr → c2.R r = c.R r) {m : Nat} {x y : At} {es : List Ex} {qs : List (Nat × Nat)} (h : tmBack tm.rows σ.rows nr m x y = some (es, qs)) (hv : Vals c2.ρ c.ρ m es)
    (hn : ∀ z ∈ qs, c2.R z.1 = c.R z.2) {v : Value} (hy : y.rel c v) : x.rel c2 v := by
  unfold tmBack at h
  split at h
  · split at h
    · split at h
      · rename_i hc
        cases h
        obtain ⟨rfl, rfl⟩ := hc
        have hy : v = _ := hy
        rw [hy]; show _ = Value.int _ (c2.ρ.getD _ (.i 0)).int; rw [hv.at]
      · cases h
    · cases h
  · split at h
    · split at h
      · rename_i hc
        cases h
        subst hc
        have hy : v = _ := hy
        rw [hy]; show _ = Value.bool (c2.ρ.getD _ (.i 0)).bool; rw [hv.at]
      · cases h
    · cases h
  · split at h
    · split at h
      · rename_i hc
        cases h
        subst hc
        have hy : v = _ := hy
        rw [hy]; show _ = Value.string (c2.ρ.getD _ (.i 0)).str; rw [hv.at]
      · cases h
    · cases h
  · rename_i r
    split at h
    · rename_i w1 hw1
      split at h
      · rename_i q
        split at h
        · split at h
          · cases h
            have := hn (q, r) (by simp)
            exact ⟨this.trans hy.1, hy.2⟩
          · cases h
        · cases h
      · split at h
        · rename_i hc
          cases h
          obtain ⟨rfl, rfl, hok, rfl, rfl, hlt⟩ := hc
          refine whole_rel g hw1 hok hy.1 ((hR _ hlt).trans hy.1) ?_ ?_
          · show (c2.ρ.getD _ (.i 0)).int = 0; rw [hv.at]; rfl
          · show (c2.ρ.getD _ (.i 0)).int = _; rw [hv.at1, mk1_ev]; rfl
        · cases h
      · cases h
    · cases h
  · rename_i r es' lo len
    split at h
    · split at h
      · rename_i hc
        cases h
        obtain ⟨rfl, rfl, rfl, rfl, hlt⟩ := hc
        rename_i j'
        have e1 : (Ex.v j').ev c2.ρ = lo.ev c.ρ := hv.at
        have e2 : (Ex.v (j' + 1)).ev c2.ρ = len.ev c.ρ := hv.at1
        simp only [At.rel, e1, e2, hR _ hlt] at hy ⊢
        exact hy
      · cases h
    · cases h
  · cases h

theorem bkVars_spec {ρ2 ρ : List Sc} : ∀ {l : List (Nat × Nat)} {m : Nat} {es : List Ex} {qs : List (Nat × Nat)}, bkVars tm σ nr m l = some (es, qs) → Vals ρ2 ρ m es →
    (∀ z ∈ qs, NewOk tm σ ρ2 ρ nr z) ∧ ∀ t ∈ l, ∃ x y e q m', tm.slot t.1 = .c (.a x) ∧ σ.slot t.1 = .c (.a y) ∧ tmBack tm.rows σ.rows nr m' x y = some (e, q) ∧ Vals ρ2 ρ m' e ∧ ∀ z ∈ q, z ∈ qs
  | [], m, es, qs, h, _ => by
    simp only [bkVars, Option.some.injEq, Prod.mk.injEq] at h
    obtain ⟨rfl, rfl⟩ := h
    exact ⟨fun z hz => (by cases hz), fun t ht => (by cases ht)⟩
  | (t, el) :: r, m, es, qs, h, hv => by
    simp only [bkVars] at h
    split at h
    · rename_i x y hx hy
      split at h
      · rename_i e q hb
        split at h
        · rename_i es' qs' hrec
          simp only [Option.some.injEq, Prod.mk.injEq] at h
          obtain ⟨rfl, rfl⟩ := h
          obtain ⟨i1, i2⟩ := bkVars_spec hrec hv.right
          refine ⟨fun z hz => (List.mem_append.1 hz).elim (tmBack_new hb hv.left z) (i1 z), fun u hu => ?_⟩
          rcases List.mem_cons.1 hu with rfl | hu
          · exact ⟨x, y, e, q, m, at?_eq hx, at?_eq hy, hb, hv.left, fun z hz => List.mem_append_left _ hz⟩
          · obtain ⟨x', y', e', q', m', j1, j2, j3, j4, j5⟩ := i2 u hu
            exact ⟨x', y', e', q', m', j1, j2, j3, j4, fun z hz => List.mem_append_right _ (j5 z hz)⟩
        · cases h
      · cases h
    · cases h
theorem bkCells_spec {ρ2 ρ : List Sc} : ∀ {l : List (Nat × Nat × Nat)} {m : Nat} {es : List Ex} {qs : List (Nat × Nat)}, bkCells tm σ nr m l = some (es, qs) → Vals ρ2 ρ m es →
    (∀ z ∈ qs, NewOk tm σ ρ2 ρ nr z) ∧ ∀ t ∈ l, ∃ x y e q m', tm.cellAt t.1 t.2.1 = some x ∧ σ.cellAt t.1 t.2.1 = some y ∧ tmBack tm.rows σ.rows nr m' x y = some (e, q) ∧ Vals ρ2 ρ m' e ∧ ∀ z ∈ q, z ∈ qs
  | [], m, es, qs, h, _ => by
    simp only [bkCells, Option.some.injEq, Prod.mk.injEq] at h
    obtain ⟨rfl, rfl⟩ := h
    exact ⟨fun z hz => (by cases hz), fun t ht => (by cases ht)⟩
  | (p, off, el) :: r, m, es, qs, h, hv => by
    simp only [bkCells] at h
    split at h
    · rename_i x y hx hy
      split at h
      · rename_i e q hb
        split at h
        · rename_i es' qs' hrec
          simp only [Option.some.injEq, Prod.mk.injEq] at h
          obtain ⟨rfl, rfl⟩ := h
          obtain ⟨i1, i2⟩ := bkCells_spec hrec hv.right
          refine ⟨fun z hz => (List.mem_append.1 hz).elim (tmBack_new hb hv.left z) (i1 z), fun u hu => ?_⟩
          rcases List.mem_cons.1 hu with rfl | hu
          · exact ⟨x, y, e, q, m, hx, hy, hb, hv.left, fun z hz => List.mem_append_left _ hz⟩
          · obtain ⟨x', y', e', q', m', j1, j2, j3, j4, j5⟩ := i2 u hu
            exact ⟨x', y', e', q', m', j1, j2, j3, j4, fun z hz => List.mem_append_right _ (j5 z hz)⟩
        · cases h
      · cases h
    · cases h
theorem bkRows_spec {ρ2 ρ : List Sc} : ∀ {l : List Nat} {m : Nat} {es : List Ex}, bkRows tm σ m l = some es → Vals ρ2 ρ m es →
    ∀ r ∈ l, ∃ w0 w1 m', tm.row r = some w0 ∧ σ.row r = some w1 ∧ w1.own = true ∧ w0.own = true ∧ w1.el = w0.el ∧ w1.ks = w0.ks ∧ w1.agg = w0.agg ∧ w0.cont = .v m' ∧ ρ2.getD m' (.i 0) = w1.cont.ev ρ
  | [], m, es, h, _ => fun r hr => by cases hr
  | r :: rr, m, es, h, hv => by
    simp only [bkRows] at h
    split at h
    · rename_i w0' w1 hx hy
      split at h
      · rename_i hc
        obtain ⟨h1, h2, h3, h4, h5, h6⟩ := hc
        split at h
        · rename_i es' hrec
          cases h
          intro u hu
          rcases List.mem_cons.1 hu with rfl | hu
          · exact ⟨w0', w1, m, hx, hy, h1, h2, h3, h4, h5, Ex.same_eq h6, hv.at⟩
          · exact bkRows_spec hrec hv.tail u hu
        · cases h
      · cases h
    · cases h

theorem keepSlots_spec {h : Hint} : ∀ {xs ys : List SV} {n : Nat}, keepSlots h nv nb nr n xs ys = true → xs.length = ys.length ∧ ∀ t, t < xs.length → (∃ u ∈ h.vars, u.1 = n + t) ∨ keptSV nv nb nr (xs.getD t .top) (ys.getD t .top) = true
  | [], [], n, _ => ⟨rfl, fun t ht => by cases ht⟩
  | x :: xs, y :: ys, n, hk => by
    simp only [keepSlots, Bool.and_eq_true, Bool.or_eq_true, List.any_eq_true] at hk
    obtain ⟨i1, i2⟩ := keepSlots_spec hk.2
    refine ⟨by simp [i1], fun t ht => ?_⟩
    cases t with
    | zero =>
      refine hk.1.imp (fun ⟨u, hu, e⟩ => ⟨u, hu, Nat.eq_of_beq_eq_true e⟩) (fun h => ?_)
      simpa using h
    | succ t =>
      refine (i2 t (by simpa using ht)).imp (fun ⟨u, hu, e⟩ => ⟨u, hu, by omega⟩) (fun h => ?_)
      simpa using h
  | [], _ :: _, _, hk => by simp [keepSlots] at hk
  | _ :: _, [], _, hk => by simp [keepSlots] at hk
theorem keepCells_spec {cells : List (Nat × Nat × Nat)} {p : Nat} : ∀ {xs ys : List At} {n : Nat}, keepCells cells nv nb nr p n xs ys = true → ∀ {P : Nat → At → Value → Prop} {vs : List Value}, relL c ys vs →
    (∀ (j : Nat) (x y : At) (v : Value), xs[j]? = some x → ys[j]? = some y → (isCell cells p (n + j) = true ∨ keptAt nv nb nr x y = true) → y.rel c v → P j x v) → vs.length = xs.length ∧ ∀ (j : Nat) (x : At) (v : Value), xs[j]? = some x → vs[j]? = some v → P j x v
  | [], [], n, _, P, [], _, _ => ⟨rfl, fun j x v h => by simp at h⟩
  | x :: xs, y :: ys, n, hk, P, v :: vs, hr, hP => by
    simp only [keepCells, Bool.and_eq_true, Bool.or_eq_true] at hk
    obtain ⟨i1, i2⟩ := keepCells_spec (n := n + 1) hk.2 (P := fun j x v => P (j + 1) x v) hr.2 (fun j x y v h1 h2 h3 h4 => hP (j + 1) x y v (by simpa using h1) (by simpa using h2) (by rw [show n + (j + 1) = n + 1 + j by omega]; exact h3) h4)
    refine ⟨by simp [i1], fun j u z hu hz => ?_⟩
    cases j with
    | zero => simp at hu hz; subst hu hz; exact hP 0 x y v rfl rfl hk.1 hr.1
    | succ j => exact i2 j u z (by simpa using hu) (by simpa using hz)
  | [], [], _, _, _, _ :: _, hr, _ => hr.elim
  | _ :: _, _ :: _, _, _, _, [], hr, _ => hr.elim
  | [], _ :: _, _, hk, _, _, _, _ => by simp [keepCells] at hk
  | _ :: _, [], _, hk, _, _, _, _ => by simp [keepCells] at hk
theorem relL_of : ∀ {xs : List At} {vs : List Value}, vs.length = xs.length → (∀ (j : Nat) (x : At) (v : Value), xs[j]? = some x → vs[j]? = some v → x.rel c v) → relL c xs vs
  | [], [], _, _ => trivial
  | x :: xs, v :: vs, hl, h => ⟨h 0 x v rfl rfl, relL_of (by simpa using hl) (fun j x v h1 h2 => h (j + 1) x v (by simpa using h1) (by simpa using h2))⟩
  | [], _ :: _, hl, _ => by simp at hl
  | _ :: _, [], hl, _ => by simp at hl
theorem keepBlks_spec {h : Hint} : ∀ {l : List (Option Bk)} {p : Nat}, keepBlks h nv nb nr σ p l = true → ∀ q k, l.getD q none = some k → ∃ k', σ.blk (p + q) = some k' ∧ k.ty = k'.ty ∧ keepCells h.cells nv nb nr (p + q) 0 k.cells k'.cells = true
  | [], p, _, q, k, hq => by simp at hq
  | none :: l, p, hk, q, k, hq => by
    cases q with
    | zero => simp at hq
    | succ q =>
      have := keepBlks_spec (p := p + 1) hk q k (by simpa using hq)
      rw [show p + (q + 1) = p + 1 + q by omega]; exact this
  | some k0 :: l, p, hk, q, k, hq => by
    simp only [keepBlks, Bool.and_eq_true] at hk
    cases q with
    | zero =>
      simp at hq; subst hq
      have h1 := hk.1
      split at h1
      · rename_i k' hk'
        simp only [Bool.and_eq_true] at h1
        exact ⟨k', hk', Nat.eq_of_beq_eq_true h1.1, h1.2⟩
      · cases h1
    | succ q =>
      have := keepBlks_spec (p := p + 1) hk.2 q k (by simpa using hq)
      rw [show p + (q + 1) = p + 1 + q by omega]; exact this
theorem keepRows_spec {h : Hint} {news : List (Nat × Nat)} : ∀ {l : List (Option Rw)} {r : Nat}, keepRows h nv nr σ news r l = true → ∀ q k, l.getD q none = some k →
    (r + q < nr ∧ ((r + q) ∈ h.rows ∨ ∃ k', σ.row (r + q) = some k' ∧ k.same k' = true ∧ k.cont.under nv = true)) ∨ (nr ≤ r + q ∧ ∃ z ∈ news, z.1 = r + q)
  | [], p, _, q, k, hq => by simp at hq
  | none :: l, p, hk, q, k, hq => by
    cases q with
    | zero => simp at hq
    | succ q =>
      have := keepRows_spec (r := p + 1) hk q k (by simpa using hq)
      rw [show p + (q + 1) = p + 1 + q by omega]; exact this
  | some k0 :: l, p, hk, q, k, hq => by
    simp only [keepRows, Bool.and_eq_true] at hk
    cases q with
    | zero =>
      simp at hq; subst hq
      have h1 := hk.1
      split at h1
      · rename_i hlt
        simp only [Bool.or_eq_true] at h1
        refine .inl ⟨by simpa using hlt, h1.imp hasN_mem.1 fun h => ?_⟩
        split at h
        · rename_i k' hk'
          simp only [Bool.and_eq_true] at h
          exact ⟨k', hk', h.1, h.2⟩
        · cases h
      · rename_i hlt
        obtain ⟨z, hz, e⟩ := List.any_eq_true.1 h1
        exact .inr ⟨by simpa using hlt, z, hz, Nat.eq_of_beq_eq_true e⟩
    | succ q =>
      have := keepRows_spec (r := p + 1) hk.2 q k (by simpa using hq)
      rw [show p + (q + 1) = p + 1 + q by omega]; exact this
theorem ownRows_spec : ∀ {l : List (Option Rw)} {r : Nat} (q : Nat) (k : Rw), l.getD q none = some k → k.own = true → r + q < nr → (r + q) ∈ ownRows nr r l
  | [], _, q, k, hq, _, _ => by simp at hq
  | x :: l, r, q, k, hq, ho, hlt => by
    simp only [ownRows, List.mem_append]
    cases q with
    | zero =>
      simp at hq; subst hq
      left
      simp only [Nat.add_zero] at hlt ⊢
      simp [ho, hlt]
    | succ q =>
      right
      rw [show r + (q + 1) = r + 1 + q by omega]
      exact ownRows_spec q k (by simpa using hq) ho (by omega)
theorem distinctN_nodup : ∀ {l : List Nat}, distinctN l = true → l.Nodup
  | [], _ => List.nodup_nil
  | x :: l, h => by
    simp only [distinctN, Bool.and_eq_true, Bool.not_eq_true'] at h
    refine List.nodup_cons.2 ⟨fun hm => ?_, distinctN_nodup h.2⟩
    rw [hasN_mem.2 hm] at h; exact absurd h.1 (by simp)
theorem Rw.same_eq {k k' : Rw} (h : k.same k' = true) : k = k' := by
  unfold Rw.same at h
  simp only [Bool.and_eq_true, decide_eq_true_eq] at h
  obtain ⟨⟨⟨⟨h1, h2⟩, h3⟩, h4⟩, h5⟩ := h
  cases k; cases k'
  simp only at h1 h2 h3 h4 h5
  have h1 := eq_of_beq h1
  have h3 := eq_of_beq h3
  have h5 := eq_of_beq h5
  have h4 := Ex.same_eq h4
  subst h1 h2 h3 h4 h5; rfl
def rowFor (news : List (Nat × Nat)) (nr r : Nat) : Option Nat := if r < nr then some r else (news.find? fun z => Nat.beq z.1 r).map (·.2)
theorem find_key : ∀ {news : List (Nat × Nat)}, (news.map (·.1)).Nodup → ∀ z ∈ news, (news.find? fun y => Nat.beq y.1 z.1) = some z
  | [], _, z, hz => by cases hz
  | y :: l, hd, z, hz => by
    simp only [List.map_cons, List.nodup_cons] at hd
    simp only [List.find?_cons]
    by_cases he : y.1 = z.1
    · rcases List.mem_cons.1 hz with rfl | hz
      · simp
      · exact (hd.1 (List.mem_map.2 ⟨z, hz, he.symm⟩)).elim
    · have : Nat.beq y.1 z.1 = false := by
        cases hb : Nat.beq y.1 z.1
        · rfl
        · exact absurd (Nat.eq_of_beq_eq_true hb) he
      rw [this]
      rcases List.mem_cons.1 hz with rfl | hz
      · exact absurd rfl he
      · exact find_key hd.2 z hz
end
end Go.Proofs.YtkjgcalkkfgmlaaDoor
namespace Go.Proofs.YtkjgcalkkfgmlaaDoor
open Go.RowKit

theorem nodup_map_inj {α : Type} {f : α → Nat} : ∀ {l : List α}, (l.map f).Nodup → ∀ {x y : α}, x ∈ l → y ∈ l → f x = f y → x = y
  | [], _, _, _, hx, _, _ => by cases hx
  | z :: l, hd, x, y, hx, hy, e => by
    simp only [List.map_cons, List.nodup_cons] at hd
    rcases List.mem_cons.1 hx with h1 | h1 <;> rcases List.mem_cons.1 hy with h2 | h2
    · rw [h1, h2]
    · exact (hd.1 (List.mem_map.2 ⟨y, h2, by rw [← e, h1]⟩)).elim
    · exact (hd.1 (List.mem_map.2 ⟨x, h1, by rw [e, h2]⟩)).elim
    · exact nodup_map_inj hd.2 h1 h2 e

section
variable {B : Nat} {w0 : World} {tm σ : St} {c c0 c' : Ct} {a : Act} {w : World}

theorem back_sound {h : Hint} {nr : Nat} {vals : List Ex} {ρ x : List Sc} (hb : back h ρ.length nr tm σ = some vals) (g : Good B w0 σ c' a w) (henv : c'.ρ = ρ ++ x) (hsub : c.sub c') {σ0 : St} (hf : Fresh σ0 c) (hb0 : σ0.blks.length = tm.blks.length) (hr0 : σ0.rows.length = nr) :
    ∃ c2, c.sub c2 ∧ c2.ρ = ρ ++ vals.map (Ex.ev c'.ρ) ∧ Good B w0 tm c2 a w ∧ Fresh tm c2 ∧ ρ.length + vals.length = tm.nv := by
  unfold back at hb
  split at hb
  rotate_left
  · cases hb
  rename_i e1 r1 hb1
  split at hb
  rotate_left
  · cases hb
  rename_i e2 r2 hb2
  split at hb
  rotate_left
  · cases hb
  rename_i e3 hb3
  split at hb
  rotate_left
  · cases hb
  rename_i hk
  cases hb
  simp only [Bool.and_eq_true, keeps] at hk
  obtain ⟨⟨⟨⟨⟨⟨k1, k2⟩, k3⟩, k4⟩, k5⟩, k6⟩, k7⟩ := hk
  have hlen := Nat.eq_of_beq_eq_true k6
  have hnr := Nat.le_of_ble_eq_true k7
  have d1 := distinctN_nodup k4
  have d2 := distinctN_nodup k5
  generalize hnews : r1 ++ r2 = news at *
  generalize hρ2 : ρ ++ (e1 ++ e2 ++ e3).map (Ex.ev c'.ρ) = ρ2
  have hvals : Vals ρ2 c'.ρ ρ.length (e1 ++ e2 ++ e3) := fun i e he => by
    rw [← hρ2, List.getD_eq_getElem?_getD, List.getElem?_append_right (by omega), Nat.add_sub_cancel_left, List.getElem?_map, he]
    rfl
  obtain ⟨n1, v1⟩ := bkVars_spec hb1 hvals.left.left
  obtain ⟨n2, v2⟩ := bkCells_spec hb2 hvals.left.right
  have v3 := bkRows_spec hb3 (by have := hvals.right; rw [List.length_append] at this; exact this)
  have hnew : ∀ z ∈ news, NewOk tm σ ρ2 c'.ρ nr z := fun z hz => by
    rw [← hnews] at hz
    exact (List.mem_append.1 hz).elim (n1 z) (n2 z)
  let c2 : Ct := ⟨ρ2, fun p => if p < tm.blks.length then c'.β p else none, fun r => (rowFor news nr r).bind c'.R, c'.K⟩
  have rowLt : ∀ r, r < nr → rowFor news nr r = some r := fun r hr => by unfold rowFor; rw [if_pos hr]
  have rowNew : ∀ z ∈ news, rowFor news nr z.1 = some z.2 := fun z hz => by
    obtain ⟨_, _, _, _, _, _, _, _, _, _, _, _, hge⟩ := hnew z hz
    unfold rowFor
    rw [if_neg (by omega), find_key d1 z hz]; rfl
  have hR : ∀ r, r < nr → c2.R r = c'.R r := fun r hr => by show (rowFor news nr r).bind c'.R = _; rw [rowLt r hr]; rfl
  have hRn : ∀ z ∈ news, c2.R z.1 = c'.R z.2 := fun z hz => by show (rowFor news nr z.1).bind c'.R = _; rw [rowNew z hz]; rfl
  have hβ : ∀ p, p < tm.blks.length → c2.β p = c'.β p := fun p hp => by show (if p < tm.blks.length then c'.β p else none) = _; rw [if_pos hp]
  have hcut : Cut c2 c' ρ.length tm.blks.length nr := ⟨fun i hi => by
    show ρ2.getD i (.i 0) = _
    rw [← hρ2, henv, getD_append_lt _ _ _ _ hi, getD_append_lt _ _ _ _ hi], hβ, hR⟩
  have hq1 : ∀ z ∈ r1, c2.R z.1 = c'.R z.2 := fun z hz => hRn z (by rw [← hnews]; exact List.mem_append_left _ hz)
  have hq2 : ∀ z ∈ r2, c2.R z.1 = c'.R z.2 := fun z hz => hRn z (by rw [← hnews]; exact List.mem_append_right _ hz)
  obtain ⟨sl, skeep⟩ := keepSlots_spec k1
  -- rows and owners
  have hrows : ∀ r k, tm.row r = some k → ∃ r', rowFor news nr r = some r' ∧ ((∃ k', σ.row r' = some k' ∧ k'.own = true ∧ k.own = true ∧ k'.el = k.el ∧ k'.ks = k.ks ∧ k'.agg = k.agg ∧ k.cont.ev ρ2 = k'.cont.ev c'.ρ) ∨ (σ.row r' = some k ∧ k.cont.ev ρ2 = k.cont.ev c'.ρ)) ∧ ((r < nr ∧ r' = r) ∨ ∃ z ∈ news, z.1 = r ∧ z.2 = r') := fun r k hk => by
    have := keepRows_spec k3 r k hk
    rw [Nat.zero_add] at this
    rcases this with ⟨hlt, hm | ⟨k', hk', hs, hu⟩⟩ | ⟨hge, z, hz, e⟩
    · obtain ⟨w0', w1, m', a1, a2, a3, a4, a5, a6, a7, a8, a9⟩ := v3 r hm
      rw [hk] at a1; cases a1
      exact ⟨r, rowLt r hlt, .inl ⟨w1, a2, a3, a4, a5, a6, a7, by rw [a8]; exact a9⟩, .inl ⟨hlt, rfl⟩⟩
    · have := Rw.same_eq hs
      subst this
      exact ⟨r, rowLt r hlt, .inr ⟨hk', Ex.ev_under hcut.ρ hu⟩, .inl ⟨hlt, rfl⟩⟩
    · subst e
      obtain ⟨w0', w1, m', a1, a2, a3, a4, a5, a6, a7, a8, a9, a10⟩ := hnew z hz
      rw [hk] at a1; cases a1
      exact ⟨z.2, rowNew z hz, .inl ⟨w1, a2, a3, a4, a5, a6, a7, by rw [a8]; exact a9⟩, .inr ⟨z, hz, rfl, rfl⟩⟩
  have howns : ∀ y p, tm.owns c2 y p → ∃ y', σ.owns c' y' p ∧ y'.1 = y.1 ∧ (y.1 = false → y'.2 = y.2) ∧ (y.1 = true → (∃ k, tm.row y.2 = some k ∧ k.own = true) ∧ ((y.2 < nr ∧ y'.2 = y.2) ∨ ∃ z ∈ news, z.1 = y.2 ∧ z.2 = y'.2)) := by
    rintro ⟨t, q⟩ p h
    cases t
    · obtain ⟨⟨k, hk⟩, e⟩ := h
      have hkb := keepBlks_spec k2 q k hk
      rw [Nat.zero_add] at hkb
      obtain ⟨k', hk', _⟩ := hkb
      have e : (if q < tm.blks.length then c'.β q else none) = some p := e
      refine ⟨(false, q), ⟨⟨k', hk'⟩, ?_⟩, rfl, fun _ => rfl, fun h => by cases h⟩
      split at e
      · exact e
      · cases e
    · obtain ⟨⟨k, hk, ho⟩, v, e, hp⟩ := h
      obtain ⟨r', hr', hrow, hpos⟩ := hrows q k hk
      have e : (rowFor news nr q).bind c'.R = some v := e
      rw [hr'] at e
      refine ⟨(true, r'), ⟨?_, v, e, hp⟩, rfl, (fun h => by cases h), fun _ => ⟨⟨k, hk, ho⟩, hpos⟩⟩
      rcases hrow with ⟨k', hk', ho', _⟩ | ⟨hk', _⟩
      · exact ⟨k', hk', ho'⟩
      · exact ⟨k, hk', ho⟩
  refine ⟨c2, ⟨hsub.K, fun i n e => ?_, fun i v e => ?_⟩, rfl, ⟨g.below, g.hB, g.defers, by rw [sl]; exact g.size, fun t => ?_, fun p k hp => ?_, fun r k hk => ?_, fun y z p hy hz => ?_⟩, ⟨fun p hp => ?_, fun r hr => ?_⟩, hlen⟩
  · have hlt : i < tm.blks.length := by
      rcases Nat.lt_or_ge i tm.blks.length with h | h
      · exact h
      · rw [hf.β i (by omega)] at e; cases e
    rw [hβ i hlt]; exact hsub.β i n e
  · have hlt : i < nr := by
      rcases Nat.lt_or_ge i nr with h | h
      · exact h
      · rw [hf.R i (by omega)] at e; cases e
    rw [hR i hlt]; exact hsub.R i v e
  · by_cases ht : t < tm.slots.length
    · rcases skeep t ht with ⟨u, hu, e⟩ | hkeep
      · obtain ⟨x', y', e', q', m', j1, j2, j3, j4, j5⟩ := v1 u hu
        rw [Nat.zero_add] at e
        rw [e] at j1 j2
        have hs := g.slots t
        rw [j2] at hs
        rw [j1]
        exact tmBack_rel g hR j3 j4 (fun z hz => hq1 z (j5 z hz)) hs
      · exact keptSV_spec hcut hkeep (g.slots t)
    · rw [slot_out (Nat.le_of_not_lt ht)]; trivial
  · have hkb := keepBlks_spec k2 p k hp
    rw [Nat.zero_add] at hkb
    obtain ⟨k', hk', hty, hcells⟩ := hkb
    obtain ⟨n, cs, e, h1, h2, h3⟩ := g.blks p k' hk'
    have hplt : p < tm.blks.length := by
      rcases Nat.lt_or_ge p tm.blks.length with h | h
      · exact h
      · exfalso
        have : tm.blk p = none := by unfold St.blk; simp [List.getD_eq_getElem?_getD, List.getElem?_eq_none h]
        rw [this] at hp; cases hp
    refine ⟨n, cs, by rw [hβ p hplt]; exact e, h1, by rw [hty]; exact h2, ?_⟩
    obtain ⟨l1, l2⟩ := keepCells_spec hcells (P := fun _ x v => x.rel c2 v) h3 (fun j x y v hx hy hor hrel => by
      rcases hor with hc | hkept
      · obtain ⟨t, ht, e⟩ := List.any_eq_true.1 hc
        simp only [Bool.and_eq_true] at e
        have t1 := Nat.eq_of_beq_eq_true e.1
        have t2 := Nat.eq_of_beq_eq_true e.2
        rw [Nat.zero_add] at t2
        obtain ⟨x', y', e', q', m', j1, j2, j3, j4, j5⟩ := v2 t ht
        rw [t1, t2] at j1 j2
        unfold St.cellAt at j1 j2
        rw [hp] at j1
        rw [hk'] at j2
        have j1 : k.cells[j]? = some x' := j1
        have j2 : k'.cells[j]? = some y' := j2
        rw [hx] at j1; cases j1
        rw [hy] at j2; cases j2
        exact tmBack_rel g hR j3 j4 (fun z hz => hq2 z (j5 z hz)) hrel
      · exact keptAt_spec hcut hkept hrel)
    exact relL_of l1 l2
  · obtain ⟨r', hr', hrow, _⟩ := hrows r k hk
    have hR' : c2.R r = c'.R r' := by show (rowFor news nr r).bind c'.R = _; rw [hr']; rfl
    rcases hrow with ⟨k', hk', ho', ho, f1, f2, f3, hev⟩ | ⟨hk', hev⟩
    · obtain ⟨v, e, ad, n, cap, rfl, h1, h2, h3, h4, h5⟩ := g.rows r' k' hk'
      have hev : k.cont.ev c2.ρ = k'.cont.ev c'.ρ := hev
      refine ⟨_, hR'.trans e, ad, n, cap, rfl, by rw [hev]; exact h1, h2, h3, fun _ => ?_, fun h => by rw [ho] at h; cases h⟩
      rw [hev, ← f1, ← f2, ← f3]; exact h4 ho'
    · obtain ⟨v, e, ad, n, cap, rfl, h1, h2, h3, h4, h5⟩ := g.rows r' k hk'
      have hev : k.cont.ev c2.ρ = k.cont.ev c'.ρ := hev
      refine ⟨_, hR'.trans e, ad, n, cap, rfl, by rw [hev]; exact h1, h2, h3, fun ho => by rw [hev]; exact h4 ho, fun ho j u hj => ?_⟩
      rw [hev] at hj
      obtain ⟨p, o, q1, q2, q3⟩ := h5 ho j u hj
      refine ⟨p, o, q1, q2, fun y hy => ?_, q3.2⟩
      obtain ⟨y', hy', _⟩ := howns y p hy
      exact q3.1 y' hy'
  · obtain ⟨y', hy', y1, y2, y3⟩ := howns y p hy
    obtain ⟨z', hz', z1, z2, z3⟩ := howns z p hz
    have := g.apart y' z' p hy' hz'
    subst this
    have htag : y.1 = z.1 := y1.symm.trans z1
    obtain ⟨ty, qy⟩ := y
    obtain ⟨tz, qz⟩ := z
    simp only at htag y2 y3 z2 z3
    subst htag
    cases ty
    · rw [← y2 rfl, ← z2 rfl]
    · obtain ⟨⟨ky, hky, hoy⟩, py⟩ := y3 rfl
      obtain ⟨⟨kz, hkz, hoz⟩, pz⟩ := z3 rfl
      have hown : ∀ q k, tm.row q = some k → k.own = true → q < nr → ∀ z ∈ news, z.2 ≠ q := fun q k hq ho hlt z hz e => by
        have m1 := ownRows_spec (r := 0) (nr := nr) q k hq ho (by omega)
        rw [Nat.zero_add] at m1
        exact (List.nodup_append.1 d2).2.2 z.2 (List.mem_map_of_mem hz) q m1 e
      rcases py with ⟨ly, ey⟩ | ⟨zy, my, ey, fy⟩ <;> rcases pz with ⟨lz, ez⟩ | ⟨zz, mz, ez, fz⟩
      · rw [← ey, ← ez]
      · exact (hown qy ky hky hoy ly zz mz (fz.trans ey)).elim
      · exact (hown qz kz hkz hoz lz zy my (fy.trans ez)).elim
      · have := nodup_map_inj (List.nodup_append.1 d2).1 my mz (fy.trans fz.symm)
        subst this
        rw [← ey, ← ez]
  · show (if p < tm.blks.length then c'.β p else none) = none
    rw [if_neg (by omega)]
  · show (rowFor news nr r).bind c'.R = none
    have : rowFor news nr r = none := by
      unfold rowFor
      rw [if_neg (by omega)]
      cases hfd : news.find? fun z => Nat.beq z.1 r with
      | none => rfl
      | some z =>
        have hz := List.mem_of_find?_eq_some hfd
        have he : z.1 = r := Nat.eq_of_beq_eq_true (by simpa using List.find?_some hfd)
        obtain ⟨w0', _, _, a1, _⟩ := hnew z hz
        have := row_lt a1
        omega
    rw [this]; rfl
end
end Go.Proofs.YtkjgcalkkfgmlaaDoor
namespace Go.Proofs.YtkjgcalkkfgmlaaDoor
open Go.RowKit

theorem T.bind_wp {Γ : Nat → List Sc → Option (List Sc)} {L M : Type} : ∀ {t : T L} {f : L → T M} {ρ : List Sc} {N : Nx} {Φ : M → List Sc → Nx → Prop}, t.wp Γ ρ N (fun x ρ' N' => (f x).wp Γ ρ' N' Φ) → (t.bind f).wp Γ ρ N Φ
  | .leaf x, f, ρ, N, Φ, h => h
  | .fail _, _, _, _, _, h => h
  | .ite c p q, f, ρ, N, Φ, h => by
    simp only [T.wp, T.bind] at h ⊢
    split
    · rename_i hc; rw [if_pos hc] at h; exact T.bind_wp h
    · rename_i hc; rw [if_neg hc] at h; exact T.bind_wp h
  | .need c t, f, ρ, N, Φ, h => ⟨h.1, T.bind_wp h.2⟩
  | .call g es n t, f, ρ, N, Φ, ⟨rs, h1, h2, h3⟩ => ⟨rs, h1, h2, T.bind_wp h3⟩
  | .loop ini t, f, ρ, N, Φ, ⟨I, μ, h1, h2⟩ => ⟨I, μ, h1, fun vals hl hI => T.bind_wp (h2 vals hl hI)⟩
  | .next l vs, _, _, _, _, h => h

def Xt.toExit : Xt → Exit | .norm => .normal | .exit n => .exit n | .ret => .ret

section
variable {B : Nat} {w0 : World} {Γ : Nat → List Sc → Option (List Sc)} {X : Cx}

theorem mergeSV_rel {c : Ct} {e : Ex} {x y : SV} {v : Value} (h : if (e.ev c.ρ).bool = true then x.rel c v else y.rel c v) : (mergeSV e x y).rel c v := by
  unfold mergeSV
  cases h1 : x.le y
  · cases h2 : y.le x
    · simp only [cond_false]
      split
      · rename_i p q
        show v = .bool (U3.ev .ite (e.ev c.ρ) (p.ev c.ρ) (q.ev c.ρ)).bool
        simp only [U3.ev]
        split at h
        · rename_i hc; rw [if_pos hc]; exact h
        · rename_i hc; rw [if_neg hc]; exact h
      · rename_i k p k' q
        split
        · rename_i hk
          subst hk
          show v = .int k (U3.ev .ite (e.ev c.ρ) (p.ev c.ρ) (q.ev c.ρ)).int
          simp only [U3.ev]
          split at h
          · rename_i hc; rw [if_pos hc]; exact h
          · rename_i hc; rw [if_neg hc]; exact h
        · trivial
      · trivial
    · simp only [cond_false, cond_true]
      split at h
      · exact SV.le_rel h2 h
      · exact h
  · simp only [cond_true]
    split at h
    · exact h
    · exact SV.le_rel h1 h
theorem mergeL_rel {e : Ex} : ∀ {xs ys zs : List SV}, mergeL e xs ys = some zs → zs.length = xs.length ∧ zs.length = ys.length ∧ ∀ (c : Ct) (t : Nat) (v : Value), (if (e.ev c.ρ).bool = true then (xs.getD t .top).rel c v else (ys.getD t .top).rel c v) → (zs.getD t .top).rel c v
  | [], [], zs, h => by
    cases h
    exact ⟨rfl, rfl, fun c t v _ => by simp only [List.getD_nil]; trivial⟩
  | x :: xs, y :: ys, zs, h => by
    unfold mergeL at h
    split at h
    · rename_i r hr
      cases h
      obtain ⟨i1, i2, i3⟩ := mergeL_rel hr
      refine ⟨by simp [i1], by simp [i2], fun c t v hv => ?_⟩
      cases t with
      | zero => exact mergeSV_rel hv
      | succ t => exact i3 c t v hv
    · cases h
  | [], _ :: _, _, h => by cases h
  | _ :: _, [], _, h => by cases h
theorem sameAts_eq : ∀ {xs ys : List At}, sameAts xs ys = true → xs = ys
  | [], [], _ => rfl
  | x :: xs, y :: ys, h => by
    simp only [sameAts, Bool.and_eq_true] at h
    rw [At.same_eq h.1, sameAts_eq h.2]
  | [], _ :: _, h => by cases h
  | _ :: _, [], h => by cases h
theorem sameBlks_eq : ∀ {xs ys : List (Option Bk)}, sameBlks xs ys = true → xs = ys
  | [], [], _ => rfl
  | none :: xs, none :: ys, h => by rw [sameBlks_eq (xs := xs) (ys := ys) h]
  | some a :: xs, some b :: ys, h => by
    simp only [sameBlks, Bool.and_eq_true] at h
    obtain ⟨⟨h1, h2⟩, h3⟩ := h
    obtain ⟨ac, at_⟩ := a
    obtain ⟨bc, bt⟩ := b
    have h1 := Nat.eq_of_beq_eq_true h1
    have h2 := sameAts_eq h2
    simp only at h1 h2
    rw [h1, h2, sameBlks_eq h3]
  | [], _ :: _, h => by simp [sameBlks] at h
  | _ :: _, [], h => by simp [sameBlks] at h
  | none :: _, some _ :: _, h => by cases h
  | some _ :: _, none :: _, h => by cases h
theorem sameRows_eq : ∀ {xs ys : List (Option Rw)}, sameRows xs ys = true → xs = ys
  | [], [], _ => rfl
  | none :: xs, none :: ys, h => by rw [sameRows_eq (xs := xs) (ys := ys) h]
  | some a :: xs, some b :: ys, h => by
    simp only [sameRows, Bool.and_eq_true] at h
    rw [Rw.same_eq h.1, sameRows_eq h.2]
  | [], _ :: _, h => by simp [sameRows] at h
  | _ :: _, [], h => by simp [sameRows] at h
  | none :: _, some _ :: _, h => by cases h
  | some _ :: _, none :: _, h => by cases h
/-- One state covers another, at values of a list. -/
def Covers (ρ : List Sc) (N : Nx) (σ' σm : St) : Prop := ∀ B w0 c0 c a w, Is B w0 c0 c σ' ρ N a w → Is B w0 c0 c σm ρ N a w
theorem mergeSt_covers {e : Ex} {x y m : St} (h : mergeSt e x y = some m) (ρ : List Sc) (N : Nx) : if (e.ev ρ).bool = true then Covers ρ N x m else Covers ρ N y m := by
  unfold mergeSt at h
  split at h
  rotate_left
  · cases h
  rename_i hc
  simp only [Bool.and_eq_true] at hc
  obtain ⟨⟨⟨h1, h2⟩, h3⟩, h4⟩ := hc
  replace h1 := Nat.eq_of_beq_eq_true h1
  replace h2 := Nat.eq_of_beq_eq_true h2
  replace h3 := sameBlks_eq h3
  replace h4 := sameRows_eq h4
  split at h
  rotate_left
  · cases h
  rename_i s hs
  cases h
  obtain ⟨l1, l2, hr⟩ := mergeL_rel hs
  obtain ⟨xn, xl, xs, xb, xr⟩ := x
  obtain ⟨yn, yl, ys, yb, yr⟩ := y
  simp only at h1 h2 h3 h4 hs l1 l2 hr
  subst h1 h2 h3 h4
  split
  · rename_i hb
    intro B w0 c0 c a w hi
    refine ⟨hi.sub, hi.env, ⟨hi.good.below, hi.good.hB, hi.good.defers, by simp only [l1]; exact hi.good.size, fun t => hr c t _ ?_, hi.good.blks, hi.good.rows, hi.good.apart⟩, ⟨hi.fresh.β, hi.fresh.R⟩, hi.nv, hi.lv⟩
    rw [hi.env, if_pos hb]; exact hi.good.slots t
  · rename_i hb
    intro B w0 c0 c a w hi
    refine ⟨hi.sub, hi.env, ⟨hi.good.below, hi.good.hB, hi.good.defers, by simp only [l2]; exact hi.good.size, fun t => hr c t _ ?_, hi.good.blks, hi.good.rows, hi.good.apart⟩, ⟨hi.fresh.β, hi.fresh.R⟩, hi.nv, hi.lv⟩
    rw [hi.env, if_neg hb]; exact hi.good.slots t
theorem wp_cover {Γ : Nat → List Sc → Option (List Sc)} {ρ : List Sc} {N : Nx} {a m : St} (hc : Covers ρ N a m) {t : T St} (h : t.wp Γ ρ N (fun σ' ρ' N' => ρ' = ρ ∧ N' = N ∧ Covers ρ N σ' a)) : t.wp Γ ρ N (fun σ' ρ' N' => ρ' = ρ ∧ N' = N ∧ Covers ρ N σ' m) :=
  T.wp_mono h (fun _ _ _ hx => ⟨hx.1, hx.2.1, fun B w0 c0 c a' w hi => hc B w0 c0 c a' w (hx.2.2 B w0 c0 c a' w hi)⟩)
theorem mrg_wp {Γ : Nat → List Sc → Option (List Sc)} {ρ : List Sc} {N : Nx} : ∀ {t : T St} {σm : St}, t.mrg = some σm → t.wp Γ ρ N (fun σ' ρ' N' => ρ' = ρ ∧ N' = N ∧ Covers ρ N σ' σm)
  | .leaf σ, σm, h => by
    cases h
    exact ⟨rfl, rfl, fun _ _ _ _ _ _ hi => hi⟩
  | .ite c p q, σm, h => by
    unfold T.mrg at h
    split at h
    · rename_i a b ha hb
      have hc := mergeSt_covers h ρ N
      simp only [T.wp]
      split
      · rename_i hb'
        rw [if_pos hb'] at hc
        exact wp_cover hc (mrg_wp ha)
      · rename_i hb'
        rw [if_neg hb'] at hc
        exact wp_cover hc (mrg_wp hb)
    · cases h
  | .fail _, _, h => by cases h
  | .need _ _, _, h => by cases h
  | .call _ _ _ _, _, h => by cases h
  | .loop _ _, _, h => by cases h
  | .next _ _, _, h => by cases h
/-- What follows code of which a run is known. -/
def After (B : Nat) (w0 : World) (Φ : Xt × St → List Sc → Nx → Prop) (c0 : Ct) (ρ : List Sc) (N : Nx) (Q : Exit → Act → World → Prop) : Prop :=
  ∀ e σ' r n c' a' w', Φ (e, σ') (ρ ++ r) (N ++ n) → Is B w0 c0 c' σ' (ρ ++ r) (N ++ n) a' w' → Q e.toExit a' w'
theorem After.ext {Φ : Xt × St → List Sc → Nx → Prop} {c0 : Ct} {ρ : List Sc} {N : Nx} {Q : Exit → Act → World → Prop} (h : After B w0 Φ c0 ρ N Q) (r : List Sc) (n : Nx) : After B w0 Φ c0 (ρ ++ r) (N ++ n) Q := fun e σ' r' n' c' a' w' hΦ hi => by
  rw [List.append_assoc, List.append_assoc] at hΦ hi
  exact h e σ' _ _ c' a' w' hΦ hi
theorem After.sub {Φ : Xt × St → List Sc → Nx → Prop} {c0 c : Ct} {ρ : List Sc} {N : Nx} {Q : Exit → Act → World → Prop} (h : After B w0 Φ c0 ρ N Q) (hs : c0.sub c) : After B w0 Φ c ρ N Q := fun e σ' r n c' a' w' hΦ hi =>
  h e σ' r n c' a' w' hΦ ⟨hs.trans hi.sub, hi.env, hi.good, hi.fresh, hi.nv, hi.lv⟩

theorem exec_sound (hX : X.ok Γ B w0) {inl : Inl} (hinl : InlOk X Γ B w0 inl) (fk : Nat) : ∀ (code : Code) (σ : St) (ρ : List Sc) (N : Nx) (Φ : Xt × St → List Sc → Nx → Prop) (c0 c : Ct) (a : Act) (w : World) (Q : Exit → Act → World → Prop),
    (exec X inl fk code σ).wp Γ ρ N Φ → Is B w0 c0 c σ ρ N a w → After B w0 Φ c0 ρ N Q → code.wp X.P Q a w := by
  intro code
  induction code with
  | skip =>
    intro σ ρ N Φ c0 c a w Q h hi hQ
    refine wp_skip ?_
    have := hQ .norm σ [] [] c a w
    simp only [List.append_nil] at this
    exact this h hi
  | exit id =>
    intro σ ρ N Φ c0 c a w Q h hi hQ
    refine wp_exit ?_
    have := hQ (.exit id) σ [] [] c a w
    simp only [List.append_nil] at this
    exact this h hi
  | ret =>
    intro σ ρ N Φ c0 c a w Q h hi hQ
    refine wp_ret ?_
    have := hQ .ret σ [] [] c a w
    simp only [List.append_nil] at this
    exact this h hi
  | region id ops draw =>
    intro σ ρ N Φ c0 c a w Q h hi hQ
    simp only [exec] at h
    cases draw
    · simp only [cond_false] at h
      refine wp_region_list ?_
      cases hmg : hasN X.mg fk
      · rw [hmg] at h
        exact seq_sound hX hinl ops.toList 0 σ ρ N _ c0 c a w Q (T.wp_bind h) hi (fun σ' r n c' a' w' hΦ his => hQ .norm σ' r n c' a' w' hΦ his)
      · rw [hmg] at h
        simp only [cond_true] at h
        unfold mergeT at h
        split at h
        · rename_i σm hm
          refine seq_sound hX hinl ops.toList 0 σ ρ N _ c0 c a w Q (mrg_wp (Γ := Γ) (ρ := ρ) (N := N) hm) hi (fun σ' r n c' a' w' hΦ his => ?_)
          obtain ⟨e1, e2, hcov⟩ := hΦ
          have e1 : r = [] := List.append_cancel_left (by rw [e1, List.append_nil])
          have e2 : n = [] := List.append_cancel_left (by rw [e2, List.append_nil])
          subst e1; subst e2
          have hI := hcov B w0 c0 c' a' w' (by simpa using his)
          exact hQ .norm σm [] [] c' a' w' (by simpa [T.bind, T.wp] using h) (by simpa using hI)
        · exact seq_sound hX hinl ops.toList 0 σ ρ N _ c0 c a w Q (T.wp_bind h) hi (fun σ' r n c' a' w' hΦ his => hQ .norm σ' r n c' a' w' hΦ his)
    · simp only [cond_true] at h
      cases ht : tailB ops.toList (dynAt X ops.toList)
      · rw [ht] at h
        simp only [cond_false] at h
        refine draw_sound hX (Φ := fun σ' ρ' N' => Φ (.norm, σ') ρ' N') (σ := σ) (ρ := ρ) (N := N) ?_ hi Q (fun σ' r c' a' w' hΦ his => ?_)
        · split
          · rename_i hu
            rw [if_pos hu] at h
            exact T.bind_wp (T.wp_mono (T.wp_bind h) (fun x r n hx => hx))
          · rename_i hu
            rw [if_neg hu] at h; exact h
        · have := hQ .norm σ' r [] c' a' w'
          simp only [List.append_nil] at this
          exact this hΦ his
      · rw [ht] at h
        simp only [cond_true] at h
        split at h
        · rename_i hu
          refine tail_sound hX hinl ht (Φ := fun σ' ρ' N' => Φ (.norm, σ') ρ' N') hu (T.bind_wp (T.wp_mono (T.wp_bind h) (fun x r n hx => T.wp_bind hx))) hi Q (fun σ' r n c' a' w' hΦ his => hQ .norm σ' r n c' a' w' hΦ his)
        · exact h.elim
  | seq x y ihx ihy =>
    intro σ ρ N Φ c0 c a w Q h hi hQ
    simp only [exec] at h
    refine wp_seq (ihx σ ρ N _ c0 c a w _ (T.wp_bind h) hi ?_)
    intro e σ' r n c' a' w' hΦ his
    cases e with
    | norm => exact ihy σ' _ _ Φ c0 c' a' w' Q hΦ his (hQ.ext r n)
    | exit id => exact hQ (.exit id) σ' r n c' a' w' hΦ his
    | ret => exact hQ .ret σ' r n c' a' w' hΦ his
  | cond o x y ihx ihy =>
    intro σ ρ N Φ c0 c a w Q h hi hQ
    simp only [exec] at h
    have hv := evS_rel hi.good.slots o
    split at h
    · rename_i he
      rw [he] at hv
      exact wp_cond_true hv (ihx σ ρ N Φ c0 c a w Q h hi hQ)
    · rename_i he
      rw [he] at hv
      exact wp_cond_false hv (ihy σ ρ N Φ c0 c a w Q h hi hQ)
    · rename_i e _ _ he
      rw [he] at hv
      have hv : a.eval o = .bool (e.ev c.ρ).bool := hv
      rw [hi.env] at hv
      simp only [T.wp] at h
      refine wp_cond_split hv (fun ht => ?_) (fun ht => ?_)
      · rw [if_pos ht] at h; exact ihx σ ρ N Φ c0 c a w Q h hi hQ
      · rw [if_neg (by rw [ht]; simp)] at h; exact ihy σ ρ N Φ c0 c a w Q h hi hQ
    · exact h.elim
  | block id x ih =>
    intro σ ρ N Φ c0 c a w Q h hi hQ
    simp only [exec] at h
    refine wp_block (ih σ ρ N _ c0 c a w _ (T.wp_bind h) hi ?_)
    intro e σ' r n c' a' w' hΦ his
    cases e with
    | norm => exact hQ .norm σ' r n c' a' w' hΦ his
    | exit id' =>
      have hΦ : Φ (cond (Nat.beq id' id) .norm (.exit id'), σ') (ρ ++ r) (N ++ n) := hΦ
      show if id' = id then Q .normal a' w' else Q (.exit id') a' w'
      by_cases he : id' = id
      · subst he
        rw [if_pos rfl]
        rw [Nat.beq_refl] at hΦ
        exact hQ .norm σ' r n c' a' w' hΦ his
      · rw [if_neg he]
        have hb : Nat.beq id' id = false := by
          cases hb : Nat.beq id' id
          · rfl
          · exact absurd (Nat.eq_of_beq_eq_true hb) he
        rw [hb] at hΦ
        exact hQ (.exit id') σ' r n c' a' w' hΦ his
    | ret => exact hQ .ret σ' r n c' a' w' hΦ his
  | loop x ih =>
    intro σ ρ N Φ c0 c a w Q h hi hQ
    simp only [exec] at h
    split at h
    · refine wp_loop_once (ih σ ρ N _ c0 c a w _ (T.wp_bind h) hi ?_)
      intro e σ' r n c' a' w' hΦ his
      cases e with
      | norm => exact hΦ.elim
      | exit id => exact hQ (.exit id) σ' r n c' a' w' hΦ his
      | ret => exact hQ .ret σ' r n c' a' w' hΦ his
    · rename_i hint hfind
      split at h
      rotate_left
      · exact h.elim
      rename_i tm ini ht
      split at h
      rotate_left
      · exact h.elim
      rename_i hc
      simp only [Bool.and_eq_true] at hc
      obtain ⟨⟨hu, hini⟩, _⟩ := hc
      obtain ⟨I, μ, hI0, hround⟩ := h
      obtain ⟨c1, s1, s2, s3, s4, s5, s6, s7, s8⟩ := template_sound hi ht hu hini
      have hmap : (ini.map (Ex.ev ρ)).length = ini.length := by simp
      refine wp_loop_ghost (fun m a w => ∃ vals c2, vals.length = ini.length ∧ I vals ∧ μ vals = m ∧ c.sub c2 ∧ c2.ρ = ρ ++ vals ∧ Good B w0 tm c2 a w ∧ Fresh tm c2) (μ (ini.map (Ex.ev ρ))) ⟨_, c1, hmap, hI0, rfl, s1, s2, s3, s4⟩ ?_
      rintro m a2 w2 ⟨vals, c2, hl, hI, rfl, hs, henv, hg, hf⟩
      refine ih tm (ρ ++ vals) _ _ c c2 a2 w2 _ (T.wp_bind (hround vals hl hI)) ⟨hs, henv, hg, hf, by rw [s6, hi.nv]; simp [hl], by rw [s5, hi.lv]; simp⟩ ?_
      intro e σ' r n c' a' w' hΦ his
      cases e with
      | norm =>
        simp only at hΦ
        split at hΦ
        · rename_i nx hb
          have hN : (N ++ [fun v => I v ∧ μ v < μ vals] ++ n)[σ.lv]? = some (fun v => I v ∧ μ v < μ vals) := by
            rw [hi.lv]; simp
          simp only [T.wp, hN] at hΦ
          rw [hi.nv] at hb
          obtain ⟨c3, b1, b2, b3, b4, b5⟩ := back_sound (σ0 := σ) (c := c) hb his.good (x := vals ++ r) (by rw [his.env, List.append_assoc]) his.sub hi.fresh s7.symm rfl
          refine ⟨_, hΦ.2, _, c3, ?_, hΦ.1, rfl, b1, ?_, b3, b4⟩
          · have := hi.nv
            simp; omega
          · rw [b2, his.env]
        · exact hΦ.elim
      | exit id =>
        have := (hQ.sub hi.sub) (.exit id) σ' (vals ++ r) ([fun v => I v ∧ μ v < μ vals] ++ n) c' a' w'
        rw [List.append_assoc, List.append_assoc] at hΦ his
        exact this hΦ his
      | ret =>
        have := (hQ.sub hi.sub) .ret σ' (vals ++ r) ([fun v => I v ∧ μ v < μ vals] ++ n) c' a' w'
        rw [List.append_assoc, List.append_assoc] at hΦ his
        exact this hΦ his
  | rangeFunc f ps x y _ _ => intro σ ρ N Φ c0 c a w Q h; simp only [exec] at h; exact h.elim
  | scope x _ => intro σ ρ N Φ c0 c a w Q h; simp only [exec] at h; exact h.elim
  | label l => intro σ ρ N Φ c0 c a w Q h; simp only [exec] at h; exact h.elim
  | refuse u => intro σ ρ N Φ c0 c a w Q h; simp only [exec] at h; exact h.elim
  | goto l => intro σ ρ N Φ c0 c a w Q h; simp only [exec] at h; exact h.elim
end
end Go.Proofs.YtkjgcalkkfgmlaaDoor
namespace Go.Proofs.YtkjgcalkkfgmlaaDoor
open Go.RowKit

section
variable {P : Program} {B : Nat} {w0 : World} {σ : St} {c : Ct} {a : Act} {w : World}

theorem resAt_run (g : Good B w0 σ c a w) {F : ResultVar → Sem Value} (h1 : ∀ t, F (.tmp t) = pure (a.tmps.getD t undef)) (h2 : ∀ t ty, F (.cell t ty) = (do loadVar ty (← asAddr (a.tmps.getD t undef)))) {r : ResultVar} {x : SC} (h : resAt P σ r = some x) :
    ∃ v, (F r).run P w = .ok v w ∧ x.rel c v := by
  unfold resAt at h
  split at h
  · rename_i t
    have hs := g.slots t
    unfold SV.sc at h
    split at h
    · rename_i y hy
      cases h
      rw [hy] at hs
      exact ⟨_, by rw [h1]; rfl, hs⟩
    · cases h
  · rename_i t ty
    split at h
    · rename_i p off hp
      split at h
      · rename_i k hk
        have hs := g.slots t
        rw [hp] at hs
        obtain ⟨n, hn, hv⟩ := hs
        obtain ⟨n', cs, e, hB, hh, hcs⟩ := g.blks p k hk
        rw [hn] at e; cases e
        obtain ⟨sv, hsv, hsc⟩ := Option.bind_eq_some_iff.1 h
        obtain ⟨v, hrun, hrel⟩ := loadVar_run (P := P) (w := w) (n := n) (base := 0) hsv hcs (fun j v hj => by
          unfold World.cell?
          simp [hh, hj])
        refine ⟨v, ?_, ?_⟩
        · rw [h2, hv]
          rw [Nat.zero_add] at hrun
          simpa [asAddr] using hrun
        · unfold SV.sc at hsc
          split at hsc
          · cases hsc; exact hrel
          · cases hsc
      · cases h
    · cases h
theorem resAts_run (g : Good B w0 σ c a w) {F : ResultVar → Sem Value} (h1 : ∀ t, F (.tmp t) = pure (a.tmps.getD t undef)) (h2 : ∀ t ty, F (.cell t ty) = (do loadVar ty (← asAddr (a.tmps.getD t undef)))) : ∀ {l : List ResultVar} {xs : List SC}, resAts P σ l = some xs →
    ∃ vs, (l.mapM F).run P w = .ok vs w ∧ relC c xs vs
  | [], xs, h => by
    simp only [resAts, Option.some.injEq] at h
    subst h
    exact ⟨[], by simp, trivial⟩
  | r :: rs, xs, h => by
    simp only [resAts] at h
    split at h
    · rename_i x xs' hx hxs
      cases h
      obtain ⟨v, e1, q1⟩ := resAt_run g h1 h2 hx
      obtain ⟨vs, e2, q2⟩ := resAts_run g h1 h2 hxs
      exact ⟨v :: vs, by simp [List.mapM_cons, e1, e2], q1, q2⟩
    · cases h
theorem relC_len {c : Ct} : ∀ {xs : List SC} {vs : List Value}, relC c xs vs → vs.length = xs.length
  | [], [], _ => rfl
  | _ :: _, _ :: _, h => by simp [relC_len h.2]
  | [], _ :: _, h => h.elim
  | _ :: _, [], h => h.elim
theorem resOf_run (g : Good B w0 σ c a w) {fn : Func} {sv : SV} (h : resOf P σ fn.results.toList = some sv) : ∃ v, (results fn a.tmps).run P w = .ok v w ∧ sv.rel c v := by
  obtain ⟨F, hF, h1, h2⟩ : ∃ F : ResultVar → Sem Value, results fn a.tmps = (do let vs ← fn.results.mapM F; pure (if h : vs.size = 1 then vs[0] else .tuple vs)) ∧ (∀ t, F (.tmp t) = pure (a.tmps.getD t undef)) ∧ (∀ t ty, F (.cell t ty) = (do loadVar ty (← asAddr (a.tmps.getD t undef)))) :=
    ⟨_, rfl, fun _ => rfl, fun _ _ => rfl⟩
  rw [hF]
  have hl : fn.results.mapM F = Functor.map List.toArray (fn.results.toList.mapM F) := by
    conv => lhs; rw [← Array.toArray_toList (xs := fn.results)]
    exact List.mapM_toArray ..
  rw [hl]
  unfold resOf at h
  split at h
  · rename_i x hx
    cases h
    obtain ⟨vs, e, q⟩ := resAts_run g h1 h2 hx
    have hlen := relC_len q
    match vs, q, hlen with
    | [v], q, _ => exact ⟨v, by simp [e], q.1⟩
  · rename_i xs hne hx
    cases h
    obtain ⟨vs, e, q⟩ := resAts_run g h1 h2 hx
    have hlen := relC_len q
    refine ⟨.tuple vs.toArray, ?_, vs, rfl, q⟩
    have : vs.length ≠ 1 := fun hh => by
      rw [hlen] at hh
      match xs, hh with
      | [x], _ => exact hne x rfl
    simp [e, this]
  · cases h
end

theorem undef_rel {c : Ct} : (SV.t []).rel c undef := ⟨[], rfl, trivial⟩
theorem bytes_of {l : List Sc} (h : l.all isByte = true) : rowFlat false [.int .u8] l = Lib.byteCells (l.map fun y => UInt8.ofNat y.int.toNat) := by
  induction l with
  | nil => rfl
  | cons x r ih =>
    simp only [List.all_cons, Bool.and_eq_true] at h
    have hx : CK.val (.int .u8) x = .int .u8 ((UInt8.ofNat x.int.toNat).toNat : Int) := by
      cases x with
      | i z =>
        simp only [isByte, Bool.and_eq_true, decide_eq_true_eq] at h
        have : (z.toNat % 256 : Nat) = z.toNat := Nat.mod_eq_of_lt (by omega)
        simp only [CK.val, Sc.int_i, UInt8.toNat_ofNat']
        rw [show (2 ^ 8 : Nat) = 256 from rfl, this]
        congr 1; omega
      | _ => simp [isByte] at h
    have e : rowFlat false [.int .u8] (x :: r) = CK.val (.int .u8) x :: rowFlat false [.int .u8] r := rfl
    rw [e, ih h.2, hx]; rfl
theorem spec_sound {X : Cx} {Γ : Nat → List Sc → Option (List Sc)} {B : Nat} {w0 : World} (hX : X.ok Γ B w0) {g : Nat} {xs : List SV} {σ : St} {t : T (SV × St)} (hs : specF X.bd g xs σ = some t)
    {ρ : List Sc} {N : Nx} {Φ : SV × St → List Sc → Nx → Prop} {c0 c : Ct} {a : Act} {w : World} {vs : List Value} (h : t.wp Γ ρ N Φ) (hi : Is B w0 c0 c σ ρ N a w) (hl : xs.length = vs.length) (hrel : ∀ i (h1 : i < xs.length) (h2 : i < vs.length), (xs[i]).rel c (vs[i])) :
    Calls X.P g vs.toArray w fun e w' => ∃ v sv σ' r n c', e = .returned v ∧ Φ (sv, σ') (ρ ++ r) (N ++ n) ∧ sv.rel c' v ∧ (∀ a' : Act, a'.defers = [] → Is B w0 c c' { σ' with slots := [] } (ρ ++ r) (N ++ n) a' w') := by
  unfold specF at hs
  split at hs
  · cases hs
  rename_i b hb
  have hbd := hX.bd b hb
  split at hs
  rotate_left
  · cases hs
  rename_i p
  split at hs
  rotate_left
  · cases hs
  rename_i k hk
  split at hs
  rotate_left
  · cases hs
  rename_i hty
  have hty : k.ty = b.ty := Nat.eq_of_beq_eq_true hty
  split at hs
  rotate_left
  · cases hs
  rename_i x y hcells
  obtain ⟨n, cs, hβ, hBn, hheap, hrl⟩ := hi.good.blks p k hk
  rw [hcells] at hrl
  obtain ⟨v0, v1, rfl⟩ : ∃ v0 v1, cs = [v0, v1] := by
    match cs, hrl with
    | [v0, v1], _ => exact ⟨v0, v1, rfl⟩
    | [], h => exact h.elim
    | [_], h => exact h.2.elim
    | _ :: _ :: _ :: _, h => exact h.2.2.elim
  obtain ⟨hr0, hr1, _⟩ := hrl
  rw [hty] at hheap
  obtain ⟨u, rfl⟩ : ∃ u, vs = [u] := by
    match vs, hl with
    | [u], _ => exact ⟨u, rfl⟩
  have hu := hrel 0 (by simp) (by simp)
  simp only [List.getElem_cons_zero] at hu
  obtain ⟨n', e1, rfl⟩ := hu
  rw [hβ] at e1; cases e1
  split at hs
  · rename_i hf
    have hf : g = b.cc := Nat.eq_of_beq_eq_true hf
    subst hf
    split at hs
    rotate_left
    · cases hs
    rename_i hx
    cases hs
    have hp : v0 = .pointer none ∨ v0 = .pointer (some ⟨n, 0, none⟩) := by
      unfold selfB at hx
      split at hx
      · exact .inl hr0
      · rename_i q
        obtain ⟨m, e, rfl⟩ := hr0
        have : q = p := Nat.eq_of_beq_eq_true hx
        subst this
        rw [hβ] at e; cases e
        exact .inr rfl
      · cases hx
    refine (hbd.cc n v0 v1 w hheap hp).mono ?_
    rintro e w' ⟨rfl, h1, h2, h3, h4⟩
    have gg := hi.good.store hk hβ (cells := [.ptr p 0, y]) (cs := [.pointer (some ⟨n, 0, none⟩), v1]) ⟨⟨n, hβ, rfl⟩, hr1, trivial⟩ (h4 B w0 hi.good.below hBn) h1 (by rw [hty]; exact h2) h3
    refine ⟨_, .t [], { σ with blks := setN none σ.blks p (some ⟨[.ptr p 0, y], k.ty⟩) }, [], [], c, rfl, by simpa [T.wp] using h, ⟨[], rfl, trivial⟩, fun a' ha' => ?_⟩
    simp only [List.append_nil]
    refine ⟨.refl _, hi.env, ⟨gg.below, gg.hB, ha', Nat.zero_le _, fun t => trivial, gg.blks, gg.rows, gg.apart⟩, ⟨fun q hq => hi.fresh.β q (Nat.le_trans ?_ hq), hi.fresh.R⟩, hi.nv, hi.lv⟩
    show σ.blks.length ≤ (setN none σ.blks p _).length
    rw [setN_length]; omega
  · split at hs
    rotate_left
    · cases hs
    rename_i hf
    have hf : g = b.sf := Nat.eq_of_beq_eq_true hf
    subst hf
    split at hs
    rotate_left
    · cases hs
    rename_i r
    split at hs
    rotate_left
    · cases hs
    rename_i kr hkr
    split at hs
    rotate_left
    · cases hs
    rename_i hcond
    simp only [Bool.and_eq_true, srcFits, beq_iff_eq, decide_eq_true_eq] at hcond
    obtain ⟨hown, ⟨hel, hks⟩, hag⟩ := hcond
    cases hs
    simp only [T.wp] at h
    obtain ⟨hneed, h⟩ := h
    rw [mk1_ev, hi.env.symm] at hneed
    simp only [U1.ev, Sc.bool_b, Bool.and_eq_true, Bool.not_eq_true'] at hneed
    obtain ⟨hne, hall⟩ := hneed
    obtain ⟨hR, ad, nn, cc, hv⟩ := hr1
    obtain ⟨v', e', a', m, cap, hv', hlen, hmc, hcm, how, _⟩ := hi.good.rows r kr hkr
    rw [hR] at e'; cases e'
    rw [hv] at hv'; cases hv'
    have how := how hown
    rw [hks, hag, hel] at how
    rw [bytes_of hall] at how
    generalize hL : ((kr.cont.ev c.ρ).list.map fun y => UInt8.ofNat y.int.toNat) = L at how
    have hLl : L.length = nn := by rw [← hL, List.length_map, hlen]
    have hLne : L ≠ [] := by
      intro e; rw [e] at hL
      rw [List.map_eq_nil_iff.1 hL] at hne; cases hne
    rw [hv] at how
    rcases how.2 with ⟨hvn, _⟩ | ⟨gb, cap', cur, hvs, hBg, hgh, h1, h2, h3, h4⟩
    · cases hvn
      exact absurd (List.eq_nil_of_length_eq_zero hLl) hLne
    cases hvs
    have hmine : σ.owns c (true, r) gb := ⟨⟨kr, hkr, hown⟩, v1, hR, by rw [hv]; rfl⟩
    rw [hv] at hheap
    refine (hbd.sf n gb cc v0 L cur w hLne (by rw [hLl]; exact hheap) hgh (by rw [hLl]; exact h1) h2 (by simpa using h3) (by rw [hLl]; simpa using h4)).mono ?_
    rintro e w' ⟨rfl, q1, q2, q3⟩
    have hrow : ∀ q k2, St.row { σ with rows := setN none σ.rows r none } q = some k2 → q ≠ r ∧ σ.row q = some k2 := fun q k2 h => by
      have : (setN none σ.rows r none).getD q none = some k2 := h
      rw [row_set] at this
      by_cases h3 : q = r
      · rw [if_pos h3] at this; cases this
      · rw [if_neg h3] at this; exact ⟨h3, this⟩
    have howns : ∀ x p', St.owns { σ with rows := setN none σ.rows r none } c x p' → x ≠ (true, r) ∧ σ.owns c x p' := by
      rintro ⟨t, q⟩ p' h
      cases t
      · exact ⟨by simp, h⟩
      · obtain ⟨⟨k2, hk2, ho2⟩, z⟩ := h
        obtain ⟨z1, z2⟩ := hrow q k2 hk2
        exact ⟨by simp [z1], ⟨k2, z2, ho2⟩, z⟩
    have ga : ∀ x p', σ.owns c x p' → x ≠ (true, r) → p' ≠ gb := fun x p' hx hn e => hn (hi.good.apart x (true, r) p' hx (e ▸ hmine))
    refine ⟨_, .at (.str (mk1 .ofb kr.cont)), { σ with rows := setN none σ.rows r none }, [], [], c, rfl, by simpa using h, ?_, fun a' ha' => ?_⟩
    · show _ = _
      rw [mk1_ev]
      simp only [U1.ev, Sc.str_s]
      rw [hL]
    simp only [List.append_nil]
    refine ⟨.refl _, hi.env, ⟨q3 B w0 hi.good.below hBg, by rw [q1]; exact hi.good.hB, ha', Nat.zero_le _, fun t => trivial, fun q k2 hq => ?_, fun q k2 hq => ?_, fun x y' p' hx hy => hi.good.apart x y' p' (howns x p' hx).2 (howns y' p' hy).2⟩, ⟨hi.fresh.β, fun q hq => hi.fresh.R q (Nat.le_trans ?_ hq)⟩, hi.nv, hi.lv⟩
    · obtain ⟨m, cs2, e, z1, z2, z3⟩ := hi.good.blks q k2 hq
      exact ⟨m, cs2, e, z1, by rw [q2 m (ga (false, q) m ⟨⟨k2, hq⟩, e⟩ (by simp))]; exact z2, z3⟩
    · obtain ⟨hqr, hk2⟩ := hrow q k2 hq
      obtain ⟨u, e, a'', m, cap', rfl, z1, z2, z3, z4, z5⟩ := hi.good.rows q k2 hk2
      refine ⟨_, e, a'', m, cap', rfl, z1, z2, z3, fun ho2 => ?_, fun ho2 j u hj => ?_⟩
      · obtain ⟨y1, y2⟩ := z4 ho2
        refine ⟨y1, y2.imp id ?_⟩
        rintro ⟨g', cap'', cur', f1, f2, f3, f4⟩
        refine ⟨g', cap'', cur', f1, f2, ?_, f4⟩
        rw [q2 g' (ga (true, q) g' ⟨⟨k2, hk2, ho2⟩, _, e, by rw [f1]; rfl⟩ (by simp [hqr]))]; exact f3
      · obtain ⟨p', o, f1, f2, f3⟩ := z5 ho2 j u hj
        have : p' ≠ gb := fun e' => f3.1 _ (e' ▸ hmine)
        exact ⟨p', o, f1, by rw [World.cell?_of_block (q2 p' this)]; exact f2, fun x hx => f3.1 x (howns x p' hx).2, f3.2⟩
    · show σ.rows.length ≤ (setN none σ.rows r _).length
      rw [setN_length]; omega
theorem runF_sound {X : Cx} {Γ : Nat → List Sc → Option (List Sc)} {B : Nat} {w0 : World} (hX : X.ok Γ B w0) : ∀ d, InlOk X Γ B w0 (runF X d)
  | 0 => fun g xs σ ρ N Φ c0 c a w vs h => by simp only [runF] at h; exact h.elim
  | d + 1 => fun g xs σ ρ N Φ c0 c a w vs h hi hl hrel => by
    simp only [runF] at h
    split at h
    · rename_i t hs
      exact spec_sound hX hs h hi hl hrel
    split at h
    rotate_left
    · exact h.elim
    rename_i fn hfn
    split at h
    rotate_left
    · exact h.elim
    rename_i code hcode
    have h := T.wp_bind h
    have hlen : (vs.toArray ++ Array.replicate (fn.ntmps - vs.toArray.size) undef).size = (xs ++ List.replicate (fn.ntmps - xs.length) (SV.t [])).length := by simp [hl]
    refine calls_of_wp hfn hcode (exec_sound hX (runF_sound (B := B) (w0 := w0) hX d) g code _ ρ N _ c c { tmps := vs.toArray ++ Array.replicate (fn.ntmps - vs.toArray.size) undef, defers := [] } w _ h ⟨.refl _, hi.env, ⟨hi.good.below, hi.good.hB, rfl, by rw [hlen]; exact Nat.le_refl _, fun t => ?_, hi.good.blks, hi.good.rows, hi.good.apart⟩, ⟨hi.fresh.β, hi.fresh.R⟩, hi.nv, hi.lv⟩ ?_)
    · show ((xs ++ List.replicate (fn.ntmps - xs.length) (SV.t [])).getD t .top).rel c _
      by_cases ht : t < xs.length
      · have h2 : t < vs.length := by omega
        have := hrel t ht h2
        rw [getD_append_lt _ _ _ _ ht]
        simpa [List.getD_eq_getElem?_getD, List.getElem?_eq_getElem ht, Array.getElem?_append, h2] using this
      · by_cases ht2 : t < xs.length + (fn.ntmps - xs.length)
        · have e1 : (xs ++ List.replicate (fn.ntmps - xs.length) (SV.t [])).getD t .top = .t [] := by
            rw [List.getD_eq_getElem?_getD, List.getElem?_append_right (by omega), List.getElem?_replicate, if_pos (by omega)]; rfl
          have e2 : (vs.toArray ++ Array.replicate (fn.ntmps - vs.toArray.size) undef).getD t undef = undef := by
            rw [Array.getD_eq_getD_getElem?, Array.getElem?_append]
            split
            · simp at *; omega
            · rw [Array.getElem?_replicate]; split <;> rfl
          rw [e1]
          show (SV.t []).rel c ((vs.toArray ++ Array.replicate (fn.ntmps - vs.toArray.size) undef).getD t undef)
          rw [e2]; exact undef_rel
        · have e1 : (xs ++ List.replicate (fn.ntmps - xs.length) (SV.t [])).getD t .top = .top := by
            rw [List.getD_eq_getElem?_getD, List.getElem?_eq_none (by simp; omega)]; rfl
          rw [e1]; trivial
    · intro e σ' r n c' a' w' hΦ his
      have key : (match resOf X.P σ' fn.results.toList with | some v => T.leaf (v, σ') | none => T.fail "results").wp Γ (ρ ++ r) (N ++ n) Φ → a'.defers = [] ∧ ∃ v, (results fn a'.tmps).run X.P w' = .ok v w' ∧ ∃ v' sv σ' r n c', Ending.returned v = .returned v' ∧ Φ (sv, σ') (ρ ++ r) (N ++ n) ∧ sv.rel c' v' ∧ (∀ a' : Act, a'.defers = [] → Is B w0 c c' { σ' with slots := [] } (ρ ++ r) (N ++ n) a' w') := fun hk => by
        split at hk
        · rename_i sv hsv
          obtain ⟨v, hrun, hrv⟩ := resOf_run his.good hsv
          refine ⟨his.good.defers, v, hrun, v, sv, σ', r, n, c', rfl, hk, hrv, fun a2 ha2 => ⟨his.sub, his.env, ⟨his.good.below, his.good.hB, ha2, Nat.zero_le _, fun t => trivial, his.good.blks, his.good.rows, his.good.apart⟩, ⟨his.fresh.β, his.fresh.R⟩, his.nv, his.lv⟩⟩
        · exact hk.elim
      cases e with
      | norm => exact key hΦ
      | ret => exact key hΦ
      | exit id => exact hΦ.elim
end Go.Proofs.YtkjgcalkkfgmlaaDoor
namespace Go.Proofs.YtkjgcalkkfgmlaaDoor
open Go.RowKit

theorem asRel_blk {w : World} {ok : Nat → Prop} {s : AS} {v : Value} {x : Sc} (h : asRel w ok s v x) : asRel w (asBlk s v x) s v x := by
  cases s with
  | ck k => exact h
  | row el ks agg =>
    obtain ⟨ad, n, cap, rfl, h1, h2, h3, h4⟩ := h
    refine ⟨ad, n, cap, rfl, h1, h2, h3, fun j u hj => ?_⟩
    obtain ⟨p, o, e1, e2, _⟩ := h4 j u hj
    subst e1
    exact ⟨p, o, rfl, e2, rfl, Nat.lt_of_le_of_lt (Nat.zero_le _) (List.getElem?_eq_some_iff.1 hj).1⟩
theorem asRelL_blk {w : World} {ok : Nat → Prop} : ∀ {s : List AS} {v : List Value} {x : List Sc}, asRelL w ok s v x → asRelL w (asBlkL s v x) s v x
  | [], [], [], _ => trivial
  | _ :: _, _ :: _, _ :: _, h => ⟨asRel_mono (fun _ h => .inl h) (asRel_blk h.1), asRelL_mono (fun _ h => .inr h) (asRelL_blk h.2)⟩
  | [], [], _ :: _, h => h.elim
  | [], _ :: _, _, h => h.elim
  | _ :: _, [], _, h => h.elim
  | _ :: _, _ :: _, [], h => h.elim
theorem csRel_blk {w : World} {ok : Nat → Prop} {s : CS} {v : Value} {l : List Sc} (h : csRel w ok s v l) : csRel w (csBlk s v l) s v l := by
  cases s with
  | a s => obtain ⟨x, rfl, r⟩ := h; exact ⟨x, rfl, asRel_mono (fun _ h => ⟨x, rfl, h⟩) (asRel_blk r)⟩
  | g ss => obtain ⟨vs, rfl, r⟩ := h; exact ⟨vs, rfl, asRelL_mono (fun _ h => ⟨vs, rfl, h⟩) (asRelL_blk r)⟩
theorem csRelL_blk {w : World} {ok : Nat → Prop} : ∀ {s : List CS} {v : List Value} {l : List Sc}, csRelL w ok s v l → csRelL w (csBlkL s v l) s v l
  | [], [], _, h => h
  | _ :: _, _ :: _, _, ⟨l1, l2, rfl, r1, r2⟩ => ⟨l1, l2, rfl, csRel_mono (fun _ h => ⟨l1, l2, rfl, csRel_len r1, .inl h⟩) (csRel_blk r1), csRelL_mono (fun _ h => ⟨l1, l2, rfl, csRel_len r1, .inr h⟩) (csRelL_blk r2)⟩
  | [], _ :: _, _, h => h.elim
  | _ :: _, [], _, h => h.elim
def CS.lens (l : List CS) : Nat := (l.map CS.len).sum
theorem csRelL_len {w : World} {ok : Nat → Prop} : ∀ {s : List CS} {v : List Value} {l : List Sc}, csRelL w ok s v l → l.length = CS.lens s ∧ v.length = s.length
  | [], [], _, h => by have h : _ = [] := h; subst h; exact ⟨rfl, rfl⟩
  | _ :: _, _ :: _, _, ⟨l1, l2, e, r1, r2⟩ => by
    obtain ⟨i1, i2⟩ := csRelL_len r2
    subst e
    exact ⟨by simp [CS.lens, csRel_len r1, i1], by simp [i2]⟩
  | [], _ :: _, _, h => h.elim
  | _ :: _, [], _, h => h.elim
theorem resAs_nv : ∀ (ss : List AS) (nv nr : Nat), (resAs nv nr ss).2.2.1 = nv + ss.length
  | [], _, _ => rfl
  | s :: ss, nv, nr => by simp only [resAs]; rw [resAs_nv ss]; simp; omega
theorem resC_nv (s : CS) (nv nr : Nat) : (resC nv nr s).2.2.1 = nv + s.len := by
  cases s with
  | a s => rfl
  | g ss => exact resAs_nv ss nv nr
theorem resCs_nv : ∀ (ss : List CS) (nv nr : Nat), (resCs nv nr ss).2.2.1 = nv + CS.lens ss
  | [], _, _ => rfl
  | s :: ss, nv, nr => by simp only [resCs]; rw [resCs_nv ss, resC_nv]; simp [CS.lens]; omega

section
variable {B : Nat} {w0 : World} {σ : St} {c : Ct} {a : Act} {w : World}
theorem freeze_fz (g : Good B w0 σ c a w) {fr : List (Nat × Option Rw)} (h : FzOk σ.row fr) : ∃ σ' : St, Good B w0 σ' c a w ∧ Fz σ.row σ' fr := by
  obtain ⟨g2, h2⟩ := g.freezes (fr := fr) h
  refine ⟨_, g2, fun q k hq hk => ?_⟩
  rw [h2 q k hq]
  split
  · rfl
  · rename_i hn
    rcases hk with ho | hm
    · cases k; simp only at ho; subst ho; rfl
    · exact absurd (List.mem_map.2 ⟨_, hm, rfl⟩) hn
theorem outR_spec (g : Good B w0 σ c a w) {s : RS} {sv : SV} {es : List Ex} (h : outR σ s sv = some es) {v : Value} (hv : sv.rel c v) : rsRel w (fun p => B ≤ p ∨ c.K p) s v (es.map (Ex.ev c.ρ)) := by
  unfold outR at h
  split at h
  · obtain ⟨⟨es', fr⟩, h1, h2⟩ := Option.map_eq_some_iff.1 h
    simp only at h2; subst h2
    obtain ⟨σ', g2, hfz⟩ := freeze_fz g (argC_fz h1)
    exact csRel_mono (fun p hp => hp.2) (argC_spec g2 h1 hfz hv).1
  · rename_i ss xs
    obtain ⟨⟨es', fr⟩, h1, h2⟩ := Option.map_eq_some_iff.1 h
    simp only at h2; subst h2
    obtain ⟨σ', g2, hfz⟩ := freeze_fz g (argsC_fz h1)
    obtain ⟨vs, rfl, hr⟩ := hv
    refine ⟨vs, rfl, csRelL_mono (fun p hp => hp.2) (argsC_spec g2 h1 hfz (by simp [relC_len hr]) (fun i h1 h2 => ?_)).1⟩
    simp only [List.getElem_map]
    have h3 : i < xs.length := by simpa using h1
    obtain ⟨u, e, q⟩ := relC_get hr (List.getElem?_eq_getElem h3)
    rw [List.getElem?_eq_getElem h2] at e
    cases e; exact q
  · cases h
end

/-- A function's tree gives its contract. -/
theorem tree_holds {X : Cx} [Glob X.P] {Γ : Nat → List Sc → Option (List Sc)} (hX : ∀ w, Glob.G X.P w → X.ok Γ w.heap.size w) {con : Con} {F : List Sc → Option (List Sc)} (d : Nat) (hcall : ∀ args w, (callFunc con.f args).run X.P w = .ok (.enter con.f args) w)
    (h : ∀ l rs, l.length = CS.lens con.args → F l = some rs → (tree X d con).wp Γ l [] fun es ρ' _ => es.map (Ex.ev ρ') = rs) : con.holds X.P F := by
  refine fun w hG vs l rs hargs hF => .inl ⟨hcall _ _, ?_⟩
  obtain ⟨hlen, hvl⟩ := csRelL_len hargs
  have ht := h l rs hlen hF
  unfold tree at ht
  generalize hres : resCs 0 0 con.args = res at ht
  obtain ⟨xs, rows, nv, nr⟩ := res
  simp only at ht
  have ht := T.wp_bind ht
  -- the start
  have hno : ∀ x p, ¬ St.owns ⟨nv, 0, [], [], []⟩ ⟨l, fun _ => none, fun _ => none, csBlkL con.args vs l⟩ x p := by
    rintro ⟨t, q⟩ p h
    cases t
    · obtain ⟨⟨k, hk⟩, _⟩ := h; cases hk
    · obtain ⟨⟨k, hk, _⟩, _⟩ := h; cases hk
  have g0 : Good w.heap.size w ⟨nv, 0, [], [], []⟩ ⟨l, fun _ => none, fun _ => none, csBlkL con.args vs l⟩ ⟨#[], []⟩ w :=
    ⟨.refl _ _, Nat.le_refl _, rfl, Nat.zero_le _, fun t => trivial, fun p k h => (by cases h), fun r k h => (by cases h), fun x y p hx _ => (hno x p hx).elim⟩
  obtain ⟨c1, e1, e2, e3, g1, x1⟩ := resCs_spec (ss := con.args) (nv := 0) (nr := 0) (ok := csBlkL con.args vs l) g0 (fun p hp => ⟨fun x => hno x p, .inr hp⟩) (fun i _ => by rw [Nat.zero_add]) (csRelL_blk hargs) (fun _ _ _ => rfl)
  rw [hres] at e2 e3 g1 x1
  have hnv : nv = l.length := by
    have := resCs_nv con.args 0 0
    rw [hres, Nat.zero_add] at this
    rw [hlen]; exact this
  have hc1 : c1.ρ = l := x1.le.ρ
  have hK : c1.K = csBlkL con.args vs l := x1.le.K
  refine (runF_sound (B := w.heap.size) (w0 := w) (hX w hG) d con.f (xs.map .c) _ l [] _ c1 c1 ⟨#[], []⟩ w vs ht ⟨.refl _, hc1, g1, ⟨fun p _ => by rw [e1], fun r hr => ?_⟩, hnv, rfl⟩ (by simp [relC_len e3]) (fun i h1 h2 => ?_)).mono ?_
  · have hr : (putRows [] rows).length ≤ r := hr
    rw [e2 r (.inr ?_)]
    have hl := (putRows_length rows []).2
    rcases Nat.lt_or_ge r nr with hlt | hge
    · have hm := (resCs_rows con.args 0 0 r).2 ⟨Nat.zero_le _, by rw [hres]; exact hlt⟩
      rw [hres] at hm
      obtain ⟨z, hz, ez⟩ := List.mem_map.1 hm
      have := hl z hz
      omega
    · exact hge
  · simp only [List.getElem_map]
    have h3 : i < xs.length := by simpa using h1
    obtain ⟨u, e, q⟩ := relC_get e3 (List.getElem?_eq_getElem h3)
    rw [List.getElem?_eq_getElem h2] at e
    cases e; exact q
  · rintro e w' ⟨v, sv, σ', r, n, c', rfl, hΦ, hrel, his⟩
    simp only at hΦ
    split at hΦ
    · rename_i es hes
      have hi := his ⟨#[], []⟩ rfl
      refine ⟨v, rfl, hi.good.below, ?_⟩
      have hout := outR_spec hi.good (σ := { σ' with slots := [] }) hes hrel
      have hΦ : es.map (Ex.ev (l ++ r)) = rs := hΦ
      rw [hi.env, hΦ, hi.sub.K, hK] at hout
      exact hout
    · exact hΦ.elim
end Go.Proofs.YtkjgcalkkfgmlaaDoor
namespace Go.Proofs.YtkjgcalkkfgmlaaDoor
open Go.RowKit

def loopN (g : (List Sc → Option (List Sc)) → List Sc → Option (List Sc)) : Nat → List Sc → Option (List Sc)
  | 0, _ => none
  | n + 1, v => g (loopN g n) v
/-- More rounds than any loop has. -/
def rounds : Nat := 2 ^ 200
def T.den (Γ : Nat → List Sc → Option (List Sc)) : T (List Ex) → List Sc → List (List Sc → Option (List Sc)) → Option (List Sc)
  | .leaf es, ρ, _ => some (es.map (Ex.ev ρ))
  | .fail _, _, _ => none
  | .ite c p q, ρ, K => if (c.ev ρ).bool = true then p.den Γ ρ K else q.den Γ ρ K
  | .need c k, ρ, K => if (c.ev ρ).bool = true then k.den Γ ρ K else none
  | .call f es n k, ρ, K => match Γ f (es.map (Ex.ev ρ)) with
    | some rs => if rs.length = n then k.den Γ (ρ ++ rs) K else none
    | none => none
  | .loop ini body, ρ, K => loopN (fun rec v => body.den Γ (ρ ++ v) (K ++ [rec])) rounds (ini.map (Ex.ev ρ))
  | .next l vs, ρ, K => match K[l]? with
    | some k => k (vs.map (Ex.ev ρ))
    | none => none

theorem den_wp {Γ : Nat → List Sc → Option (List Sc)} {rs : List Sc} : ∀ (t : T (List Ex)) (ρ : List Sc) (K : List (List Sc → Option (List Sc))) (N : Nx), t.den Γ ρ K = some rs → K.length = N.length →
    (∀ (l : Nat) (k : List Sc → Option (List Sc)) (J : List Sc → Prop), K[l]? = some k → N[l]? = some J → ∀ v, k v = some rs → J v) → t.wp Γ ρ N fun es ρ' _ => es.map (Ex.ev ρ') = rs
  | .leaf es, ρ, K, N, h, _, _ => by simp only [T.den, Option.some.injEq] at h; exact h
  | .fail _, ρ, K, N, h, _, _ => by simp [T.den] at h
  | .ite c p q, ρ, K, N, h, hl, hk => by
    simp only [T.den] at h
    simp only [T.wp]
    split
    · rename_i hc; rw [if_pos hc] at h; exact den_wp p ρ K N h hl hk
    · rename_i hc; rw [if_neg hc] at h; exact den_wp q ρ K N h hl hk
  | .need c k, ρ, K, N, h, hl, hk => by
    simp only [T.den] at h
    by_cases hc : (c.ev ρ).bool = true
    · rw [if_pos hc] at h; exact ⟨hc, den_wp k ρ K N h hl hk⟩
    · rw [if_neg hc] at h; cases h
  | .call f es n k, ρ, K, N, h, hl, hk => by
    simp only [T.den] at h
    cases hg : Γ f (es.map (Ex.ev ρ)) with
    | none => simp [hg] at h
    | some r =>
      simp only [hg] at h
      by_cases hn : r.length = n
      · rw [if_pos hn] at h; exact ⟨r, hg, hn, den_wp k _ K N h hl hk⟩
      · rw [if_neg hn] at h; cases h
  | .loop ini body, ρ, K, N, h, hl, hk => by
    simp only [T.den] at h
    generalize hgg : (fun (rec : List Sc → Option (List Sc)) (v : List Sc) => body.den Γ (ρ ++ v) (K ++ [rec])) = g at h
    have hI : ∃ n, loopN g n (ini.map (Ex.ev ρ)) = some rs := ⟨_, h⟩
    refine ⟨fun v => ∃ n, loopN g n v = some rs, fun v => leastOf (fun n => loopN g n v = some rs), hI, fun v _ hv => ?_⟩
    obtain ⟨h1, h2⟩ := leastOf_spec hv
    generalize hm : leastOf (fun n => loopN g n v = some rs) = m at *
    cases m with
    | zero => simp [loopN] at h1
    | succ m =>
      have h1 : g (loopN g m) v = some rs := h1
      rw [← hgg] at h1
      refine den_wp body _ _ _ h1 (by simp [hl]) ?_
      intro l k J hkl hNl u hu
      rcases Nat.lt_trichotomy l K.length with hlt | heq | hgt
      · rw [List.getElem?_append_left hlt] at hkl
        rw [List.getElem?_append_left (by omega)] at hNl
        exact hk l k J hkl hNl u hu
      · subst heq
        rw [List.getElem?_append_right (Nat.le_refl _), Nat.sub_self] at hkl
        rw [hl, List.getElem?_append_right (Nat.le_refl _), Nat.sub_self] at hNl
        simp only [List.getElem?_cons_zero, Option.some.injEq] at hkl hNl
        subst hkl; subst hNl
        have hu : loopN g m u = some rs := by rw [← hgg]; exact hu
        exact ⟨⟨m, hu⟩, by rw [hm]; exact Nat.lt_succ_of_le ((leastOf_spec (p := fun n => loopN g n u = some rs) ⟨m, hu⟩).2 m hu)⟩
      · rw [List.getElem?_eq_none (by simp; omega)] at hkl; cases hkl
  | .next l vs, ρ, K, N, h, hl, hk => by
    simp only [T.den] at h
    simp only [T.wp]
    cases hK : K[l]? with
    | none => simp [hK] at h
    | some k =>
      simp only [hK] at h
      have hlt : l < N.length := by rw [← hl]; exact (List.getElem?_eq_some_iff.1 hK).1
      rw [List.getElem?_eq_getElem hlt]
      exact hk l k _ hK (List.getElem?_eq_getElem hlt) _ h

/-- A function of which a contract is known. -/
structure Known (P : Program) [Glob P] where
  con : Con
  F : List Sc → Option (List Sc)
  holds : con.holds P F
def gam {P : Program} [Glob P] : List (Known P) → Nat → List Sc → Option (List Sc)
  | [], _, _ => none
  | k :: r, f, l => if k.con.f = f then k.F l else gam r f l
theorem gam_ok {P : Program} [Glob P] : ∀ {L : List (Known P)}, (L.map (·.con.f)).Nodup → ∀ k ∈ L, gam L k.con.f = k.F
  | [], _, _, h => by cases h
  | k :: L, hd, x, hx => by
    simp only [List.map_cons, List.nodup_cons] at hd
    funext l
    simp only [gam]
    rcases List.mem_cons.1 hx with rfl | hx
    · rw [if_pos rfl]
    · rw [if_neg (fun e => hd.1 (List.mem_map.2 ⟨x, hx, e.symm⟩)), gam_ok hd.2 x hx]

/-- Functions in whose regions the ways are made one. -/
class Mrg (P : Program) where
  mg : List FuncId
instance (priority := low) noMrg {P : Program} : Mrg P := ⟨[]⟩
/-- A program with strings.Builder. -/
class Bld (P : Program) where
  bd : Option Bd
  ok : ∀ b, bd = some b → b.ok P
instance (priority := low) noBld {P : Program} : Bld P := ⟨none, fun _ h => by cases h⟩
/-- Every function is what its tree reckons. -/
def known {P : Program} [Glob P] [Bld P] [Mrg P] (mixed : P.follows .mixedOrders = true) (L : List (Known P)) (hd : (L.map (·.con.f)).Nodup) (hs : List Hint) (pl : List TypeId) (hpl : PlainTy P pl) (ins : List FuncId) (hins : ∀ f, hasN ins f = true → ∀ args w, (callFunc f args).run P w = .ok (.enter f args) w)
    (d : Nat) (con : Con) (hcall : ∀ args w, (callFunc con.f args).run P w = .ok (.enter con.f args) w) (t : T (List Ex)) (ht : tree ⟨P, L.map (·.con), hs, pl, ins, Bld.bd P, Mrg.mg P⟩ d con = t) : Known P where
  con := con
  F l := if l.length = CS.lens con.args then t.den (gam L) l [] else none
  holds := by
    have hX : ∀ w, Glob.G P w → Cx.ok ⟨P, L.map (·.con), hs, pl, ins, Bld.bd P, Mrg.mg P⟩ (gam L) w.heap.size w := fun w0 hG => ⟨mixed, hpl, fun c hc w hb => by
      obtain ⟨k, hk, rfl⟩ := List.mem_map.1 hc
      rw [gam_ok hd k hk]; exact k.holds w (Glob.keep w0 w hG hb), hins, fun b hb => Bld.ok b hb⟩
    refine @tree_holds ⟨P, L.map (·.con), hs, pl, ins, Bld.bd P, Mrg.mg P⟩ ‹Glob P› _ hX con _ d hcall fun l rs hl hF => ?_
    rw [ht]
    rw [if_pos hl] at hF
    exact den_wp t l [] [] hF rfl (fun l k J h => by simp at h)
end Go.Proofs.YtkjgcalkkfgmlaaDoor
namespace Go.Proofs.YtkjgcalkkfgmlaaDoor
open Go.RowKit

/-- What a function that calls itself returns within so many calls. -/
noncomputable def knownRec {P : Program} [Glob P] [Bld P] [Mrg P] (mixed : P.follows .mixedOrders = true) (L : List (Known P)) (con : Con) (hd : (con.f :: L.map (·.con.f)).Nodup) (hs : List Hint) (pl : List TypeId) (hpl : PlainTy P pl) (ins : List FuncId) (hins : ∀ f, hasN ins f = true → ∀ args w, (callFunc f args).run P w = .ok (.enter f args) w)
    (d : Nat) (hcall : ∀ args w, (callFunc con.f args).run P w = .ok (.enter con.f args) w) (t : T (List Ex)) (ht : tree ⟨P, con :: L.map (·.con), hs, pl, ins, Bld.bd P, Mrg.mg P⟩ d con = t) : Nat → {k : Known P // k.con = con}
  | 0 => ⟨⟨con, fun _ => none, fun _ _ _ _ _ _ h => by cases h⟩, rfl⟩
  | n + 1 => ⟨known mixed ((knownRec mixed L con hd hs pl hpl ins hins d hcall t ht n).1 :: L)
      (by rw [List.map_cons, (knownRec mixed L con hd hs pl hpl ins hins d hcall t ht n).2]; exact hd) hs pl hpl ins hins d con hcall t
      (by rw [List.map_cons, (knownRec mixed L con hd hs pl hpl ins hins d hcall t ht n).2]; exact ht), rfl⟩

/-- A rule for loops: what is left to do grows less. -/
theorem loop_rule {S : Type} {g : (List Sc → Option (List Sc)) → List Sc → Option (List Sc)} (inv : S → List Sc) (F : S → Option (List Sc)) (ok : S → Prop) (m : S → Nat)
    (h : ∀ s rec, ok s → (∀ s', ok s' → m s' < m s → rec (inv s') = F s') → g rec (inv s) = F s) : ∀ (fuel : Nat) (s : S), ok s → m s < fuel → loopN g fuel (inv s) = F s
  | 0, _, _, hm => absurd hm (Nat.not_lt_zero _)
  | n + 1, s, ho, hm => h s _ ho fun s' ho' hm' => loop_rule inv F ok m h n s' ho' (by omega)
theorem loop_rounds {S : Type} {g : (List Sc → Option (List Sc)) → List Sc → Option (List Sc)} (inv : S → List Sc) (F : S → Option (List Sc)) (ok : S → Prop) (m : S → Nat)
    (h : ∀ s rec, ok s → (∀ s', ok s' → m s' < m s → rec (inv s') = F s') → g rec (inv s) = F s) (s : S) (ho : ok s) (hm : m s < 340282366920938463463374607431768211456) : loopN g rounds (inv s) = F s :=
  loop_rule inv F ok m h rounds s ho (by unfold rounds; omega)
end Go.Proofs.YtkjgcalkkfgmlaaDoor
