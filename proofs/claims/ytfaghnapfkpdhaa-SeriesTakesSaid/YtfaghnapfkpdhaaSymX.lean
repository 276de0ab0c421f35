/-
  Loops: the state at a loop's head.
-/
import Derived.Test.YtfaghnapfkpdhaaSymW
import Derived.Deep.LoopGhost
namespace Go.Proofs.Ytfaghnapfkpdhaa
open Go.RowKit

section
variable {P : Program} {B : Nat} {w0 : World} {σ σ' : St} {c c0 c2 : Ct} {a : Act} {w : World}

/-- The variables from m on have the values of the expressions. -/
def Vals (ρ2 ρ : List Sc) (m : Nat) (es : List Ex) : Prop := ∀ i e, es[i]? = some e → ρ2.getD (m + i) (.i 0) = e.ev ρ
theorem Vals.left {ρ2 ρ : List Sc} {m : Nat} {es es' : List Ex} (h : Vals ρ2 ρ m (es ++ es')) : Vals ρ2 ρ m es := fun i e he => h i e (by
  rw [List.getElem?_append_left (List.getElem?_eq_some_iff.1 he).1]; exact he)
theorem Vals.right {ρ2 ρ : List Sc} {m : Nat} {es es' : List Ex} (h : Vals ρ2 ρ m (es ++ es')) : Vals ρ2 ρ (m + es.length) es' := fun i e he => by
  have := h (es.length + i) e (by rw [List.getElem?_append_right (by omega), Nat.add_sub_cancel_left]; exact he)
  rw [Nat.add_assoc]; exact this
theorem Vals.at {ρ2 ρ : List Sc} {m : Nat} {e : Ex} {es : List Ex} (h : Vals ρ2 ρ m (e :: es)) : ρ2.getD m (.i 0) = e.ev ρ := by simpa using h 0 e rfl
theorem Vals.at1 {ρ2 ρ : List Sc} {m : Nat} {e e' : Ex} {es : List Ex} (h : Vals ρ2 ρ m (e :: e' :: es)) : ρ2.getD (m + 1) (.i 0) = e'.ev ρ := h 1 e' rfl
theorem Vals.tail {ρ2 ρ : List Sc} {m : Nat} {e : Ex} {es : List Ex} (h : Vals ρ2 ρ m (e :: es)) : Vals ρ2 ρ (m + 1) es := Vals.right (es := [e]) h

/-- The whole of a row, as a slice of it. -/
theorem whole_rel (g : Good B w0 σ c a w) {r : Nat} {k : Rw} (hr : σ.row r = some k) (hok : okFormB k.agg k.ks = true) {v : Value} (hv : c.R r = some v) (h2 : c2.R r = some v) {lo len : Ex} (hlo : (lo.ev c2.ρ).int = 0) (hlen : (len.ev c2.ρ).int = (k.cont.ev c.ρ).list.length) :
    (At.sl r k.ks.length lo len).rel c2 v := by
  obtain ⟨ad, n, cap, e, h1, h3, h4, h5⟩ := g.read hr
  rw [hv] at e; cases e
  refine ⟨ad, n, cap, ad, cap, h2, ?_, by omega, by omega, by omega, by omega, h4, fun hp => ?_⟩
  · rw [hlen, h1]; simp
  · obtain ⟨hf, hks⟩ := okForm_of hok
    have hl : 0 < (rowFlat k.agg k.ks (k.cont.ev c.ρ).list).length := by rw [flat_length hf]; exact Nat.mul_pos (by omega) hks
    obtain ⟨p, o, e1, _⟩ := h5 0 _ (List.getElem?_eq_getElem hl)
    exact ⟨p, o, e1, by rw [e1, hlo]; simp⟩

theorem Good.reslot (g : Good B w0 σ c a w) {t : Nat} {sv : SV} (h : sv.rel c (a.tmps.getD t undef)) : Good B w0 { σ with slots := σ.slots.set t sv } c a w := by
  refine ⟨g.below, g.hB, g.defers, by simpa using g.size, fun u => ?_, g.blks, g.rows, g.apart⟩
  show ((σ.slots.set t sv).getD u .top).rel c _
  rw [slot_set]
  split
  · rename_i h2; rw [← h2.1]; exact h
  · exact g.slots u
theorem relL_set : ∀ {xs : List At} {vs : List Value} {n : Nat} {x : At} {v : Value}, relL c xs vs → vs[n]? = some v → x.rel c v → relL c (xs.set n x) vs
  | [], [], _, _, _, _, _, _ => trivial
  | _ :: _, v' :: _, 0, _, v, h, e, hx => by simp at e; subst e; exact ⟨hx, h.2⟩
  | _ :: _, _ :: _, n + 1, _, _, h, e, hx => ⟨h.1, relL_set h.2 (by simpa using e) hx⟩
  | [], _ :: _, _, _, _, h, _, _ => h.elim
  | _ :: _, [], _, _, _, h, _, _ => h.elim
theorem blk_set (l : List (Option Bk)) (p : Nat) (k : Option Bk) (q : Nat) (h : p < l.length) : (l.set p k).getD q none = if q = p then k else l.getD q none := by
  simp only [List.getD_eq_getElem?_getD, List.getElem?_set]
  by_cases hq : p = q
  · subst hq; simp [h]
  · simp [hq, Ne.symm hq]
theorem set_row (l : List (Option Rw)) (r : Nat) (k : Option Rw) (q : Nat) (h : r < l.length) : (l.set r k).getD q none = if q = r then k else l.getD q none := by
  simp only [List.getD_eq_getElem?_getD, List.getElem?_set]
  by_cases hq : r = q
  · subst hq; simp [h]
  · simp [hq, Ne.symm hq]
theorem row_lt {r : Nat} {k : Rw} (h : σ.row r = some k) : r < σ.rows.length := by
  rcases Nat.lt_or_ge r σ.rows.length with h2 | h2
  · exact h2
  · exfalso
    have : σ.row r = none := by unfold St.row; simp [List.getD_eq_getElem?_getD, List.getElem?_eq_none h2]
    rw [this] at h; cases h
theorem Good.recont (g : Good B w0 σ c a w) {r : Nat} {k : Rw} (hr : σ.row r = some k) (ho : k.own = true) {e : Ex} (he : e.ev c.ρ = k.cont.ev c.ρ) : Good B w0 { σ with rows := σ.rows.set r (some { k with cont := e }) } c a w := by
  have hrow : ∀ q, St.row { σ with rows := σ.rows.set r (some { k with cont := e }) } q = if q = r then some { k with cont := e } else σ.row q := fun q => set_row _ _ _ _ (row_lt hr)
  have howns : ∀ y n, St.owns { σ with rows := σ.rows.set r (some { k with cont := e }) } c y n → σ.owns c y n := by
    rintro ⟨t, q⟩ n h
    cases t
    · exact h
    · obtain ⟨⟨k', hk', ho'⟩, e'⟩ := h
      refine ⟨?_, e'⟩
      rw [hrow] at hk'
      by_cases hq : q = r
      · subst hq; exact ⟨k, hr, ho⟩
      · rw [if_neg hq] at hk'; exact ⟨k', hk', ho'⟩
  refine ⟨g.below, g.hB, g.defers, g.size, g.slots, g.blks, fun q k' hq => ?_, fun y z n hy hz => g.apart y z n (howns y n hy) (howns z n hz)⟩
  rw [hrow] at hq
  by_cases h2 : q = r
  · rw [if_pos h2] at hq; cases hq; subst h2
    obtain ⟨v, e', ad, n, cap, rfl, h1, h2, h3, h4, h5⟩ := g.rows q k hr
    refine ⟨_, e', ad, n, cap, rfl, by rw [he]; exact h1, h2, h3, fun _ => by rw [he]; exact h4 ho, fun h => by rw [ho] at h; cases h⟩
  · rw [if_neg h2] at hq
    obtain ⟨v, e', ad, n, cap, rfl, h1, h2, h3, h4, h5⟩ := g.rows q k' hq
    exact ⟨_, e', ad, n, cap, rfl, h1, h2, h3, h4, fun ho j u hj => by
      obtain ⟨q, o, e1, e2, e3⟩ := h5 ho j u hj
      exact ⟨q, o, e1, e2, fun y hy => e3.1 y (howns y q hy), e3.2⟩⟩

theorem tmOf_sound (g : Good B w0 σ c a w) (hf : Fresh σ c) {el : Nat} {x x' : At} {es : List Ex} {rs : List (Nat × Option Rw)} (h : tmOf P σ.rows σ.nv σ.rows.length el x = some (x', es, rs)) (hv : Vals c.ρ c.ρ σ.nv es) :
    ∃ c', c.le c' ∧ Good B w0 { σ with rows := putRows σ.rows rs } c' a w ∧ Fresh { σ with rows := putRows σ.rows rs } c' ∧ σ.rows.length ≤ (putRows σ.rows rs).length ∧ ∀ v, x.rel c v → x'.rel c' v := by
  unfold tmOf at h
  split at h
  · cases h
    exact ⟨c, .refl c, g, hf, Nat.le_refl _, fun v hx => by have hx : v = _ := hx; rw [hx]; show _ = Value.int _ (c.ρ.getD σ.nv (.i 0)).int; rw [hv.at]⟩
  · cases h
    exact ⟨c, .refl c, g, hf, Nat.le_refl _, fun v hx => by have hx : v = _ := hx; rw [hx]; show _ = Value.bool (c.ρ.getD σ.nv (.i 0)).bool; rw [hv.at]⟩
  · cases h
    exact ⟨c, .refl c, g, hf, Nat.le_refl _, fun v hx => by have hx : v = _ := hx; rw [hx]; show _ = Value.string (c.ρ.getD σ.nv (.i 0)).str; rw [hv.at]⟩
  · rename_i r
    split at h
    · rename_i k hk
      have hk : σ.row r = some k := hk
      split at h
      · rename_i ho
        cases h
        obtain ⟨v, e, ad, n, cap, rfl, h1, h2, h3, h4, h5⟩ := g.rows r k hk
        have hev : ((Ex.v σ.nv).ev c.ρ) = k.cont.ev c.ρ := by show c.ρ.getD σ.nv (.i 0) = _; rw [hv.at]
        have hRn := hf.R σ.rows.length (Nat.le_refl _)
        have g2 := g.turnRow (w' := w) hk ho e (World.grownBy.refl _ _) (r' := σ.rows.length) (k' := { k with cont := .v σ.nv }) ho (by rw [hev]; exact h1) h2 h3 (by rw [hev]; exact h4 ho) (.inl rfl) (.inl hRn)
        refine ⟨{ c with R := fun i => if i = σ.rows.length then some (.slice ad n cap) else c.R i }, ⟨rfl, rfl, fun _ _ h => h, fun i u h => ?_⟩, g2, ⟨hf.β, fun q hq => ?_⟩, ?_, fun u hx => ?_⟩
        · by_cases hi : i = σ.rows.length
          · subst hi; rw [hRn] at h; cases h
          · simp [hi, h]
        · have hl := putRows_length [(r, none), (σ.rows.length, some { k with cont := Ex.v σ.nv })] σ.rows
          have h1 := hl.2 (σ.rows.length, some { k with cont := Ex.v σ.nv }) (by simp)
          simp only at h1 hq
          have hne : q ≠ σ.rows.length := by omega
          simp only [if_neg hne]
          exact hf.R q (by omega)
        · exact (putRows_length _ _).1
        · obtain ⟨hx, a', n', cap', rfl⟩ := hx
          rw [e] at hx
          refine ⟨by simp [hx], a', n', cap', rfl⟩
      · split at h
        · rename_i hok
          cases h
          refine ⟨c, .refl c, g, hf, Nat.le_refl _, fun v hx => ?_⟩
          refine whole_rel g hk hok hx.1 hx.1 ?_ ?_
          · show (c.ρ.getD σ.nv (.i 0)).int = 0; rw [hv.at]; rfl
          · show (c.ρ.getD (σ.nv + 1) (.i 0)).int = _; rw [hv.at1, mk1_ev]; rfl
        · cases h
    · cases h
  · cases h
    refine ⟨c, .refl c, g, hf, Nat.le_refl _, fun v hx => ?_⟩
    rename_i r es' lo len
    have e1 : (Ex.v σ.nv).ev c.ρ = lo.ev c.ρ := hv.at
    have e2 : (Ex.v (σ.nv + 1)).ev c.ρ = len.ev c.ρ := hv.at1
    simp only [At.rel, e1, e2] at hx ⊢
    exact hx
  · split at h
    · rename_i agg ks _
      cases h
      have hRn := hf.R σ.rows.length (Nat.le_refl _)
      have hev : ((Ex.v σ.nv).ev c.ρ) = .l [] := by show c.ρ.getD σ.nv (.i 0) = _; rw [hv.at]; rfl
      have g2 := g.newRow (w' := w) g.below (Nat.le_refl _) (fun _ _ => rfl) (r := σ.rows.length) hRn (k := ⟨el, ks, agg, .v σ.nv, true⟩) (ad := none) (n := 0) (cap := 0) (by rw [hev]; rfl) (Nat.le_refl _) (by simp [maxLen])
        (fun _ => ⟨by rw [hev]; exact World.ownsRow_nil _ _ _ _, fun p hp => by cases hp⟩) (fun h => by cases h)
      refine ⟨{ c with R := fun i => if i = σ.rows.length then some (.slice none 0 0) else c.R i }, ⟨rfl, rfl, fun _ _ h => h, fun i u h => ?_⟩, g2, ⟨hf.β, fun q hq => ?_⟩, (putRows_length _ _).1, fun v hx => ?_⟩
      · by_cases hi : i = σ.rows.length
        · subst hi; rw [hRn] at h; cases h
        · simp [hi, h]
      · have hl := putRows_length [(σ.rows.length, some (⟨el, ks, agg, .v σ.nv, true⟩ : Rw))] σ.rows
        have h1 := hl.2 (σ.rows.length, some (⟨el, ks, agg, .v σ.nv, true⟩ : Rw)) (by simp)
        simp only at h1 hq
        have hne : q ≠ σ.rows.length := by omega
        simp only [if_neg hne]
        exact hf.R q (by omega)
      · have hx : v = .slice none 0 0 := hx
        subst hx
        exact ⟨by simp, none, 0, 0, rfl⟩
    · cases h
  · cases h

/-- One state grows into another at a loop's head. -/
structure Heads (B : Nat) (w0 : World) (σ σ' : St) (c : Ct) (a : Act) (w : World) (es : List Ex) : Prop where
  ex : ∃ c', c.le c' ∧ Good B w0 σ' c' a w ∧ Fresh σ' c'
  nv : σ'.nv = σ.nv + es.length
  nb : σ'.blks.length = σ.blks.length
  nr : σ.rows.length ≤ σ'.rows.length

theorem at?_eq {sv : SV} {x : At} (h : sv.at? = some x) : sv = .c (.a x) := by
  unfold SV.at? at h; split at h
  · cases h; rfl
  · cases h

theorem tmVars_sound : ∀ {l : List (Nat × Nat)} {σ σ' : St} {c : Ct} {es : List Ex}, tmVars P l σ = some (σ', es) → Good B w0 σ c a w → Fresh σ c → Vals c.ρ c.ρ σ.nv es → Heads B w0 σ σ' c a w es
  | [], σ, σ', c, es, h, g, hf, _ => by
    simp only [tmVars, Option.some.injEq, Prod.mk.injEq] at h
    obtain ⟨rfl, rfl⟩ := h
    exact ⟨⟨c, .refl c, g, hf⟩, rfl, rfl, Nat.le_refl _⟩
  | (t, el) :: r, σ, σ', c, es, h, g, hf, hv => by
    simp only [tmVars] at h
    split at h
    · rename_i x hx
      split at h
      · rename_i x' e1 rs htm
        split at h
        · rename_i σ2 e2 hrec
          simp only [Option.some.injEq, Prod.mk.injEq] at h
          obtain ⟨rfl, rfl⟩ := h
          obtain ⟨c1, hle, g1, hf1, hlen, hrel⟩ := tmOf_sound g hf htm hv.left
          have hst : (σ.slot t).rel c (a.tmps.getD t undef) := g.slots t
          rw [at?_eq hx] at hst
          have g2 : Good B w0 { σ with nv := σ.nv + e1.length, slots := σ.slots.set t (.at x'), rows := putRows σ.rows rs } c1 a w := by
            have := g1.reslot (t := t) (sv := .at x') (hrel _ hst)
            exact ⟨this.below, this.hB, this.defers, this.size, this.slots, this.blks, this.rows, this.apart⟩
          have ih := tmVars_sound hrec g2 ⟨hf1.β, hf1.R⟩ (by rw [hle.ρ]; exact hv.right)
          obtain ⟨⟨c2, hle2, g3, hf3⟩, n1, n2, n3⟩ := ih
          exact ⟨⟨c2, hle.trans hle2, g3, hf3⟩, by simp only at n1; rw [n1]; simp; omega, n2, Nat.le_trans hlen n3⟩
        · cases h
      · cases h
    · cases h

theorem tmCells_sound : ∀ {l : List (Nat × Nat × Nat)} {σ σ' : St} {c : Ct} {es : List Ex}, tmCells P l σ = some (σ', es) → Good B w0 σ c a w → Fresh σ c → Vals c.ρ c.ρ σ.nv es → Heads B w0 σ σ' c a w es
  | [], σ, σ', c, es, h, g, hf, _ => by
    simp only [tmCells, Option.some.injEq, Prod.mk.injEq] at h
    obtain ⟨rfl, rfl⟩ := h
    exact ⟨⟨c, .refl c, g, hf⟩, rfl, rfl, Nat.le_refl _⟩
  | (p, off, el) :: r, σ, σ', c, es, h, g, hf, hv => by
    simp only [tmCells] at h
    split at h
    · rename_i x hx
      split at h
      · rename_i x' e1 rs htm
        split at h
        · rename_i σ2 e2 hrec
          simp only [Option.some.injEq, Prod.mk.injEq] at h
          obtain ⟨rfl, rfl⟩ := h
          obtain ⟨c1, hle, g1, hf1, hlen, hrel⟩ := tmOf_sound g hf htm hv.left
          -- the cell's value is the same in both
          have g2 : Good B w0 (St.setCell { σ with nv := σ.nv + e1.length, rows := putRows σ.rows rs } p off x') c1 a w := by
            have hblk : ∃ k, σ.blk p = some k := by
              unfold St.cellAt at hx
              cases hk : σ.blk p with
              | none => rw [hk] at hx; cases hx
              | some k => exact ⟨k, rfl⟩
            obtain ⟨k, hk⟩ := hblk
            have hxk : k.cells[off]? = some x := by unfold St.cellAt at hx; rw [hk] at hx; exact hx
            have g1' : Good B w0 { σ with nv := σ.nv + e1.length, rows := putRows σ.rows rs } c1 a w := ⟨g1.below, g1.hB, g1.defers, g1.size, g1.slots, g1.blks, g1.rows, g1.apart⟩
            have hlen : p < σ.blks.length := by
              rcases Nat.lt_or_ge p σ.blks.length with h | h
              · exact h
              · exfalso
                have : σ.blk p = none := by unfold St.blk; simp [List.getD_eq_getElem?_getD, List.getElem?_eq_none h]
                rw [this] at hk; cases hk
            -- from the values of the block under c
            obtain ⟨n, cs, eb, hB1, hheap, hcs⟩ := g.blks p k hk
            obtain ⟨v, hvv, hxv⟩ := relL_get hcs hxk
            have hb : ∀ q, St.blk (St.setCell { σ with nv := σ.nv + e1.length, rows := putRows σ.rows rs } p off x') q = if q = p then some { k with cells := k.cells.set off x' } else σ.blk q := fun q => by
              unfold St.setCell
              have : St.blk { σ with nv := σ.nv + e1.length, rows := putRows σ.rows rs } p = some k := hk
              rw [this]
              exact blk_set _ _ _ _ hlen
            have hrow : ∀ q, St.row (St.setCell { σ with nv := σ.nv + e1.length, rows := putRows σ.rows rs } p off x') q = St.row { σ with nv := σ.nv + e1.length, rows := putRows σ.rows rs } q := fun q => by unfold St.setCell; split <;> rfl
            have hslot : ∀ q, St.slot (St.setCell { σ with nv := σ.nv + e1.length, rows := putRows σ.rows rs } p off x') q = σ.slot q := fun q => by unfold St.setCell; split <;> rfl
            have howns : ∀ y m, St.owns (St.setCell { σ with nv := σ.nv + e1.length, rows := putRows σ.rows rs } p off x') c1 y m → St.owns { σ with nv := σ.nv + e1.length, rows := putRows σ.rows rs } c1 y m := by
              rintro ⟨t, q⟩ m h
              cases t
              · obtain ⟨⟨k', hk'⟩, e⟩ := h
                refine ⟨?_, e⟩
                rw [hb] at hk'
                by_cases hq : q = p
                · subst hq; exact ⟨k, hk⟩
                · rw [if_neg hq] at hk'; exact ⟨k', hk'⟩
              · obtain ⟨⟨k', hk', ho'⟩, e⟩ := h
                rw [hrow] at hk'
                exact ⟨⟨k', hk', ho'⟩, e⟩
            refine ⟨g1.below, g1.hB, g1.defers, by unfold St.setCell; split <;> exact g1.size, fun t => by rw [hslot]; exact g1.slots t, fun q k' hq => ?_, fun r k' hr => ?_, fun y z m hy hz => g1'.apart y z m (howns y m hy) (howns z m hz)⟩
            · rw [hb] at hq
              by_cases h2 : q = p
              · rw [if_pos h2] at hq; cases hq; subst h2
                exact ⟨n, cs, hle.β _ _ eb, hB1, hheap, relL_set (relL_le hle hcs) hvv (hrel v hxv)⟩
              · rw [if_neg h2] at hq; exact g1.blks q k' hq
            · rw [hrow] at hr
              obtain ⟨v, e, ad, n, cap, rfl, h1, h2, h3, h4, h5⟩ := g1'.rows r k' hr
              exact ⟨_, e, ad, n, cap, rfl, h1, h2, h3, h4, fun ho j u hj => by
                obtain ⟨q, o, e1, e2, e3⟩ := h5 ho j u hj
                exact ⟨q, o, e1, e2, fun y hy => e3.1 y (howns y q hy), e3.2⟩⟩
          have hl : ∀ (τ : St) (y : At), (τ.setCell p off y).blks.length = τ.blks.length ∧ (τ.setCell p off y).rows = τ.rows ∧ (τ.setCell p off y).nv = τ.nv := fun τ y => by unfold St.setCell; split <;> simp
          have ih := tmCells_sound hrec g2 ⟨fun q hq => hf1.β q (by rw [(hl _ _).1] at hq; exact hq), fun q hq => hf1.R q (by rw [(hl _ _).2.1] at hq; exact hq)⟩ (by rw [hle.ρ, (hl _ _).2.2]; exact hv.right)
          obtain ⟨⟨c2, hle2, g3, hf3⟩, n1, n2, n3⟩ := ih
          rw [(hl _ _).2.2] at n1
          rw [(hl _ _).1] at n2
          rw [(hl _ _).2.1] at n3
          exact ⟨⟨c2, hle.trans hle2, g3, hf3⟩, by rw [n1]; simp; omega, n2, Nat.le_trans hlen n3⟩
        · cases h
      · cases h
    · cases h

theorem tmRows_sound : ∀ {l : List Nat} {σ σ' : St} {c : Ct} {es : List Ex}, tmRows l σ = some (σ', es) → Good B w0 σ c a w → Fresh σ c → Vals c.ρ c.ρ σ.nv es → Heads B w0 σ σ' c a w es
  | [], σ, σ', c, es, h, g, hf, _ => by
    simp only [tmRows, Option.some.injEq, Prod.mk.injEq] at h
    obtain ⟨rfl, rfl⟩ := h
    exact ⟨⟨c, .refl c, g, hf⟩, rfl, rfl, Nat.le_refl _⟩
  | r :: rs, σ, σ', c, es, h, g, hf, hv => by
    simp only [tmRows] at h
    split at h
    · rename_i k hk
      split at h
      · rename_i ho
        split at h
        · rename_i σ2 e2 hrec
          simp only [Option.some.injEq, Prod.mk.injEq] at h
          obtain ⟨rfl, rfl⟩ := h
          have g1 := g.recont hk ho (e := .v σ.nv) hv.at
          have g2 : Good B w0 { σ with nv := σ.nv + 1, rows := σ.rows.set r (some { k with cont := .v σ.nv }) } c a w := ⟨g1.below, g1.hB, g1.defers, g1.size, g1.slots, g1.blks, g1.rows, g1.apart⟩
          have ih := tmRows_sound hrec g2 ⟨hf.β, fun q hq => hf.R q (by simpa using hq)⟩ hv.tail
          obtain ⟨⟨c2, hle2, g3, hf3⟩, n1, n2, n3⟩ := ih
          simp only [List.length_set] at n1 n2 n3
          exact ⟨⟨c2, hle2, g3, hf3⟩, by rw [n1]; simp; omega, n2, n3⟩
        · cases h
      · cases h
    · cases h

theorem tmTops_sound : ∀ {l : List Nat} {σ : St}, Good B w0 σ c a w → Good B w0 (tmTops l σ) c a w ∧ (tmTops l σ).nv = σ.nv ∧ (tmTops l σ).rows = σ.rows ∧ (tmTops l σ).blks = σ.blks
  | [], _, g => ⟨g, rfl, rfl, rfl⟩
  | t :: r, σ, g => tmTops_sound (l := r) (σ := { σ with slots := σ.slots.set t .top }) (g.reslot (t := t) (sv := .top) trivial)

theorem template_sound {ρ : List Sc} {N : Nx} (hi : Is B w0 c0 c σ ρ N a w) {h : Hint} {tm : St} {ini : List Ex} (ht : template P h σ = some (tm, ini)) (hu : σ.under = true) (hini : ini.all (·.under σ.nv) = true) :
    ∃ c1, c.sub c1 ∧ c1.ρ = ρ ++ ini.map (Ex.ev ρ) ∧ Good B w0 tm c1 a w ∧ Fresh tm c1 ∧ tm.lv = σ.lv + 1 ∧ tm.nv = σ.nv + ini.length ∧ tm.blks.length = σ.blks.length ∧ σ.rows.length ≤ tm.rows.length := by
  have henv := hi.env
  subst henv
  have hext : ∀ i, i < σ.nv → (c.ρ ++ ini.map (Ex.ev c.ρ)).getD i (.i 0) = c.ρ.getD i (.i 0) := fun i h => getD_append_lt _ _ _ _ (by rw [← hi.nv]; exact h)
  have g0 := hi.good.env hu hext
  have hvals : Vals (c.ρ ++ ini.map (Ex.ev c.ρ)) (c.ρ ++ ini.map (Ex.ev c.ρ)) σ.nv ini := fun i e he => by
    have hin : e.under σ.nv = true := List.all_eq_true.1 hini e (List.mem_of_getElem? he)
    rw [Ex.ev_under hext hin, hi.nv, List.getD_eq_getElem?_getD, List.getElem?_append_right (by omega), Nat.add_sub_cancel_left, List.getElem?_map, he]
    rfl
  unfold template at ht
  obtain ⟨gt, t1, t2, t3⟩ := tmTops_sound (l := h.tops) g0
  split at ht
  · rename_i σ1 e1 h1
    split at ht
    · rename_i σ2 e2 h2
      split at ht
      · rename_i σ3 e3 h3
        simp only [Option.some.injEq, Prod.mk.injEq] at ht
        obtain ⟨rfl, rfl⟩ := ht
        obtain ⟨⟨c1, l1, g1, f1⟩, n1, b1, r1⟩ := tmVars_sound h1 gt ⟨fun p hp => hi.fresh.β p (by rw [t3] at hp; exact hp), fun p hp => hi.fresh.R p (by rw [t2] at hp; exact hp)⟩ (by rw [t1]; exact hvals.left.left)
        rw [t1] at n1
        obtain ⟨⟨c2, l2, g2, f2⟩, n2, b2, r2⟩ := tmCells_sound h2 g1 f1 (by rw [l1.ρ, n1]; exact hvals.left.right)
        obtain ⟨⟨c3, l3, g3, f3⟩, n3, b3, r3⟩ := tmRows_sound h3 g2 f2 (by rw [l2.ρ, l1.ρ, n2, n1]; have := hvals.right; rw [List.length_append] at this; rw [Nat.add_assoc]; exact this)
        have l := (l1.trans l2).trans l3
        refine ⟨c3, ⟨l.K, l.β, l.R⟩, l.ρ, ⟨g3.below, g3.hB, g3.defers, g3.size, g3.slots, g3.blks, g3.rows, g3.apart⟩, ⟨f3.β, f3.R⟩, rfl, ?_, ?_, ?_⟩
        · show σ3.nv = _; rw [n3, n2, n1]; simp; omega
        · show σ3.blks.length = _; rw [b3, b2, b1, t3]
        · show _ ≤ σ3.rows.length; rw [t2] at r1; omega
      · cases ht
    · cases ht
  · cases ht
end
end Go.Proofs.Ytfaghnapfkpdhaa
