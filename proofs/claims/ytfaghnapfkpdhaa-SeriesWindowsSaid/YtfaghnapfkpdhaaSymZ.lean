/-
  Loops: from round to round; code.
-/
import Derived.Test.YtfaghnapfkpdhaaSymY
namespace Go.Proofs.Ytfaghnapfkpdhaa
open Go.RowKit

theorem nodup_map_inj {α : Type} {f : α → Nat} : ∀ {l : List α}, (l.map f).Nodup → ∀ {x y : α}, x ∈ l → y ∈ l → f x = f y → x = y
  | [], _, _, _, hx, _, _ => by cases hx
  | z :: l, hd, x, y, hx, hy, e => by
    simp only [List.map_cons, List.nodup_cons] at hd
    rcases List.mem_cons.1 hx with h1 | h1 <;> rcases List.mem_cons.1 hy with h2 | h2
    · rw [h1, h2]
    · exact (hd.1 (List.mem_map.2 ⟨y, h2, by rw [← e, h1]⟩)).elim
    · exact (hd.1 (List.mem_map.2 ⟨x, h1, by rw [e, h2]⟩)).elim
    · exact nodup_map_inj hd.2 h1 h2 e

section
variable {B : Nat} {w0 : World} {tm σ : St} {c c0 c' : Ct} {a : Act} {w : World}

theorem back_sound {h : Hint} {nr : Nat} {vals : List Ex} {ρ x : List Sc} (hb : back h ρ.length nr tm σ = some vals) (g : Good B w0 σ c' a w) (henv : c'.ρ = ρ ++ x) (hsub : c.sub c') {σ0 : St} (hf : Fresh σ0 c) (hb0 : σ0.blks.length = tm.blks.length) (hr0 : σ0.rows.length = nr) :
    ∃ c2, c.sub c2 ∧ c2.ρ = ρ ++ vals.map (Ex.ev c'.ρ) ∧ Good B w0 tm c2 a w ∧ Fresh tm c2 ∧ ρ.length + vals.length = tm.nv := by
  unfold back at hb
  split at hb
  rotate_left
  · cases hb
  rename_i e1 r1 hb1
  split at hb
  rotate_left
  · cases hb
  rename_i e2 r2 hb2
  split at hb
  rotate_left
  · cases hb
  rename_i e3 hb3
  split at hb
  rotate_left
  · cases hb
  rename_i hk
  cases hb
  simp only [Bool.and_eq_true, keeps] at hk
  obtain ⟨⟨⟨⟨⟨⟨k1, k2⟩, k3⟩, k4⟩, k5⟩, k6⟩, k7⟩ := hk
  have hlen := Nat.eq_of_beq_eq_true k6
  have hnr := Nat.le_of_ble_eq_true k7
  have d1 := distinctN_nodup k4
  have d2 := distinctN_nodup k5
  generalize hnews : r1 ++ r2 = news at *
  generalize hρ2 : ρ ++ (e1 ++ e2 ++ e3).map (Ex.ev c'.ρ) = ρ2
  have hvals : Vals ρ2 c'.ρ ρ.length (e1 ++ e2 ++ e3) := fun i e he => by
    rw [← hρ2, List.getD_eq_getElem?_getD, List.getElem?_append_right (by omega), Nat.add_sub_cancel_left, List.getElem?_map, he]
    rfl
  obtain ⟨n1, v1⟩ := bkVars_spec hb1 hvals.left.left
  obtain ⟨n2, v2⟩ := bkCells_spec hb2 hvals.left.right
  have v3 := bkRows_spec hb3 (by have := hvals.right; rw [List.length_append] at this; exact this)
  have hnew : ∀ z ∈ news, NewOk tm σ ρ2 c'.ρ nr z := fun z hz => by
    rw [← hnews] at hz
    exact (List.mem_append.1 hz).elim (n1 z) (n2 z)
  let c2 : Ct := ⟨ρ2, fun p => if p < tm.blks.length then c'.β p else none, fun r => (rowFor news nr r).bind c'.R, c'.K⟩
  have rowLt : ∀ r, r < nr → rowFor news nr r = some r := fun r hr => by unfold rowFor; rw [if_pos hr]
  have rowNew : ∀ z ∈ news, rowFor news nr z.1 = some z.2 := fun z hz => by
    obtain ⟨_, _, _, _, _, _, _, _, _, _, _, _, hge⟩ := hnew z hz
    unfold rowFor
    rw [if_neg (by omega), find_key d1 z hz]; rfl
  have hR : ∀ r, r < nr → c2.R r = c'.R r := fun r hr => by show (rowFor news nr r).bind c'.R = _; rw [rowLt r hr]; rfl
  have hRn : ∀ z ∈ news, c2.R z.1 = c'.R z.2 := fun z hz => by show (rowFor news nr z.1).bind c'.R = _; rw [rowNew z hz]; rfl
  have hβ : ∀ p, p < tm.blks.length → c2.β p = c'.β p := fun p hp => by show (if p < tm.blks.length then c'.β p else none) = _; rw [if_pos hp]
  have hcut : Cut c2 c' ρ.length tm.blks.length nr := ⟨fun i hi => by
    show ρ2.getD i (.i 0) = _
    rw [← hρ2, henv, getD_append_lt _ _ _ _ hi, getD_append_lt _ _ _ _ hi], hβ, hR⟩
  have hq1 : ∀ z ∈ r1, c2.R z.1 = c'.R z.2 := fun z hz => hRn z (by rw [← hnews]; exact List.mem_append_left _ hz)
  have hq2 : ∀ z ∈ r2, c2.R z.1 = c'.R z.2 := fun z hz => hRn z (by rw [← hnews]; exact List.mem_append_right _ hz)
  obtain ⟨sl, skeep⟩ := keepSlots_spec k1
  -- rows and owners
  have hrows : ∀ r k, tm.row r = some k → ∃ r', rowFor news nr r = some r' ∧ ((∃ k', σ.row r' = some k' ∧ k'.own = true ∧ k.own = true ∧ k'.el = k.el ∧ k'.ks = k.ks ∧ k'.agg = k.agg ∧ k.cont.ev ρ2 = k'.cont.ev c'.ρ) ∨ (σ.row r' = some k ∧ k.cont.ev ρ2 = k.cont.ev c'.ρ)) ∧ ((r < nr ∧ r' = r) ∨ ∃ z ∈ news, z.1 = r ∧ z.2 = r') := fun r k hk => by
    have := keepRows_spec k3 r k hk
    rw [Nat.zero_add] at this
    rcases this with ⟨hlt, hm | ⟨k', hk', hs, hu⟩⟩ | ⟨hge, z, hz, e⟩
    · obtain ⟨w0', w1, m', a1, a2, a3, a4, a5, a6, a7, a8, a9⟩ := v3 r hm
      rw [hk] at a1; cases a1
      exact ⟨r, rowLt r hlt, .inl ⟨w1, a2, a3, a4, a5, a6, a7, by rw [a8]; exact a9⟩, .inl ⟨hlt, rfl⟩⟩
    · have := Rw.same_eq hs
      subst this
      exact ⟨r, rowLt r hlt, .inr ⟨hk', Ex.ev_under hcut.ρ hu⟩, .inl ⟨hlt, rfl⟩⟩
    · subst e
      obtain ⟨w0', w1, m', a1, a2, a3, a4, a5, a6, a7, a8, a9, a10⟩ := hnew z hz
      rw [hk] at a1; cases a1
      exact ⟨z.2, rowNew z hz, .inl ⟨w1, a2, a3, a4, a5, a6, a7, by rw [a8]; exact a9⟩, .inr ⟨z, hz, rfl, rfl⟩⟩
  have howns : ∀ y p, tm.owns c2 y p → ∃ y', σ.owns c' y' p ∧ y'.1 = y.1 ∧ (y.1 = false → y'.2 = y.2) ∧ (y.1 = true → (∃ k, tm.row y.2 = some k ∧ k.own = true) ∧ ((y.2 < nr ∧ y'.2 = y.2) ∨ ∃ z ∈ news, z.1 = y.2 ∧ z.2 = y'.2)) := by
    rintro ⟨t, q⟩ p h
    cases t
    · obtain ⟨⟨k, hk⟩, e⟩ := h
      have hkb := keepBlks_spec k2 q k hk
      rw [Nat.zero_add] at hkb
      obtain ⟨k', hk', _⟩ := hkb
      have e : (if q < tm.blks.length then c'.β q else none) = some p := e
      refine ⟨(false, q), ⟨⟨k', hk'⟩, ?_⟩, rfl, fun _ => rfl, fun h => by cases h⟩
      split at e
      · exact e
      · cases e
    · obtain ⟨⟨k, hk, ho⟩, v, e, hp⟩ := h
      obtain ⟨r', hr', hrow, hpos⟩ := hrows q k hk
      have e : (rowFor news nr q).bind c'.R = some v := e
      rw [hr'] at e
      refine ⟨(true, r'), ⟨?_, v, e, hp⟩, rfl, (fun h => by cases h), fun _ => ⟨⟨k, hk, ho⟩, hpos⟩⟩
      rcases hrow with ⟨k', hk', ho', _⟩ | ⟨hk', _⟩
      · exact ⟨k', hk', ho'⟩
      · exact ⟨k, hk', ho⟩
  refine ⟨c2, ⟨hsub.K, fun i n e => ?_, fun i v e => ?_⟩, rfl, ⟨g.below, g.hB, g.defers, by rw [sl]; exact g.size, fun t => ?_, fun p k hp => ?_, fun r k hk => ?_, fun y z p hy hz => ?_⟩, ⟨fun p hp => ?_, fun r hr => ?_⟩, hlen⟩
  · have hlt : i < tm.blks.length := by
      rcases Nat.lt_or_ge i tm.blks.length with h | h
      · exact h
      · rw [hf.β i (by omega)] at e; cases e
    rw [hβ i hlt]; exact hsub.β i n e
  · have hlt : i < nr := by
      rcases Nat.lt_or_ge i nr with h | h
      · exact h
      · rw [hf.R i (by omega)] at e; cases e
    rw [hR i hlt]; exact hsub.R i v e
  · by_cases ht : t < tm.slots.length
    · rcases skeep t ht with ⟨u, hu, e⟩ | hkeep
      · obtain ⟨x', y', e', q', m', j1, j2, j3, j4, j5⟩ := v1 u hu
        rw [Nat.zero_add] at e
        rw [e] at j1 j2
        have hs := g.slots t
        rw [j2] at hs
        rw [j1]
        exact tmBack_rel g hR j3 j4 (fun z hz => hq1 z (j5 z hz)) hs
      · exact keptSV_spec hcut hkeep (g.slots t)
    · rw [slot_out (Nat.le_of_not_lt ht)]; trivial
  · have hkb := keepBlks_spec k2 p k hp
    rw [Nat.zero_add] at hkb
    obtain ⟨k', hk', hty, hcells⟩ := hkb
    obtain ⟨n, cs, e, h1, h2, h3⟩ := g.blks p k' hk'
    have hplt : p < tm.blks.length := by
      rcases Nat.lt_or_ge p tm.blks.length with h | h
      · exact h
      · exfalso
        have : tm.blk p = none := by unfold St.blk; simp [List.getD_eq_getElem?_getD, List.getElem?_eq_none h]
        rw [this] at hp; cases hp
    refine ⟨n, cs, by rw [hβ p hplt]; exact e, h1, by rw [hty]; exact h2, ?_⟩
    obtain ⟨l1, l2⟩ := keepCells_spec hcells (P := fun _ x v => x.rel c2 v) h3 (fun j x y v hx hy hor hrel => by
      rcases hor with hc | hkept
      · obtain ⟨t, ht, e⟩ := List.any_eq_true.1 hc
        simp only [Bool.and_eq_true] at e
        have t1 := Nat.eq_of_beq_eq_true e.1
        have t2 := Nat.eq_of_beq_eq_true e.2
        rw [Nat.zero_add] at t2
        obtain ⟨x', y', e', q', m', j1, j2, j3, j4, j5⟩ := v2 t ht
        rw [t1, t2] at j1 j2
        unfold St.cellAt at j1 j2
        rw [hp] at j1
        rw [hk'] at j2
        have j1 : k.cells[j]? = some x' := j1
        have j2 : k'.cells[j]? = some y' := j2
        rw [hx] at j1; cases j1
        rw [hy] at j2; cases j2
        exact tmBack_rel g hR j3 j4 (fun z hz => hq2 z (j5 z hz)) hrel
      · exact keptAt_spec hcut hkept hrel)
    exact relL_of l1 l2
  · obtain ⟨r', hr', hrow, _⟩ := hrows r k hk
    have hR' : c2.R r = c'.R r' := by show (rowFor news nr r).bind c'.R = _; rw [hr']; rfl
    rcases hrow with ⟨k', hk', ho', ho, f1, f2, f3, hev⟩ | ⟨hk', hev⟩
    · obtain ⟨v, e, ad, n, cap, rfl, h1, h2, h3, h4, h5⟩ := g.rows r' k' hk'
      have hev : k.cont.ev c2.ρ = k'.cont.ev c'.ρ := hev
      refine ⟨_, hR'.trans e, ad, n, cap, rfl, by rw [hev]; exact h1, h2, h3, fun _ => ?_, fun h => by rw [ho] at h; cases h⟩
      rw [hev, ← f1, ← f2, ← f3]; exact h4 ho'
    · obtain ⟨v, e, ad, n, cap, rfl, h1, h2, h3, h4, h5⟩ := g.rows r' k hk'
      have hev : k.cont.ev c2.ρ = k.cont.ev c'.ρ := hev
      refine ⟨_, hR'.trans e, ad, n, cap, rfl, by rw [hev]; exact h1, h2, h3, fun ho => by rw [hev]; exact h4 ho, fun ho j u hj => ?_⟩
      rw [hev] at hj
      obtain ⟨p, o, q1, q2, q3⟩ := h5 ho j u hj
      refine ⟨p, o, q1, q2, fun y hy => ?_, q3.2⟩
      obtain ⟨y', hy', _⟩ := howns y p hy
      exact q3.1 y' hy'
  · obtain ⟨y', hy', y1, y2, y3⟩ := howns y p hy
    obtain ⟨z', hz', z1, z2, z3⟩ := howns z p hz
    have := g.apart y' z' p hy' hz'
    subst this
    have htag : y.1 = z.1 := y1.symm.trans z1
    obtain ⟨ty, qy⟩ := y
    obtain ⟨tz, qz⟩ := z
    simp only at htag y2 y3 z2 z3
    subst htag
    cases ty
    · rw [← y2 rfl, ← z2 rfl]
    · obtain ⟨⟨ky, hky, hoy⟩, py⟩ := y3 rfl
      obtain ⟨⟨kz, hkz, hoz⟩, pz⟩ := z3 rfl
      have hown : ∀ q k, tm.row q = some k → k.own = true → q < nr → ∀ z ∈ news, z.2 ≠ q := fun q k hq ho hlt z hz e => by
        have m1 := ownRows_spec (r := 0) (nr := nr) q k hq ho (by omega)
        rw [Nat.zero_add] at m1
        exact (List.nodup_append.1 d2).2.2 z.2 (List.mem_map_of_mem hz) q m1 e
      rcases py with ⟨ly, ey⟩ | ⟨zy, my, ey, fy⟩ <;> rcases pz with ⟨lz, ez⟩ | ⟨zz, mz, ez, fz⟩
      · rw [← ey, ← ez]
      · exact (hown qy ky hky hoy ly zz mz (fz.trans ey)).elim
      · exact (hown qz kz hkz hoz lz zy my (fy.trans ez)).elim
      · have := nodup_map_inj (List.nodup_append.1 d2).1 my mz (fy.trans fz.symm)
        subst this
        rw [← ey, ← ez]
  · show (if p < tm.blks.length then c'.β p else none) = none
    rw [if_neg (by omega)]
  · show (rowFor news nr r).bind c'.R = none
    have : rowFor news nr r = none := by
      unfold rowFor
      rw [if_neg (by omega)]
      cases hfd : news.find? fun z => Nat.beq z.1 r with
      | none => rfl
      | some z =>
        have hz := List.mem_of_find?_eq_some hfd
        have he : z.1 = r := Nat.eq_of_beq_eq_true (by simpa using List.find?_some hfd)
        obtain ⟨w0', _, _, a1, _⟩ := hnew z hz
        have := row_lt a1
        omega
    rw [this]; rfl
end
end Go.Proofs.Ytfaghnapfkpdhaa
