/-
  What an operation does: tests, numbers, rows.
-/
import Derived.Test.YtfaghnapfkpdhaaSymE
import Derived.IntWalk
namespace Go.Proofs.Ytfaghnapfkpdhaa
open Go.RowKit

theorem okForm_of {agg : Bool} {ks : List CK} (h : okFormB agg ks = true) : okForm agg ks ∧ 0 < ks.length := by
  unfold okFormB at h
  split at h
  · cases h
  · exact ⟨.inr rfl, by simp⟩
  · rename_i h1 h2
    refine ⟨.inl h, ?_⟩
    cases ks with
    | nil => exact absurd rfl h1
    | cons => simp
section
variable {P : Program} {B : Nat} {w0 : World} {σ : St} {c : Ct} {a : Act} {w : World} {o : Oper} {rd : Rd}

theorem wrap_in {z : Int} (h1 : -9223372036854775808 ≤ z) (h2 : z < 9223372036854775808) : IntKind.i64.wrap z = z := by
  exact IntWalk.i64_in z (by omega)

/-- A row can be read. -/
theorem Good.read (g : Good B w0 σ c a w) {r : Nat} {k : Rw} (hr : σ.row r = some k) :
    ∃ ad n cap, c.R r = some (.slice ad n cap) ∧ (k.cont.ev c.ρ).list.length = n ∧ n ≤ cap ∧ cap ≤ maxLen ∧
      ∀ j u, (rowFlat k.agg k.ks (k.cont.ev c.ρ).list)[j]? = some u → ∃ p o, ad = some ⟨p, o, none⟩ ∧ w.cell? ⟨p, o + j, none⟩ = some u ∧ (k.own = false → (∀ x, ¬ σ.owns c x p) ∧ (B ≤ p ∨ c.K p)) := by
  obtain ⟨v, e, ad, n, cap, rfl, h1, h2, h3, h4, h5⟩ := g.rows r k hr
  refine ⟨ad, n, cap, e, h1, h2, h3, fun j u hj => ?_⟩
  cases ho : k.own
  · obtain ⟨p, o, e1, e2, e3⟩ := h5 ho j u hj
    exact ⟨p, o, e1, e2, fun _ => e3⟩
  · have hw := h4 ho
    rcases hw.2 with ⟨hv, hn⟩ | ⟨p, cap', cur, hv, _, _⟩
    · cases hv
      have := hw.1
      rw [hn, Nat.zero_mul] at this
      rw [List.eq_nil_of_length_eq_zero this] at hj; simp at hj
    · cases hv
      have := hw.cells (g := p) rfl j u hj
      have h0 : (⟨p, 0, none⟩ : Addr).add j = ⟨p, 0 + j, none⟩ := by unfold Addr.add; split <;> simp_all
      rw [h0] at this
      exact ⟨p, 0, rfl, this, fun h => by cases h⟩

theorem flat_sub {agg : Bool} {ks : List CK} (h : okForm agg ks) (l : List Sc) (lo n : Nat) (j : Nat) (u : Value) (hu : (rowFlat agg ks ((l.take (lo + n)).drop lo))[j]? = some u) : (rowFlat agg ks l)[lo * ks.length + j]? = some u := by
  have e : l = l.take lo ++ ((l.take (lo + n)).drop lo ++ l.drop (lo + n)) := by
    conv => lhs; rw [← List.take_append_drop (lo + n) l]
    have : l.take (lo + n) = l.take lo ++ (l.take (lo + n)).drop lo := by
      conv => lhs; rw [← List.take_append_drop lo (l.take (lo + n))]
      rw [List.take_take, Nat.min_eq_left (by omega)]
    conv => lhs; rw [this]
    simp
  by_cases hl : lo ≤ l.length
  · rw [e, flat_append, flat_append, List.getElem?_append_right (by rw [flat_length h]; simp [Nat.min_eq_left hl]), flat_length h]
    rw [show lo * ks.length + j - (l.take lo).length * ks.length = j by simp [Nat.min_eq_left hl]]
    have hj := (List.getElem?_eq_some_iff.1 hu).1
    rw [List.getElem?_append_left hj]; exact hu
  · rw [List.drop_eq_nil_of_le (by simp; omega)] at hu; simp [rowFlat] at hu

/-- A slice, as the run knows it. -/
theorem sliceOf_spec (g : Good B w0 σ c a w) {row : Nat → Option Rw} (hrow : ∀ p k, row p = some k → σ.row p = some k) {sv : SV} {src : Option (Nat × Rw)} {lo len : Ex} (h : sliceOf row sv = some (src, lo, len)) {v : Value} (hv : sv.rel c v) :
    ∃ ad n cap, v = .slice ad n cap ∧ (len.ev c.ρ).int = n ∧ 0 ≤ (lo.ev c.ρ).int ∧ n ≤ cap ∧ cap ≤ maxLen ∧ ((contOf sv src lo len).ev c.ρ).list.length = n ∧
      match src with
      | none => ad = none ∧ n = 0 ∧ cap = 0 ∧ sv = .at .nils
      | some (r, k) => row r = some k ∧ σ.row r = some k ∧ okForm k.agg k.ks ∧ 0 < k.ks.length ∧ (sv = .at (.vec r) ∨ ∃ es lo len, sv = .at (.sl r es lo len)) ∧ (lo.ev c.ρ).int + n ≤ (k.cont.ev c.ρ).list.length ∧
          ((contOf sv src lo len).ev c.ρ).list = (((k.cont.ev c.ρ).list.take ((lo.ev c.ρ).int.toNat + n)).drop (lo.ev c.ρ).int.toNat) ∧
          (sv = .at (.vec r) → lo = .i 0 ∧ c.R r = some v) ∧
          (0 < n → ∃ p o m cap', c.R r = some (.slice (some ⟨p, o, none⟩) m cap') ∧ m = (k.cont.ev c.ρ).list.length ∧ ad = some ⟨p, o + (lo.ev c.ρ).int.toNat * k.ks.length, none⟩) ∧
          ∀ j u, (rowFlat k.agg k.ks ((contOf sv src lo len).ev c.ρ).list)[j]? = some u → ∃ p o, ad = some ⟨p, o, none⟩ ∧ w.cell? ⟨p, o + j, none⟩ = some u ∧ (k.own = false → (∀ x, ¬ σ.owns c x p) ∧ (B ≤ p ∨ c.K p)) := by
  rcases sv with (x | cs) | xs
  case c.g => simp [sliceOf] at h
  case t => simp [sliceOf] at h
  cases x <;> try (simp [sliceOf] at h; done)
  case vec r =>
    cases hk : row r with
    | none => simp [sliceOf, hk] at h
    | some k =>
      by_cases hf : okFormB k.agg k.ks = true
      · simp [sliceOf, hk, hf] at h
        obtain ⟨rfl, rfl, rfl⟩ := h
        obtain ⟨hok, hpos⟩ := okForm_of hf
        have hk2 := hrow _ _ hk
        obtain ⟨ad, n, cap, e, h1, h2, h3, h4⟩ := g.read hk2
        have e2 : c.R r = some v := hv.1
        rw [e] at e2; cases e2
        have hc : (contOf (.c (.a (.vec r))) (some (r, k)) (.i 0) (mk1 .len k.cont)) = k.cont := rfl
        refine ⟨ad, n, cap, rfl, by rw [mk1_ev]; simp [U1.ev, Sc.int, h1], by simp [Ex.ev, Sc.int], h2, h3, by rw [hc]; exact h1, hk, hk2, hok, hpos, .inl rfl, by simp [Ex.ev, Sc.int, h1], ?_, fun _ => ⟨rfl, e⟩, ?_, by rw [hc]; exact h4⟩
        · rw [hc]; simp [Ex.ev, Sc.int, ← h1]
        · intro hn
          have hne : 0 < (rowFlat k.agg k.ks (k.cont.ev c.ρ).list).length := by rw [flat_length hok, h1]; exact Nat.mul_pos hn hpos
          obtain ⟨p, o, e1, _⟩ := h4 0 _ (List.getElem?_eq_getElem hne)
          exact ⟨p, o, n, cap, by rw [e, e1], h1.symm, by simp [e1, Ex.ev, Sc.int]⟩
      · simp [sliceOf, hk, hf] at h
  case sl r es lo' len' =>
    cases hk : row r with
    | none => simp [sliceOf, hk] at h
    | some k =>
      by_cases hf : es = k.ks.length ∧ okFormB k.agg k.ks = true
      · simp [sliceOf, hk, hf] at h
        obtain ⟨rfl, hlo, hlen⟩ := h
        obtain rfl : lo = lo' := hlo.symm
        obtain rfl : len = len' := hlen.symm
        obtain ⟨rfl, hf⟩ := hf
        obtain ⟨hok, hpos⟩ := okForm_of hf
        have hk2 := hrow _ _ hk
        obtain ⟨ad, n, cap, e, h1, h2, h3, h4⟩ := g.read hk2
        obtain ⟨a1, n1, cap1, a', cap', q1, rfl, q2, q3, q4, q5, q6, q7⟩ := hv
        rw [e] at q1; cases q1
        have hadd : IntKind.i64.wrap ((lo.ev c.ρ).int + (len.ev c.ρ).int) = (lo.ev c.ρ).int + (len.ev c.ρ).int := wrap_in (by omega) (by simp only [maxLen] at h3; omega)
        have hL : ((contOf (.c (.a (.sl r k.ks.length lo len))) (some (r, k)) lo len).ev c.ρ).list = (((k.cont.ev c.ρ).list.take ((lo.ev c.ρ).int.toNat + (len.ev c.ρ).int.toNat)).drop (lo.ev c.ρ).int.toNat) := by
          simp only [contOf, mk3_ev, mk2_ev, U3.ev, U2.ev, Sc.list_l, Sc.int_i]
          rw [hadd, Int.toNat_add q2 q3]
        refine ⟨a', (len.ev c.ρ).int.toNat, cap', rfl, by omega, q2, by omega, q6, ?_, hk, hk2, hok, hpos, .inr ⟨_, _, _, rfl⟩, by omega, hL, (fun h => by cases h), ?_, ?_⟩
        · rw [hL]; simp; omega
        · intro hn
          obtain ⟨p, o, e1, e2⟩ := q7 (by omega)
          exact ⟨p, o, n, cap, by rw [e, e1], h1.symm, e2⟩
        · intro j u hu
          rw [hL] at hu
          have hu2 := flat_sub hok _ _ _ _ _ hu
          obtain ⟨p, o, e1, e2, e3⟩ := h4 _ _ hu2
          have hn : 0 < (len.ev c.ρ).int := by
            rcases Int.lt_or_le 0 (len.ev c.ρ).int with h | h
            · exact h
            · have : (len.ev c.ρ).int.toNat = 0 := by omega
              rw [this, Nat.add_zero, List.drop_eq_nil_of_le (by rw [List.length_take]; omega)] at hu
              simp [rowFlat] at hu
          obtain ⟨p', o', f1, f2⟩ := q7 hn
          rw [e1] at f1; cases f1
          exact ⟨p, _, f2, by rw [Nat.add_assoc]; exact e2, e3⟩
      · simp [sliceOf, hk, hf] at h
  case nils =>
    simp [sliceOf] at h
    obtain ⟨rfl, rfl, rfl⟩ := h
    have : v = .slice none 0 0 := hv
    subst this
    exact ⟨none, 0, 0, rfl, rfl, by simp [Ex.ev, Sc.int], Nat.le_refl _, by simp [maxLen], rfl, rfl, rfl, rfl, rfl⟩
end
end Go.Proofs.Ytfaghnapfkpdhaa
