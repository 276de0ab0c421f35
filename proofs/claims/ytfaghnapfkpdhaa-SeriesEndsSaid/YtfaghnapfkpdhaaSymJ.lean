/-
  What an operation does: all of them, but calls.
-/
import Derived.Test.YtfaghnapfkpdhaaSymI
namespace Go.Proofs.Ytfaghnapfkpdhaa
open Go.RowKit

section
variable {P : Program} {B : Nat} {w0 : World} {σ : St} {c : Ct} {a : Act} {w : World} {o : Oper} {rd : Rd}

theorem fieldB_spec {ty : TypeId} {f : Nat} {fd : Field} (h : fieldB P ty f = some fd) : ∃ fs, P.underlying ty = some (.struct fs) ∧ fs[f]? = some fd := by
  unfold fieldB at h
  split at h
  · rename_i fs hu; exact ⟨fs, hu, h⟩
  · cases h

theorem cksOf_len : ∀ {vs : List Value} {ks : List CK}, cksOf vs = some ks → vs.length = ks.length
  | [], ks, h => by simp [cksOf] at h; subst h; rfl
  | v :: vs, ks, h => by
    unfold cksOf at h
    split at h
    · rename_i x xs h1 h2; cases h; simp [cksOf_len h2]
    · cases h
theorem ckOf_cells {v : Value} {k : CK} (h : ckOf v = some k) : v.cells.size = 1 := by unfold ckOf at h; split at h <;> first | rfl | cases h
theorem rowTy_zero {el : TypeId} {agg : Bool} {ks : List CK} (h : rowTy P el = some (agg, ks)) {i : TypeInfo} (hi : P.info? el = some i) : ∃ z, i.zero = some z ∧ z.cells.size = ks.length := by
  unfold rowTy zeroOf at h
  simp only [hi, Option.bind_some] at h
  split at h
  · rename_i cs hz
    simp only [Option.map_eq_some_iff, Prod.mk.injEq] at h
    obtain ⟨x, h1, h2, rfl⟩ := h
    exact ⟨_, hz, by simpa [Value.cells] using cksOf_len h1⟩
  · rename_i v _ hz
    simp only [Option.map_eq_some_iff, Prod.mk.injEq] at h
    obtain ⟨x, h1, h2, rfl⟩ := h
    exact ⟨v, hz, ckOf_cells h1⟩
  · cases h

theorem room_spec {e : Ex} {bytes : Nat} (h : ((room e bytes).ev c.ρ).bool = true) (hb : 0 < bytes) : (e.ev c.ρ).list.length * bytes ≤ 140737488355328 ∧ (e.ev c.ρ).list.length ≤ maxLen := by
  unfold room at h
  rw [mk2_ev, mk1_ev] at h
  have h : ((e.ev c.ρ).list.length : Int) ≤ ((140737488355328 / bytes : Nat) : Int) := of_decide_eq_true h
  have h : (e.ev c.ρ).list.length ≤ 140737488355328 / bytes := by exact_mod_cast h
  have h2 : (e.ev c.ρ).list.length * bytes ≤ 140737488355328 := Nat.le_trans (Nat.mul_le_mul_right _ h) (Nat.div_mul_le_self _ _)
  refine ⟨h2, ?_⟩
  have : (e.ev c.ρ).list.length * 1 ≤ (e.ev c.ρ).list.length * bytes := Nat.mul_le_mul_left _ hb
  simp only [maxLen]; omega

/-- What is appended, as it lies in the world. -/
theorem append_ok (g : Good B w0 σ c a w) (hrd : RdOk σ c a rd) {cons : List Con} {cl : Call} (hc : cl.callee = .builtin .append) (ho : o.op = .call cl) {r : OpR} (hfr : ∀ i ∈ r.nr, c.R i = none) (h : symCall P cons rd cl = some r)
    (hn : ∀ e ∈ r.needs, (e.ev c.ρ).bool = true) : Does P B w0 σ c a w o r := by
  unfold symCall at h
  rw [hc] at h
  simp only at h
  split at h
  rotate_left
  · cases h
  rename_i s x t t' h1 h2
  split at h
  rotate_left
  · cases h
  rename_i ht
  subst ht
  split at h
  rotate_left
  · cases h
  rename_i el hu
  split at h
  rotate_left
  · cases h
  rename_i agg ks i src lo len hrt hi hsl
  split at h
  rotate_left
  · cases h
  rename_i hcond
  simp only [Bool.and_eq_true] at hcond
  obtain ⟨⟨⟨hsrc, hokb⟩, hbytes⟩, hsz⟩ := hcond
  have hsz : i.size = ks.length := Nat.eq_of_beq_eq_true hsz
  have hbytes : 0 < i.bytes := Nat.le_of_ble_eq_true (by simpa [Nat.blt] using hbytes)
  obtain ⟨hok, hpos⟩ := okForm_of hokb
  obtain ⟨z, hz, hzs⟩ := rowTy_zero hrt hi
  obtain ⟨ad, m, cc, hv, hlen, hlo, hmc, hcm, hcl, hmat⟩ := sliceOf_spec g hrd.row hsl (hrd.ev x)
  have hargs : cl.args = #[s, x] := by rw [← h1]
  have htys : cl.argTypes = #[t, t] := by rw [← h2]
  have hexec : ∀ v' w', (Builtin.append_ #[t, t] o.type #[a.eval s, a.eval x]).run P w = .ok v' w' → (execOp a.eval o).run P w = .ok (.value v') w' := fun v' w' he => by
    simp [execOp, ho, resolve, hc, hargs, htys, invoke, builtin, he]
  -- the source's cells
  generalize hy : contOf (rd.ev x) src lo len = y at h hcl hmat
  have hnews : (ad = none ∧ m = 0) ∨ ∃ ad', ad = some ad' ∧ ∀ j u, (rowFlat agg ks (y.ev c.ρ).list)[j]? = some u → w.cell? (ad'.add j) = some u := by
    by_cases hm : m = 0
    · cases ad with
      | none => exact .inl ⟨rfl, hm⟩
      | some ad' =>
        refine .inr ⟨ad', rfl, fun j u hj => ?_⟩
        rw [hm] at hcl
        rw [List.eq_nil_of_length_eq_zero hcl] at hj
        simp [rowFlat] at hj
    · cases src with
      | none => simp only at hmat; exact absurd hmat.2.1 hm
      | some rk =>
        obtain ⟨q, k⟩ := rk
        simp only at hmat
        obtain ⟨_, hk, _, hpk, _, _, _, _, hpl, hcell⟩ := hmat
        simp only [srcFits, Bool.and_eq_true, beq_iff_eq, decide_eq_true_eq] at hsrc
        obtain ⟨⟨_, hks⟩, hag⟩ := hsrc
        subst hks hag
        obtain ⟨p, q', m', cap', e1, e2, e3⟩ := hpl (by omega)
        refine .inr ⟨_, e3, fun j u hj => ?_⟩
        obtain ⟨p', o', f1, f2, _⟩ := hcell j u hj
        rw [e3] at f1; cases f1
        have h0 : (⟨p, q' + (lo.ev c.ρ).int.toNat * k.ks.length, none⟩ : Addr).add j = ⟨p, q' + (lo.ev c.ρ).int.toNat * k.ks.length + j, none⟩ := by unfold Addr.add; split <;> simp_all
        rw [h0]; exact f2
  -- the append
  have happ : ∀ (v0 : Value) (n0 : Nat) (l0 : List Sc) (ad0 : Option Addr) (cap0 : Nat), v0 = .slice ad0 n0 cap0 → n0 ≤ cap0 → w.ownsRow B el ks.length v0 n0 (rowFlat agg ks l0) →
      (n0 + m) * i.bytes ≤ 140737488355328 → n0 + m ≤ maxLen →
      ∃ v' w', (Builtin.append_ #[t, t] o.type #[v0, a.eval x]).run P w = .ok v' w' ∧ w'.ownsRow B el ks.length v' (n0 + m) (rowFlat agg ks (l0 ++ (y.ev c.ρ).list)) ∧ w.grownBy w' v0.ownBlock ∧
        (v'.ownBlock = v0.ownBlock ∨ ∀ p, v'.ownBlock = some p → w.heap.size ≤ p) := by
    intro v0 n0 l0 ad0 cap0 hv0 hle0 hown hb1 hb2
    rw [hv]
    rcases hnews with ⟨rfl, rfl⟩ | ⟨ad', rfl, hcell⟩
    · refine ⟨v0, w, ?_, ?_, ⟨rfl, rfl, rfl, Nat.le_refl _, fun _ _ _ => rfl⟩, .inl rfl⟩
      · rw [hv0]; exact run_append_none t o.type el i hu hi ad0 n0 cap0 cc hle0 w
      · rw [List.eq_nil_of_length_eq_zero hcl, List.append_nil]; exact hown
    · have := run_append_blk (P := P) w B t o.type el i z ks.length i.bytes hu hi hz hsz rfl hzs hpos v0 n0 _ hown ad' m cc (rowFlat agg ks (y.ev c.ρ).list) (by rw [flat_length hok, hcl]) hcell (flat_one agg ks _) hb2 hb1 g.hB
      rw [← flat_append] at this
      exact this
  split at h
  · -- a row of the call's own
    rename_i r' hs
    split at h
    rotate_left
    · cases h
    rename_i k hk
    split at h
    rotate_left
    · cases h
    rename_i hcond
    simp only [Bool.and_eq_true, srcFits, beq_iff_eq, decide_eq_true_eq] at hcond
    obtain ⟨⟨hown, ⟨hel, hks⟩, hag⟩, hnr⟩ := hcond
    cases h
    have hfr := hfr rd.nr (by simp)
    subst hel hks hag
    have hsv := hrd.ev s
    rw [hs] at hsv
    obtain ⟨hR, ad0, n0, cap0, hv0⟩ := hsv
    have hk' := hrd.row _ _ hk
    obtain ⟨v0, e, ad1, n1, cap1, hv1, q1, q2, q3, q4, q5⟩ := g.rows _ _ hk'
    rw [hR] at e
    cases e
    rw [hv0] at hv1; cases hv1
    have hroom := room_spec (hn _ (List.mem_singleton.2 rfl)) hbytes
    rw [appE_ev, List.length_append, q1, hcl] at hroom
    obtain ⟨v', w', hr, r1, r2, r3⟩ := happ _ n0 _ ad0 cap0 hv0 q2 (q4 hown) hroom.1 hroom.2
    have hv' : ∃ ad2 cap2, v' = .slice ad2 (n0 + m) cap2 ∧ n0 + m ≤ cap2 ∧ cap2 ≤ maxLen := by
      rcases r1.2 with ⟨rfl, hz⟩ | ⟨p, cap2, cur, rfl, _, _, f1, f2, _⟩
      · exact ⟨none, 0, by rw [hz], by omega, by simp [maxLen]⟩
      · exact ⟨_, cap2, rfl, f1, f2⟩
    obtain ⟨ad2, cap2, rfl, f1, f2⟩ := hv'
    have gg := g.turnRow hk' hown hR (w' := w') r2 (r' := rd.nr) (k' := { k with cont := appE k.cont y }) hown (ad := ad2) (n := n0 + m) (cap := cap2) (by rw [appE_ev, List.length_append, q1, hcl]) f1 f2 (by rw [appE_ev]; exact r1) r3 (.inl hfr)
    refine ⟨_, w', _, { c with R := fun i => if i = rd.nr then some (.slice ad2 (n0 + m) cap2) else c.R i }, hexec _ _ hr, .inl rfl, ?_, fun _ _ => rfl, fun i hi => by simp at hi; simp [hi], ⟨by simp, ad2, n0 + m, cap2, rfl⟩, gg⟩
    exact ⟨rfl, rfl, fun _ _ e => e, fun i u e => by
      by_cases h : i = rd.nr
      · subst h; rw [hfr] at e; cases e
      · simp [h, e]⟩
  · -- a nil row
    rename_i hs
    cases h
    have hfr := hfr rd.nr (by simp)
    have hsv := hrd.ev s
    rw [hs] at hsv
    have hsv : a.eval s = .slice none 0 0 := hsv
    have hroom := room_spec (hn _ (List.mem_singleton.2 rfl)) hbytes
    rw [appE_ev, List.length_append, hcl] at hroom
    simp only [Ex.ev, Sc.list_l, List.length_nil, Nat.zero_add] at hroom
    obtain ⟨v', w', hr, r1, r2, r3⟩ := happ _ 0 [] none 0 rfl (Nat.le_refl _) (World.ownsRow_nil w B el ks.length) (by simpa using hroom.1) (by simpa using hroom.2)
    rw [hsv] at hexec
    simp only [Nat.zero_add, List.nil_append] at r1
    have hv' : ∃ ad2 cap2, v' = .slice ad2 m cap2 ∧ m ≤ cap2 ∧ cap2 ≤ maxLen := by
      rcases r1.2 with ⟨rfl, hz⟩ | ⟨p, cap2, cur, rfl, _, _, f1, f2, _⟩
      · exact ⟨none, 0, by rw [hz], by omega, by simp [maxLen]⟩
      · exact ⟨_, cap2, rfl, f1, f2⟩
    obtain ⟨ad2, cap2, rfl, f1, f2⟩ := hv'
    have hcont : ((appE .nil y).ev c.ρ).list = (y.ev c.ρ).list := by rw [appE_ev]; simp [Ex.ev]
    have gg := g.newRow (w' := w') (g.below.grown r2 g.hB (fun k hk => by cases hk)) r2.size (fun n hn => r2.block n hn (by simp [Value.ownBlock])) hfr
      (k := ⟨el, ks, agg, appE .nil y, true⟩) (ad := ad2) (n := m) (cap := cap2) (by simp only; rw [hcont, hcl]) f1 f2
      (fun _ => ⟨by simp only; rw [hcont]; exact r1, fun p hp => by
        rcases r3 with h | h
        · rw [hp] at h; cases h
        · exact h p hp⟩) (fun h => by cases h)
    refine ⟨_, w', _, { c with R := fun i => if i = rd.nr then some (.slice ad2 m cap2) else c.R i }, hexec _ _ hr, .inl rfl, ?_, fun _ _ => rfl, fun i hi => by simp at hi; simp [hi], ⟨by simp, ad2, m, cap2, rfl⟩, gg⟩
    exact ⟨rfl, rfl, fun _ _ e => e, fun i u e => by
      by_cases h : i = rd.nr
      · subst h; rw [hfr] at e; cases e
      · simp [h, e]⟩
  · cases h
end
end Go.Proofs.Ytfaghnapfkpdhaa
