/-
  Calls by contracts: the whole call.
-/
import Derived.Test.YtfaghnapfkpdhaaSymP
namespace Go.Proofs.Ytfaghnapfkpdhaa
open Go.RowKit

section
variable {P : Program} {B : Nat} {w0 : World} {σ : St} {c : Ct} {a : Act} {w : World} {o : Oper} {rd : Rd}

theorem resA_mono (nv nr : Nat) (s : AS) : nr ≤ (resA nv nr s).2.2 := by cases s <;> simp [resA]
theorem resAs_mono : ∀ (ss : List AS) (nv nr : Nat), nr ≤ (resAs nv nr ss).2.2.2
  | [], _, _ => Nat.le_refl _
  | s :: ss, nv, nr => Nat.le_trans (resA_mono nv nr s) (resAs_mono ss (nv + 1) (resA nv nr s).2.2)
theorem resC_mono (s : CS) (nv nr : Nat) : nr ≤ (resC nv nr s).2.2.2 := by
  cases s with
  | a s => exact resA_mono nv nr s
  | g ss => exact resAs_mono ss nv nr
theorem resCs_mono : ∀ (ss : List CS) (nv nr : Nat), nr ≤ (resCs nv nr ss).2.2.2
  | [], _, _ => Nat.le_refl _
  | s :: ss, nv, nr => Nat.le_trans (resC_mono s nv nr) (resCs_mono ss _ _)

theorem resC_spec {s : CS} {nv nr : Nat} {v : Value} {ys : List Sc} {ok : Nat → Prop} (g : Good B w0 σ c a w) (hok : ∀ p, ok p → okIn B σ c p) (hy : ∀ i, i < ys.length → c.ρ.getD (nv + i) (.i 0) = ys.getD i (.i 0))
    (hr : csRel w ok s v ys) (hR : ∀ i, nr ≤ i → i < (resC nv nr s).2.2.2 → c.R i = none) :
    ∃ c', c'.β = c.β ∧ (∀ i, i < nr ∨ (resC nv nr s).2.2.2 ≤ i → c'.R i = c.R i) ∧ (resC nv nr s).2.2.1 = nv + s.len ∧ (resC nv nr s).1.rel c' v ∧
      Good B w0 { σ with rows := putRows σ.rows (resC nv nr s).2.1 } c' a w ∧ Ext B σ { σ with rows := putRows σ.rows (resC nv nr s).2.1 } c c' := by
  cases s with
  | a s =>
    obtain ⟨y, rfl, hr⟩ := hr
    have h := resAs_spec (ss := [s]) (vs := [v]) (ys := [y]) (nv := nv) (nr := nr) g hok hy ⟨hr, trivial⟩ hR
    obtain ⟨c', d1, d2, d3, d4, d5, d6, d7⟩ := h
    simp only [resAs, List.append_nil] at d2 d5 d6 d7
    exact ⟨c', d1, d2, rfl, d5.1, d6, d7⟩
  | g ss =>
    obtain ⟨vs, rfl, hr⟩ := hr
    obtain ⟨c', d1, d2, d3, d4, d5, d6, d7⟩ := resAs_spec (ss := ss) (nv := nv) (nr := nr) g hok hy hr hR
    exact ⟨c', d1, d2, d4, ⟨vs, rfl, d5⟩, d6, d7⟩

theorem resCs_spec : ∀ {ss : List CS} {σ : St} {c : Ct} {nv nr : Nat} {vs : List Value} {ys : List Sc} {ok : Nat → Prop}, Good B w0 σ c a w → (∀ p, ok p → okIn B σ c p) → (∀ i, i < ys.length → c.ρ.getD (nv + i) (.i 0) = ys.getD i (.i 0)) →
    csRelL w ok ss vs ys → (∀ i, nr ≤ i → i < (resCs nv nr ss).2.2.2 → c.R i = none) →
    ∃ c', c'.β = c.β ∧ (∀ i, i < nr ∨ (resCs nv nr ss).2.2.2 ≤ i → c'.R i = c.R i) ∧ relC c' (resCs nv nr ss).1 vs ∧
      Good B w0 { σ with rows := putRows σ.rows (resCs nv nr ss).2.1 } c' a w ∧ Ext B σ { σ with rows := putRows σ.rows (resCs nv nr ss).2.1 } c c'
  | [], σ, c, nv, nr, [], ys, ok, g, _, _, _, _ => ⟨c, rfl, fun _ _ => rfl, trivial, g, .refl c, fun _ _ h => h⟩
  | s :: ss, σ, c, nv, nr, v :: vs, ys, ok, g, hok, hy, hr, hR => by
    obtain ⟨l1, l2, rfl, r1, r2⟩ := hr
    have m1 := resC_mono s nv nr
    have hlen := csRel_len r1
    obtain ⟨c1, a1, a2, a4, a5, a6, a7⟩ := resC_spec (nv := nv) (nr := nr) g hok (fun i hi => by
      have := hy i (by simp; omega)
      rw [this]; exact getD_append_lt _ _ _ _ hi) r1 (fun i h1 h2 => hR i h1 (Nat.lt_of_lt_of_le h2 (resCs_mono ss _ _)))
    obtain ⟨c2, d1, d2, d4, d5, d6⟩ := resCs_spec (ss := ss) (nv := (resC nv nr s).2.2.1) (nr := (resC nv nr s).2.2.2) (vs := vs) (ys := l2) (ok := ok) a6
      (fun p hp => ⟨fun x hx => (hok p hp).1 x (a7.owns x p hx), by rw [a7.le.K]; exact (hok p hp).2⟩) (fun i hi => by
        have := hy (l1.length + i) (by simp; omega)
        rw [a7.le.ρ, a4, ← hlen, Nat.add_assoc, this]
        rw [List.getD_eq_getElem?_getD, List.getElem?_append_right (by omega), Nat.add_sub_cancel_left, ← List.getD_eq_getElem?_getD]) r2 (fun i h1 h2 => by rw [a2 i (.inr h1)]; exact hR i (by omega) h2)
    have m2 := resCs_mono ss (resC nv nr s).2.2.1 (resC nv nr s).2.2.2
    refine ⟨c2, d1.trans a1, fun i hi => ?_, ⟨SC.rel_le d6.le a5, d4⟩, ?_, a7.le.trans d6.le, fun x p h => a7.owns x p (d6.owns x p ?_)⟩
    · have hi' : i < nr ∨ (resCs (resC nv nr s).2.2.1 (resC nv nr s).2.2.2 ss).2.2.2 ≤ i := hi
      rw [d2 i (by omega), a2 i (by omega)]
    · simp only [resCs]; rw [putRows_append]; exact d5
    · simp only [resCs] at h; rw [putRows_append] at h; exact h
  | [], _, _, _, _, _ :: _, _, _, _, _, _, hr, _ => hr.elim
  | _ :: _, _, _, _, _, [], _, _, _, _, _, hr, _ => hr.elim

theorem resR_spec {s : RS} {nv nr : Nat} {v : Value} {ys : List Sc} {ok : Nat → Prop} (g : Good B w0 σ c a w) (hok : ∀ p, ok p → okIn B σ c p) (hy : ∀ i, i < ys.length → c.ρ.getD (nv + i) (.i 0) = ys.getD i (.i 0))
    (hr : rsRel w ok s v ys) (hR : ∀ i, nr ≤ i → i < (resR nv nr s).2.2.2 → c.R i = none) :
    ∃ c', c'.β = c.β ∧ (∀ i, i < nr ∨ (resR nv nr s).2.2.2 ≤ i → c'.R i = c.R i) ∧ (resR nv nr s).1.rel c' v ∧
      Good B w0 { σ with rows := putRows σ.rows (resR nv nr s).2.1 } c' a w ∧ c.le c' := by
  cases s with
  | c s =>
    obtain ⟨c', d1, d2, d3, d4, d5, d6⟩ := resC_spec (nv := nv) (nr := nr) g hok hy hr hR
    exact ⟨c', d1, d2, d4, d5, d6.le⟩
  | t ss =>
    obtain ⟨vs, rfl, hr⟩ := hr
    obtain ⟨c', d1, d2, d3, d4, d5⟩ := resCs_spec (nv := nv) (nr := nr) g hok hy hr hR
    exact ⟨c', d1, d2, ⟨vs, rfl, d3⟩, d4, d5.le⟩

/-- The rows of a result, by their numbers. -/
theorem resA_rows (nv nr : Nat) (s : AS) : ∀ i, i ∈ (resA nv nr s).2.1.map (·.1) ↔ nr ≤ i ∧ i < (resA nv nr s).2.2 := by
  cases s <;> intro i <;> simp [resA] <;> omega
theorem resAs_rows : ∀ (ss : List AS) (nv nr : Nat) (i : Nat), i ∈ (resAs nv nr ss).2.1.map (·.1) ↔ nr ≤ i ∧ i < (resAs nv nr ss).2.2.2
  | [], _, nr, i => by simp [resAs]
  | s :: ss, nv, nr, i => by
    have h1 := resA_rows nv nr s i
    have h2 := resAs_rows ss (nv + 1) (resA nv nr s).2.2 i
    have m1 := resA_mono nv nr s
    have m2 := resAs_mono ss (nv + 1) (resA nv nr s).2.2
    show i ∈ ((resA nv nr s).2.1 ++ (resAs (nv + 1) (resA nv nr s).2.2 ss).2.1).map (·.1) ↔ nr ≤ i ∧ i < (resAs (nv + 1) (resA nv nr s).2.2 ss).2.2.2
    rw [List.map_append, List.mem_append, h1, h2]
    omega
theorem resC_rows (s : CS) (nv nr : Nat) (i : Nat) : i ∈ (resC nv nr s).2.1.map (·.1) ↔ nr ≤ i ∧ i < (resC nv nr s).2.2.2 := by
  cases s with
  | a s => exact resA_rows nv nr s i
  | g ss => exact resAs_rows ss nv nr i
theorem resCs_rows : ∀ (ss : List CS) (nv nr : Nat) (i : Nat), i ∈ (resCs nv nr ss).2.1.map (·.1) ↔ nr ≤ i ∧ i < (resCs nv nr ss).2.2.2
  | [], _, nr, i => by simp [resCs]
  | s :: ss, nv, nr, i => by
    have h1 := resC_rows s nv nr i
    have h2 := resCs_rows ss (resC nv nr s).2.2.1 (resC nv nr s).2.2.2 i
    have m1 := resC_mono s nv nr
    have m2 := resCs_mono ss (resC nv nr s).2.2.1 (resC nv nr s).2.2.2
    show i ∈ ((resC nv nr s).2.1 ++ (resCs (resC nv nr s).2.2.1 (resC nv nr s).2.2.2 ss).2.1).map (·.1) ↔ nr ≤ i ∧ i < (resCs (resC nv nr s).2.2.1 (resC nv nr s).2.2.2 ss).2.2.2
    rw [List.map_append, List.mem_append, h1, h2]
    omega
theorem resR_rows (s : RS) (nv nr : Nat) (i : Nat) : i ∈ (resR nv nr s).2.1.map (·.1) ↔ nr ≤ i ∧ i < (resR nv nr s).2.2.2 := by
  cases s with
  | c s => exact resC_rows s nv nr i
  | t ss => exact resCs_rows ss nv nr i

theorem sliceOf_src {row : Nat → Option Rw} {x : At} {r : Nat} {k : Rw} {lo len : Ex} (h : sliceOf row (.at x) = some (some (r, k), lo, len)) : row r = some k := by
  cases x <;> simp [sliceOf] at h
  case vec q =>
    split at h
    · rename_i k' hk'; split at h <;> simp at h
      obtain ⟨⟨rfl, rfl⟩, _⟩ := h; exact hk'
    · cases h
  case sl q es l1 l2 =>
    split at h
    · rename_i k' hk'; split at h <;> simp at h
      obtain ⟨⟨rfl, rfl⟩, _⟩ := h; exact hk'
    · cases h
theorem argOf_fz {row : Nat → Option Rw} {s : AS} {x : At} {e : Ex} {fr : List (Nat × Option Rw)} (h : argOf row s x = some (e, fr)) : FzOk row fr := by
  cases s with
  | ck k =>
    simp only [argOf, Option.map_eq_some_iff, Prod.mk.injEq] at h
    obtain ⟨e', h1, rfl, rfl⟩ := h
    exact fun q z hz => by cases hz
  | row el ks agg =>
    simp only [argOf] at h
    split at h
    · rename_i r k lo len hs
      have hk := sliceOf_src hs
      split at h
      · simp only [Option.some.injEq, Prod.mk.injEq] at h
        obtain ⟨rfl, rfl⟩ := h
        intro q z hz
        cases hown : k.own
        · rw [hown] at hz; simp at hz
        · rw [hown] at hz; simp at hz; obtain ⟨rfl, rfl⟩ := hz; exact ⟨k, hk, rfl⟩
      · cases h
    · cases h; exact fun q z hz => by cases hz
    · cases h
theorem argsOf_fz {row : Nat → Option Rw} : ∀ {ss : List AS} {xs : List At} {es : List Ex} {fr : List (Nat × Option Rw)}, argsOf row ss xs = some (es, fr) → FzOk row fr
  | [], [], es, fr, h => by simp [argsOf] at h; obtain ⟨rfl, rfl⟩ := h; exact fun q z hz => by cases hz
  | s :: ss, x :: xs, es, fr, h => by
    simp only [argsOf] at h
    split at h
    · rename_i h1 h2; cases h; exact (argOf_fz h1).append (argsOf_fz h2)
    · cases h
  | [], _ :: _, _, _, h => by simp [argsOf] at h
  | _ :: _, [], _, _, h => by simp [argsOf] at h
theorem argC_fz {row : Nat → Option Rw} {s : CS} {x : SV} {es : List Ex} {fr : List (Nat × Option Rw)} (h : argC row s x = some (es, fr)) : FzOk row fr := by
  unfold argC at h
  split at h
  · simp only [Option.map_eq_some_iff, Prod.mk.injEq] at h
    obtain ⟨⟨e, r⟩, h1, h2, rfl⟩ := h
    exact argOf_fz h1
  · exact argsOf_fz h
  · cases h
theorem argsC_fz {row : Nat → Option Rw} : ∀ {ss : List CS} {xs : List SV} {es : List Ex} {fr : List (Nat × Option Rw)}, argsC row ss xs = some (es, fr) → FzOk row fr
  | [], [], es, fr, h => by simp [argsC] at h; obtain ⟨rfl, rfl⟩ := h; exact fun q z hz => by cases hz
  | s :: ss, x :: xs, es, fr, h => by
    simp only [argsC] at h
    split at h
    · rename_i h1 h2; cases h; exact (argC_fz h1).append (argsC_fz h2)
    · cases h
  | [], _ :: _, _, _, h => by simp [argsC] at h
  | _ :: _, [], _, _, h => by simp [argsC] at h

/-- A call by its contract. -/
theorem call_ok (g : Good B w0 σ c a w) (hrd : RdOk σ c a rd) {pl : List TypeId} {cons : List Con} {Γ : Nat → List Sc → Option (List Sc)} (hΓ : ∀ con ∈ cons, con.holds P (Γ con.f))
    {r : OpR} (h : symOp P pl cons o rd = some r) {f : Nat} {es : List Ex} {n : Nat} (hc : r.call = some (f, es, n)) {rs : List Sc} (hF : Γ f (es.map (Ex.ev c.ρ)) = some rs) (hρ : ∀ i, i < rs.length → c.ρ.getD (rd.nv + i) (.i 0) = rs.getD i (.i 0))
    (hR : ∀ i, i ∈ r.nr → c.R i = none) :
    ∀ (K : Act → World → Prop) (Q : Exit → Act → World → Prop), (∀ v w' c', c.le c' → c'.β = c.β → (∀ i, i ∉ r.nr → c'.R i = c.R i) → r.val.rel c' v →
      Good B w0 { σ with blks := putBlks σ.blks r.blks, rows := putRows σ.rows r.rows } c' a w' → K (a.put o.dst v) w') → o.wp P a w K Q := by
  unfold symOp at h
  split at h
  rotate_left
  · split at h
    · split at h
      · rename_i h1; cases h; rw [h1] at hc; cases hc
      · cases h
    · cases h
  rename_i cl ho
  have hnone : ∀ {x : Option OpR}, x = some r → (∀ y, x = some y → y.call = none) → False := fun h1 h2 => by rw [h2 r h1] at hc; cases hc
  unfold symCall at h
  split at h
  · split at h
    · split at h
      · cases h; cases hc
      · simp only [Option.map_eq_some_iff] at h; obtain ⟨_, _, rfl⟩ := h; cases hc
      · cases h; cases hc
      · cases h
    · cases h
  · split at h
    · split at h
      · simp only [Option.map_eq_some_iff] at h; obtain ⟨_, _, rfl⟩ := h; cases hc
      · cases h
    · cases h
  · split at h
    · split at h
      · simp only [Option.map_eq_some_iff] at h; obtain ⟨_, _, rfl⟩ := h; cases hc
      · cases h
    · cases h
  · -- an append is no call
    exfalso
    split at h <;> (try (cases h; done))
    split at h <;> (try (cases h; done))
    split at h <;> (try (cases h; done))
    split at h <;> (try (cases h; done))
    split at h <;> (try (cases h; done))
    split at h <;> (try (cases h; done))
    · split at h <;> (try (cases h; done))
      split at h <;> (try (cases h; done))
      cases h; cases hc
    · cases h; cases hc
  · rename_i fo hcal
    split at h
    rotate_left
    · cases h
    rename_i gg hfo
    split at h
    rotate_left
    · cases h
    rename_i con hfind
    split at h
    rotate_left
    · cases h
    rename_i es' fr hargs
    simp only [Option.some.injEq] at h
    subst h
    simp only [Option.some.injEq, Prod.mk.injEq] at hc
    obtain ⟨rfl, rfl, hn⟩ := hc
    have hmem := List.mem_of_find?_eq_some hfind
    have hcf : con.f = gg := Nat.eq_of_beq_eq_true (by simpa using List.find?_some hfind)
    have hcon := hΓ con hmem
    have hfv := hrd.ev fo
    rw [hfo] at hfv
    obtain ⟨ns, hns, hfv⟩ := hfv
    have : ns = [] := by cases ns with | nil => rfl | cons => simp at hns
    subst this
    -- the rows handed on
    have hfz0 : FzOk σ.row fr := fun q z hz => by
      obtain ⟨k, hk, e⟩ := argsC_fz hargs q z hz
      exact ⟨k, hrd.row _ _ hk, e⟩
    obtain ⟨g1, hfr⟩ := Good.freezes g hfz0
    have hFz : Fz rd.row { σ with rows := putRows σ.rows fr } fr := fun q k hk hor => by
      rw [hfr q k (hrd.row _ _ hk)]
      by_cases hq : q ∈ fr.map (·.1)
      · rw [if_pos hq]
      · rw [if_neg hq]
        rcases hor with ho' | hm
        · congr 1; cases k; simp at ho'; subst ho'; rfl
        · exact absurd (List.mem_map_of_mem (f := (·.1)) hm) hq
    obtain ⟨hrel, _⟩ := argsC_spec g1 hargs hFz (vs := cl.args.toList.map a.eval) (by simp) (fun i h1 h2 => by simpa using hrd.ev _)
    rw [← hcf] at hF
    have hcon := hcon w (cl.args.toList.map a.eval) _ rs (csRelL_mono (fun _ _ => trivial) hrel) hF
    rw [hcf] at hcon
    have harr : (cl.args.toList.map a.eval).toArray = cl.args.map a.eval := by apply Array.ext'; simp
    rw [harr] at hcon
    intro K Q hK
    have post : ∀ v w', Below w.heap.size w w' ∧ rsRel w' (fun p => w.heap.size ≤ p ∨ csBlkL con.args (cl.args.toList.map a.eval) (es'.map (Ex.ev c.ρ)) p) con.res v rs → K (a.put o.dst v) w' := by
      rintro v w' ⟨hb, hres⟩
      have hok : ∀ p, (w.heap.size ≤ p ∨ csBlkL con.args (cl.args.toList.map a.eval) (es'.map (Ex.ev c.ρ)) p) → okIn B { σ with rows := putRows σ.rows fr } c p := by
        rintro p (hp | hp)
        · exact ⟨fun x hx => by have := (g1.lt_blk hx).2; omega, .inl (Nat.le_trans g.hB hp)⟩
        · exact csBlkL_ok hrel hp
      obtain ⟨c', d1, d2, d3, d4, d5⟩ := resR_spec (nv := rd.nv) (nr := rd.nr) (g1.call hb) hok hρ hres (fun i h1 h2 => hR i (by simp only; exact (resR_rows _ _ _ i).2 ⟨h1, h2⟩))
      refine hK v w' c' d5 d1 (fun i hi => d2 i ?_) d3 ?_
      · have : ¬ (rd.nr ≤ i ∧ i < (resR rd.nv rd.nr con.res).2.2.2) := fun hh => hi ((resR_rows _ _ _ i).2 hh)
        omega
      · rw [putRows_append]; exact d4
    rcases hcon with ⟨hrun, hcalls⟩ | ⟨v, w', hrun, hpost⟩
    · have hexec : (execOp a.eval o).run P w = .ok (.enter gg (cl.args.map a.eval)) w := by
        simp [execOp, ho, resolve, hcal, hfv, Deferred.ofValue, invoke, hrun]
      unfold Oper.wp
      rw [hexec]
      refine hcalls.mono ?_
      rintro e w' ⟨v, rfl, hpost⟩
      exact post v w' hpost
    · have hexec : (execOp a.eval o).run P w = .ok (.value v) w' := by
        simp [execOp, ho, resolve, hcal, hfv, Deferred.ofValue, invoke, hrun]
      unfold Oper.wp
      rw [hexec]
      exact post v w' hpost
  · cases h
end
end Go.Proofs.Ytfaghnapfkpdhaa
