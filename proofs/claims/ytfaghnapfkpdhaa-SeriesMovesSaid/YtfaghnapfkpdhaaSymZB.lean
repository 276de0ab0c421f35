/-
  Functions: results, callees run in place.
-/
import Derived.Test.YtfaghnapfkpdhaaSymZA
namespace Go.Proofs.Ytfaghnapfkpdhaa
open Go.RowKit

section
variable {P : Program} {B : Nat} {w0 : World} {σ : St} {c : Ct} {a : Act} {w : World}

theorem resAt_run (g : Good B w0 σ c a w) {F : ResultVar → Sem Value} (h1 : ∀ t, F (.tmp t) = pure (a.tmps.getD t undef)) (h2 : ∀ t ty, F (.cell t ty) = (do loadVar ty (← asAddr (a.tmps.getD t undef)))) {r : ResultVar} {x : SC} (h : resAt P σ r = some x) :
    ∃ v, (F r).run P w = .ok v w ∧ x.rel c v := by
  unfold resAt at h
  split at h
  · rename_i t
    have hs := g.slots t
    unfold SV.sc at h
    split at h
    · rename_i y hy
      cases h
      rw [hy] at hs
      exact ⟨_, by rw [h1]; rfl, hs⟩
    · cases h
  · rename_i t ty
    split at h
    · rename_i p off hp
      split at h
      · rename_i k hk
        have hs := g.slots t
        rw [hp] at hs
        obtain ⟨n, hn, hv⟩ := hs
        obtain ⟨n', cs, e, hB, hh, hcs⟩ := g.blks p k hk
        rw [hn] at e; cases e
        obtain ⟨sv, hsv, hsc⟩ := Option.bind_eq_some_iff.1 h
        obtain ⟨v, hrun, hrel⟩ := loadVar_run (P := P) (w := w) (n := n) (base := 0) hsv hcs (fun j v hj => by
          unfold World.cell?
          simp [hh, hj])
        refine ⟨v, ?_, ?_⟩
        · rw [h2, hv]
          rw [Nat.zero_add] at hrun
          simpa [asAddr] using hrun
        · unfold SV.sc at hsc
          split at hsc
          · cases hsc; exact hrel
          · cases hsc
      · cases h
    · cases h
theorem resAts_run (g : Good B w0 σ c a w) {F : ResultVar → Sem Value} (h1 : ∀ t, F (.tmp t) = pure (a.tmps.getD t undef)) (h2 : ∀ t ty, F (.cell t ty) = (do loadVar ty (← asAddr (a.tmps.getD t undef)))) : ∀ {l : List ResultVar} {xs : List SC}, resAts P σ l = some xs →
    ∃ vs, (l.mapM F).run P w = .ok vs w ∧ relC c xs vs
  | [], xs, h => by
    simp only [resAts, Option.some.injEq] at h
    subst h
    exact ⟨[], by simp, trivial⟩
  | r :: rs, xs, h => by
    simp only [resAts] at h
    split at h
    · rename_i x xs' hx hxs
      cases h
      obtain ⟨v, e1, q1⟩ := resAt_run g h1 h2 hx
      obtain ⟨vs, e2, q2⟩ := resAts_run g h1 h2 hxs
      exact ⟨v :: vs, by simp [List.mapM_cons, e1, e2], q1, q2⟩
    · cases h
theorem relC_len {c : Ct} : ∀ {xs : List SC} {vs : List Value}, relC c xs vs → vs.length = xs.length
  | [], [], _ => rfl
  | _ :: _, _ :: _, h => by simp [relC_len h.2]
  | [], _ :: _, h => h.elim
  | _ :: _, [], h => h.elim
theorem resOf_run (g : Good B w0 σ c a w) {fn : Func} {sv : SV} (h : resOf P σ fn.results.toList = some sv) : ∃ v, (results fn a.tmps).run P w = .ok v w ∧ sv.rel c v := by
  obtain ⟨F, hF, h1, h2⟩ : ∃ F : ResultVar → Sem Value, results fn a.tmps = (do let vs ← fn.results.mapM F; pure (if h : vs.size = 1 then vs[0] else .tuple vs)) ∧ (∀ t, F (.tmp t) = pure (a.tmps.getD t undef)) ∧ (∀ t ty, F (.cell t ty) = (do loadVar ty (← asAddr (a.tmps.getD t undef)))) :=
    ⟨_, rfl, fun _ => rfl, fun _ _ => rfl⟩
  rw [hF]
  have hl : fn.results.mapM F = Functor.map List.toArray (fn.results.toList.mapM F) := by
    conv => lhs; rw [← Array.toArray_toList (xs := fn.results)]
    exact List.mapM_toArray ..
  rw [hl]
  unfold resOf at h
  split at h
  · rename_i x hx
    cases h
    obtain ⟨vs, e, q⟩ := resAts_run g h1 h2 hx
    have hlen := relC_len q
    match vs, q, hlen with
    | [v], q, _ => exact ⟨v, by simp [e], q.1⟩
  · rename_i xs hne hx
    cases h
    obtain ⟨vs, e, q⟩ := resAts_run g h1 h2 hx
    have hlen := relC_len q
    refine ⟨.tuple vs.toArray, ?_, vs, rfl, q⟩
    have : vs.length ≠ 1 := fun hh => by
      rw [hlen] at hh
      match xs, hh with
      | [x], _ => exact hne x rfl
    simp [e, this]
  · cases h
end

theorem undef_rel {c : Ct} : (SV.t []).rel c undef := ⟨[], rfl, trivial⟩
theorem runF_sound {X : Cx} {Γ : Nat → List Sc → Option (List Sc)} {B : Nat} {w0 : World} (hX : X.ok Γ) : ∀ d, InlOk X Γ B w0 (runF X d)
  | 0 => fun g xs σ ρ N Φ c0 c a w vs h => by simp only [runF] at h; exact h.elim
  | d + 1 => fun g xs σ ρ N Φ c0 c a w vs h hi hl hrel => by
    simp only [runF] at h
    split at h
    rotate_left
    · exact h.elim
    rename_i fn hfn
    split at h
    rotate_left
    · exact h.elim
    rename_i code hcode
    have h := T.wp_bind h
    have hlen : (vs.toArray ++ Array.replicate (fn.ntmps - vs.toArray.size) undef).size = (xs ++ List.replicate (fn.ntmps - xs.length) (SV.t [])).length := by simp [hl]
    refine calls_of_wp hfn hcode (exec_sound hX (runF_sound (B := B) (w0 := w0) hX d) g code _ ρ N _ c c { tmps := vs.toArray ++ Array.replicate (fn.ntmps - vs.toArray.size) undef, defers := [] } w _ h ⟨.refl _, hi.env, ⟨hi.good.below, hi.good.hB, rfl, by rw [hlen]; exact Nat.le_refl _, fun t => ?_, hi.good.blks, hi.good.rows, hi.good.apart⟩, ⟨hi.fresh.β, hi.fresh.R⟩, hi.nv, hi.lv⟩ ?_)
    · show ((xs ++ List.replicate (fn.ntmps - xs.length) (SV.t [])).getD t .top).rel c _
      by_cases ht : t < xs.length
      · have h2 : t < vs.length := by omega
        have := hrel t ht h2
        rw [getD_append_lt _ _ _ _ ht]
        simpa [List.getD_eq_getElem?_getD, List.getElem?_eq_getElem ht, Array.getElem?_append, h2] using this
      · by_cases ht2 : t < xs.length + (fn.ntmps - xs.length)
        · have e1 : (xs ++ List.replicate (fn.ntmps - xs.length) (SV.t [])).getD t .top = .t [] := by
            rw [List.getD_eq_getElem?_getD, List.getElem?_append_right (by omega), List.getElem?_replicate, if_pos (by omega)]; rfl
          have e2 : (vs.toArray ++ Array.replicate (fn.ntmps - vs.toArray.size) undef).getD t undef = undef := by
            rw [Array.getD_eq_getD_getElem?, Array.getElem?_append]
            split
            · simp at *; omega
            · rw [Array.getElem?_replicate]; split <;> rfl
          rw [e1]
          show (SV.t []).rel c ((vs.toArray ++ Array.replicate (fn.ntmps - vs.toArray.size) undef).getD t undef)
          rw [e2]; exact undef_rel
        · have e1 : (xs ++ List.replicate (fn.ntmps - xs.length) (SV.t [])).getD t .top = .top := by
            rw [List.getD_eq_getElem?_getD, List.getElem?_eq_none (by simp; omega)]; rfl
          rw [e1]; trivial
    · intro e σ' r n c' a' w' hΦ his
      have key : (match resOf X.P σ' fn.results.toList with | some v => T.leaf (v, σ') | none => T.fail "results").wp Γ (ρ ++ r) (N ++ n) Φ → a'.defers = [] ∧ ∃ v, (results fn a'.tmps).run X.P w' = .ok v w' ∧ ∃ v' sv σ' r n c', Ending.returned v = .returned v' ∧ Φ (sv, σ') (ρ ++ r) (N ++ n) ∧ sv.rel c' v' ∧ (∀ a' : Act, a'.defers = [] → Is B w0 c c' { σ' with slots := [] } (ρ ++ r) (N ++ n) a' w') := fun hk => by
        split at hk
        · rename_i sv hsv
          obtain ⟨v, hrun, hrv⟩ := resOf_run his.good hsv
          refine ⟨his.good.defers, v, hrun, v, sv, σ', r, n, c', rfl, hk, hrv, fun a2 ha2 => ⟨his.sub, his.env, ⟨his.good.below, his.good.hB, ha2, Nat.zero_le _, fun t => trivial, his.good.blks, his.good.rows, his.good.apart⟩, ⟨his.fresh.β, his.fresh.R⟩, his.nv, his.lv⟩⟩
        · exact hk.elim
      cases e with
      | norm => exact key hΦ
      | ret => exact key hΦ
      | exit id => exact hΦ.elim
end Go.Proofs.Ytfaghnapfkpdhaa
