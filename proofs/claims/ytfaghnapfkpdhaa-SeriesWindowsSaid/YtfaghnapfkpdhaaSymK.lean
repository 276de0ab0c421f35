/-
  What an operation does: each of them, but calls of functions.
-/
import Derived.Test.YtfaghnapfkpdhaaSymJ
namespace Go.Proofs.Ytfaghnapfkpdhaa
open Go.RowKit

section
variable {P : Program} {B : Nat} {w0 : World} {σ : St} {c : Ct} {a : Act} {w : World} {o : Oper} {rd : Rd}

theorem mm_max : ∀ (l : List Operand) (k : IntKind) (e e' : Ex), mmL .max e (l.map rd.ev) = some e' → (∀ x, (rd.ev x).rel c (a.eval x)) →
    ((l.map a.eval).foldlM Builtin.max2 (.int k (e.ev c.ρ).int)).run P w = .ok (.int k (e'.ev c.ρ).int) w
  | [], k, e, e', h, _ => by simp [mmL] at h; subst h; rfl
  | x :: l, k, e, e', h, hr => by
    have hx := hr x
    simp only [List.map_cons] at h
    unfold mmL at h
    split at h
    · rename_i h1; cases h1
    · rename_i k' q r h2
      simp only [List.cons.injEq] at h2
      obtain ⟨h2, rfl⟩ := h2
      rw [h2] at hx
      have hx : a.eval x = .int k' (q.ev c.ρ).int := hx
      have ih := mm_max l k _ e' h hr
      rw [mk2_ev] at ih
      simp only [List.map_cons, List.foldlM_cons, hx, Builtin.max2, Sem.run_bind, Sem.run_pure, Result.andThen_ok]
      exact ih
    · cases h
theorem mm_min : ∀ (l : List Operand) (k : IntKind) (e e' : Ex), mmL .min e (l.map rd.ev) = some e' → (∀ x, (rd.ev x).rel c (a.eval x)) →
    ((l.map a.eval).foldlM Builtin.min2 (.int k (e.ev c.ρ).int)).run P w = .ok (.int k (e'.ev c.ρ).int) w
  | [], k, e, e', h, _ => by simp [mmL] at h; subst h; rfl
  | x :: l, k, e, e', h, hr => by
    have hx := hr x
    simp only [List.map_cons] at h
    unfold mmL at h
    split at h
    · rename_i h1; cases h1
    · rename_i k' q r h2
      simp only [List.cons.injEq] at h2
      obtain ⟨h2, rfl⟩ := h2
      rw [h2] at hx
      have hx : a.eval x = .int k' (q.ev c.ρ).int := hx
      have ih := mm_min l k _ e' h hr
      rw [mk2_ev] at ih
      simp only [List.map_cons, List.foldlM_cons, hx, Builtin.min2, Sem.run_bind, Sem.run_pure, Result.andThen_ok]
      exact ih
    · cases h

theorem builtin_ok (g : Good B w0 σ c a w) (hrd : RdOk σ c a rd) {cons : List Con} {cl : Call} (ho : o.op = .call cl) {r : OpR} (hfr : ∀ i ∈ r.nr, c.R i = none) (h : symCall P cons rd cl = some r) (hcall : r.call = none)
    (hn : ∀ e ∈ r.needs, (e.ev c.ρ).bool = true) : Does P B w0 σ c a w o r := by
  have h' := h
  unfold symCall at h
  split at h
  · -- len
    rename_i hc
    split at h
    · rename_i x t ts h1 h2
      have hargs : cl.args = #[x] := by rw [← h1]
      have ht : cl.argTypes[0]? = some t := by rw [← Array.getElem?_toList, h2]; rfl
      have hx := hrd.ev x
      have hexec : ∀ v', (Builtin.len_ cl.argTypes o.type #[a.eval x]).run P w = .ok v' w → (execOp a.eval o).run P w = .ok (.value v') w := fun v' he => by
        simp [execOp, ho, resolve, hc, hargs, invoke, builtin, he]
      split at h
      · rename_i e hu hev
        cases h
        rw [hev] at hx
        have hx : a.eval x = .string (e.ev c.ρ).str := hx
        exact Does.quiet g (hexec _ (by simp [Builtin.len_, ht, run_underlying hu, hx]; rfl)) (by show _ = _; rw [mk1_ev]; rfl)
      · rename_i el y hu
        simp only [Option.map_eq_some_iff] at h
        obtain ⟨⟨src, lo, len⟩, hs, rfl⟩ := h
        obtain ⟨ad, n, cap, hv, hl, _⟩ := sliceOf_spec g hrd.row hs hx
        exact Does.quiet g (hexec (.int .i64 n) (by simp [Builtin.len_, ht, run_underlying hu, hv, goInt])) (by show _ = _; rw [hl])
      · rename_i n el hu
        cases h
        exact Does.quiet g (hexec (.int .i64 n) (by
          have : ∀ v : Value, (Builtin.len_ cl.argTypes o.type #[v]).run P w = .ok (.int .i64 n) w := fun v => by cases v <;> simp [Builtin.len_, ht, run_underlying hu, goInt]
          exact this _)) rfl
      · cases h
    · cases h
  · -- max
    rename_i hc
    split at h
    · rename_i x l h1
      have hx := hrd.ev x
      split at h
      · rename_i k e hev
        simp only [Option.map_eq_some_iff] at h
        obtain ⟨e', h2, rfl⟩ := h
        rw [hev] at hx
        have hx : a.eval x = .int k (e.ev c.ρ).int := hx
        have := mm_max (P := P) (w := w) l k e e' h2 hrd.ev
        exact Does.quiet g (v := .int k (e'.ev c.ρ).int) (by simp [execOp, ho, resolve, hc, invoke, builtin, Builtin.max_, h1, hx, this]) rfl
      · cases h
    · cases h
  · -- min
    rename_i hc
    split at h
    · rename_i x l h1
      have hx := hrd.ev x
      split at h
      · rename_i k e hev
        simp only [Option.map_eq_some_iff] at h
        obtain ⟨e', h2, rfl⟩ := h
        rw [hev] at hx
        have hx : a.eval x = .int k (e.ev c.ρ).int := hx
        have := mm_min (P := P) (w := w) l k e e' h2 hrd.ev
        exact Does.quiet g (v := .int k (e'.ev c.ρ).int) (by simp [execOp, ho, resolve, hc, invoke, builtin, Builtin.min_, h1, hx, this]) rfl
      · cases h
    · cases h
  · rename_i hc
    exact append_ok g hrd hc ho hfr h' hn
  · -- a contract: not here
    split at h
    · split at h
      · split at h
        · cases h; cases hcall
        · cases h
      · cases h
    · cases h
  · cases h
end
end Go.Proofs.Ytfaghnapfkpdhaa
