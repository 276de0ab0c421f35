/-
  What a tree says; sequences of operations.
-/
import Derived.Test.YtfaghnapfkpdhaaSymQ
namespace Go.Proofs.Ytfaghnapfkpdhaa
open Go.RowKit

abbrev Nx := List (List Sc → Prop)
/-- What a tree says of its leaves. -/
def T.wp (Γ : Nat → List Sc → Option (List Sc)) {L : Type} : T L → List Sc → Nx → (L → List Sc → Nx → Prop) → Prop
  | .leaf x, ρ, N, Φ => Φ x ρ N
  | .fail _, _, _, _ => False
  | .ite c p q, ρ, N, Φ => if (c.ev ρ).bool = true then p.wp Γ ρ N Φ else q.wp Γ ρ N Φ
  | .need c k, ρ, N, Φ => (c.ev ρ).bool = true ∧ k.wp Γ ρ N Φ
  | .call f es n k, ρ, N, Φ => ∃ rs, Γ f (es.map (Ex.ev ρ)) = some rs ∧ rs.length = n ∧ k.wp Γ (ρ ++ rs) N Φ
  | .loop ini body, ρ, N, Φ => ∃ (I : List Sc → Prop) (μ : List Sc → Nat), I (ini.map (Ex.ev ρ)) ∧
      ∀ vals, vals.length = ini.length → I vals → body.wp Γ (ρ ++ vals) (N ++ [fun v => I v ∧ μ v < μ vals]) Φ
  | .next l vs, ρ, N, _ => match N[l]? with | some J => J (vs.map (Ex.ev ρ)) | none => False

section
variable {Γ : Nat → List Sc → Option (List Sc)} {L M : Type}
theorem T.wp_mono : ∀ {t : T L} {ρ : List Sc} {N : Nx} {Φ Ψ : L → List Sc → Nx → Prop}, t.wp Γ ρ N Φ → (∀ x r n, Φ x (ρ ++ r) (N ++ n) → Ψ x (ρ ++ r) (N ++ n)) → t.wp Γ ρ N Ψ
  | .leaf x, ρ, N, Φ, Ψ, h, k => by have := k x [] []; simp only [List.append_nil] at this; exact this h
  | .fail _, _, _, _, _, h, _ => h
  | .ite c p q, ρ, N, Φ, Ψ, h, k => by
    simp only [T.wp] at h ⊢
    split
    · rename_i hc; rw [if_pos hc] at h; exact T.wp_mono h k
    · rename_i hc; rw [if_neg hc] at h; exact T.wp_mono h k
  | .need c t, ρ, N, Φ, Ψ, h, k => ⟨h.1, T.wp_mono h.2 k⟩
  | .call f es n t, ρ, N, Φ, Ψ, ⟨rs, h1, h2, h3⟩, k => ⟨rs, h1, h2, T.wp_mono h3 (fun x r n h => by rw [List.append_assoc] at h ⊢; exact k x _ n h)⟩
  | .loop ini t, ρ, N, Φ, Ψ, ⟨I, μ, h1, h2⟩, k => ⟨I, μ, h1, fun vals hl hI => T.wp_mono (h2 vals hl hI) (fun x r n h => by rw [List.append_assoc, List.append_assoc] at h ⊢; exact k x _ _ h)⟩
  | .next l vs, _, _, _, _, h, _ => h
theorem T.wp_bind : ∀ {t : T L} {f : L → T M} {ρ : List Sc} {N : Nx} {Φ : M → List Sc → Nx → Prop}, (t.bind f).wp Γ ρ N Φ → t.wp Γ ρ N (fun x ρ' N' => (f x).wp Γ ρ' N' Φ)
  | .leaf x, f, ρ, N, Φ, h => h
  | .fail _, _, _, _, _, h => h
  | .ite c p q, f, ρ, N, Φ, h => by
    simp only [T.wp, T.bind] at h ⊢
    split
    · rename_i hc; rw [if_pos hc] at h; exact T.wp_bind h
    · rename_i hc; rw [if_neg hc] at h; exact T.wp_bind h
  | .need c t, f, ρ, N, Φ, h => ⟨h.1, T.wp_bind h.2⟩
  | .call g es n t, f, ρ, N, Φ, ⟨rs, h1, h2, h3⟩ => ⟨rs, h1, h2, T.wp_bind h3⟩
  | .loop ini t, f, ρ, N, Φ, ⟨I, μ, h1, h2⟩ => ⟨I, μ, h1, fun vals hl hI => T.wp_bind (h2 vals hl hI)⟩
  | .next l vs, _, _, _, _, h => h
end

/-- The place of a run: its state says what is in the world; what lay before (c0) has its place still. -/
structure Ct.sub (c0 c : Ct) : Prop where
  K : c.K = c0.K
  β : ∀ i n, c0.β i = some n → c.β i = some n
  R : ∀ i v, c0.R i = some v → c.R i = some v
theorem Ct.sub.refl (c : Ct) : c.sub c := ⟨rfl, fun _ _ h => h, fun _ _ h => h⟩
theorem Ct.sub.trans {x y z : Ct} (h : x.sub y) (k : y.sub z) : x.sub z := ⟨k.K.trans h.K, fun i n e => k.β i n (h.β i n e), fun i n e => k.R i n (h.R i n e)⟩
theorem Ct.le.sub {c c' : Ct} (h : c.le c') : c.sub c' := ⟨h.K, h.β, h.R⟩
structure Is (B : Nat) (w0 : World) (c0 c : Ct) (σ : St) (ρ : List Sc) (N : Nx) (a : Act) (w : World) : Prop where
  sub : c0.sub c
  env : c.ρ = ρ
  good : Good B w0 σ c a w
  fresh : Fresh σ c
  nv : σ.nv = ρ.length
  lv : σ.lv = N.length

theorem putBlks_length : ∀ (r : List (Nat × Option Bk)) (l : List (Option Bk)), l.length ≤ (putBlks l r).length ∧ ∀ x ∈ r, x.1 < (putBlks l r).length
  | [], l => ⟨Nat.le_refl _, fun _ h => by cases h⟩
  | (i, v) :: r, l => by
    have ih := putBlks_length r (setN none l i v)
    have hl := setN_length none l i v
    refine ⟨by simp only [putBlks]; omega, fun x hx => ?_⟩
    rcases List.mem_cons.1 hx with rfl | hx
    · simp only [putBlks]; omega
    · exact ih.2 x hx
theorem putRows_length : ∀ (r : List (Nat × Option Rw)) (l : List (Option Rw)), l.length ≤ (putRows l r).length ∧ ∀ x ∈ r, x.1 < (putRows l r).length
  | [], l => ⟨Nat.le_refl _, fun _ h => by cases h⟩
  | (i, v) :: r, l => by
    have ih := putRows_length r (setN none l i v)
    have hl := setN_length none l i v
    refine ⟨by simp only [putRows]; omega, fun x hx => ?_⟩
    rcases List.mem_cons.1 hx with rfl | hx
    · simp only [putRows]; omega
    · exact ih.2 x hx

section
variable {P : Program} {B : Nat} {w0 : World} {σ : St} {c c0 : Ct} {a : Act} {w : World}

/-- The new blocks and rows of an operation stand among what it writes. -/
def Owned (r : OpR) : Prop := (∀ i ∈ r.nb, ∃ k, (i, k) ∈ r.blks) ∧ (∀ i ∈ r.nr, i ∈ r.rows.map (·.1))
theorem fresh_after (hf : Fresh σ c) {c' : Ct} {r : OpR} (ho : Owned r) (hβ : ∀ i, i ∉ r.nb → c'.β i = c.β i) (hR : ∀ i, i ∉ r.nr → c'.R i = c.R i) (dst : Option Tmp) : Fresh (σ.after dst r) c' := by
  have l1 := putBlks_length r.blks σ.blks
  have l2 := putRows_length r.rows σ.rows
  refine ⟨fun p hp => ?_, fun q hq => ?_⟩
  · have hp : (putBlks σ.blks r.blks).length ≤ p := hp
    rw [hβ p (fun hm => by
      obtain ⟨k, hk⟩ := ho.1 p hm
      have := l1.2 _ hk
      simp only at this; omega)]
    exact hf.β p (by omega)
  · have hq : (putRows σ.rows r.rows).length ≤ q := hq
    rw [hR q (fun hm => by
      obtain ⟨x, hx, e⟩ := List.mem_map.1 (ho.2 q hm)
      have := l2.2 _ hx
      rw [e] at this; omega)]
    exact hf.R q (by omega)
end
end Go.Proofs.Ytfaghnapfkpdhaa
