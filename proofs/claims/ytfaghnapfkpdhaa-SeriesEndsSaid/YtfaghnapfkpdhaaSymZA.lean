/-
  Code: the run says what it does.
-/
import Derived.Test.YtfaghnapfkpdhaaSymZ
namespace Go.Proofs.Ytfaghnapfkpdhaa
open Go.RowKit

theorem T.bind_wp {Γ : Nat → List Sc → Option (List Sc)} {L M : Type} : ∀ {t : T L} {f : L → T M} {ρ : List Sc} {N : Nx} {Φ : M → List Sc → Nx → Prop}, t.wp Γ ρ N (fun x ρ' N' => (f x).wp Γ ρ' N' Φ) → (t.bind f).wp Γ ρ N Φ
  | .leaf x, f, ρ, N, Φ, h => h
  | .fail _, _, _, _, _, h => h
  | .ite c p q, f, ρ, N, Φ, h => by
    simp only [T.wp, T.bind] at h ⊢
    split
    · rename_i hc; rw [if_pos hc] at h; exact T.bind_wp h
    · rename_i hc; rw [if_neg hc] at h; exact T.bind_wp h
  | .need c t, f, ρ, N, Φ, h => ⟨h.1, T.bind_wp h.2⟩
  | .call g es n t, f, ρ, N, Φ, ⟨rs, h1, h2, h3⟩ => ⟨rs, h1, h2, T.bind_wp h3⟩
  | .loop ini t, f, ρ, N, Φ, ⟨I, μ, h1, h2⟩ => ⟨I, μ, h1, fun vals hl hI => T.bind_wp (h2 vals hl hI)⟩
  | .next l vs, _, _, _, _, h => h

def Xt.toExit : Xt → Exit | .norm => .normal | .exit n => .exit n | .ret => .ret

section
variable {B : Nat} {w0 : World} {Γ : Nat → List Sc → Option (List Sc)} {X : Cx}

/-- What follows code of which a run is known. -/
def After (B : Nat) (w0 : World) (Φ : Xt × St → List Sc → Nx → Prop) (c0 : Ct) (ρ : List Sc) (N : Nx) (Q : Exit → Act → World → Prop) : Prop :=
  ∀ e σ' r n c' a' w', Φ (e, σ') (ρ ++ r) (N ++ n) → Is B w0 c0 c' σ' (ρ ++ r) (N ++ n) a' w' → Q e.toExit a' w'
theorem After.ext {Φ : Xt × St → List Sc → Nx → Prop} {c0 : Ct} {ρ : List Sc} {N : Nx} {Q : Exit → Act → World → Prop} (h : After B w0 Φ c0 ρ N Q) (r : List Sc) (n : Nx) : After B w0 Φ c0 (ρ ++ r) (N ++ n) Q := fun e σ' r' n' c' a' w' hΦ hi => by
  rw [List.append_assoc, List.append_assoc] at hΦ hi
  exact h e σ' _ _ c' a' w' hΦ hi
theorem After.sub {Φ : Xt × St → List Sc → Nx → Prop} {c0 c : Ct} {ρ : List Sc} {N : Nx} {Q : Exit → Act → World → Prop} (h : After B w0 Φ c0 ρ N Q) (hs : c0.sub c) : After B w0 Φ c ρ N Q := fun e σ' r n c' a' w' hΦ hi =>
  h e σ' r n c' a' w' hΦ ⟨hs.trans hi.sub, hi.env, hi.good, hi.fresh, hi.nv, hi.lv⟩

theorem exec_sound (hX : X.ok Γ) {inl : Inl} (hinl : InlOk X Γ B w0 inl) (fk : Nat) : ∀ (code : Code) (σ : St) (ρ : List Sc) (N : Nx) (Φ : Xt × St → List Sc → Nx → Prop) (c0 c : Ct) (a : Act) (w : World) (Q : Exit → Act → World → Prop),
    (exec X inl fk code σ).wp Γ ρ N Φ → Is B w0 c0 c σ ρ N a w → After B w0 Φ c0 ρ N Q → code.wp X.P Q a w := by
  intro code
  induction code with
  | skip =>
    intro σ ρ N Φ c0 c a w Q h hi hQ
    refine wp_skip ?_
    have := hQ .norm σ [] [] c a w
    simp only [List.append_nil] at this
    exact this h hi
  | exit id =>
    intro σ ρ N Φ c0 c a w Q h hi hQ
    refine wp_exit ?_
    have := hQ (.exit id) σ [] [] c a w
    simp only [List.append_nil] at this
    exact this h hi
  | ret =>
    intro σ ρ N Φ c0 c a w Q h hi hQ
    refine wp_ret ?_
    have := hQ .ret σ [] [] c a w
    simp only [List.append_nil] at this
    exact this h hi
  | region id ops draw =>
    intro σ ρ N Φ c0 c a w Q h hi hQ
    simp only [exec] at h
    cases draw
    · simp only [cond_false] at h
      refine wp_region_list ?_
      exact seq_sound hX hinl ops.toList 0 σ ρ N _ c0 c a w Q (T.wp_bind h) hi (fun σ' r n c' a' w' hΦ his => hQ .norm σ' r n c' a' w' hΦ his)
    · simp only [cond_true] at h
      refine draw_sound hX (Φ := fun σ' ρ' N' => Φ (.norm, σ') ρ' N') (σ := σ) (ρ := ρ) (N := N) ?_ hi Q (fun σ' r c' a' w' hΦ his => ?_)
      · split
        · rename_i hu
          rw [if_pos hu] at h
          exact T.bind_wp (T.wp_mono (T.wp_bind h) (fun x r n hx => hx))
        · rename_i hu
          rw [if_neg hu] at h; exact h
      · have := hQ .norm σ' r [] c' a' w'
        simp only [List.append_nil] at this
        exact this hΦ his
  | seq x y ihx ihy =>
    intro σ ρ N Φ c0 c a w Q h hi hQ
    simp only [exec] at h
    refine wp_seq (ihx σ ρ N _ c0 c a w _ (T.wp_bind h) hi ?_)
    intro e σ' r n c' a' w' hΦ his
    cases e with
    | norm => exact ihy σ' _ _ Φ c0 c' a' w' Q hΦ his (hQ.ext r n)
    | exit id => exact hQ (.exit id) σ' r n c' a' w' hΦ his
    | ret => exact hQ .ret σ' r n c' a' w' hΦ his
  | cond o x y ihx ihy =>
    intro σ ρ N Φ c0 c a w Q h hi hQ
    simp only [exec] at h
    have hv := evS_rel hi.good.slots o
    split at h
    · rename_i he
      rw [he] at hv
      exact wp_cond_true hv (ihx σ ρ N Φ c0 c a w Q h hi hQ)
    · rename_i he
      rw [he] at hv
      exact wp_cond_false hv (ihy σ ρ N Φ c0 c a w Q h hi hQ)
    · rename_i e _ _ he
      rw [he] at hv
      have hv : a.eval o = .bool (e.ev c.ρ).bool := hv
      rw [hi.env] at hv
      simp only [T.wp] at h
      refine wp_cond_split hv (fun ht => ?_) (fun ht => ?_)
      · rw [if_pos ht] at h; exact ihx σ ρ N Φ c0 c a w Q h hi hQ
      · rw [if_neg (by rw [ht]; simp)] at h; exact ihy σ ρ N Φ c0 c a w Q h hi hQ
    · exact h.elim
  | block id x ih =>
    intro σ ρ N Φ c0 c a w Q h hi hQ
    simp only [exec] at h
    refine wp_block (ih σ ρ N _ c0 c a w _ (T.wp_bind h) hi ?_)
    intro e σ' r n c' a' w' hΦ his
    cases e with
    | norm => exact hQ .norm σ' r n c' a' w' hΦ his
    | exit id' =>
      have hΦ : Φ (cond (Nat.beq id' id) .norm (.exit id'), σ') (ρ ++ r) (N ++ n) := hΦ
      show if id' = id then Q .normal a' w' else Q (.exit id') a' w'
      by_cases he : id' = id
      · subst he
        rw [if_pos rfl]
        rw [Nat.beq_refl] at hΦ
        exact hQ .norm σ' r n c' a' w' hΦ his
      · rw [if_neg he]
        have hb : Nat.beq id' id = false := by
          cases hb : Nat.beq id' id
          · rfl
          · exact absurd (Nat.eq_of_beq_eq_true hb) he
        rw [hb] at hΦ
        exact hQ (.exit id') σ' r n c' a' w' hΦ his
    | ret => exact hQ .ret σ' r n c' a' w' hΦ his
  | loop x ih =>
    intro σ ρ N Φ c0 c a w Q h hi hQ
    simp only [exec] at h
    split at h
    · refine wp_loop_once (ih σ ρ N _ c0 c a w _ (T.wp_bind h) hi ?_)
      intro e σ' r n c' a' w' hΦ his
      cases e with
      | norm => exact hΦ.elim
      | exit id => exact hQ (.exit id) σ' r n c' a' w' hΦ his
      | ret => exact hQ .ret σ' r n c' a' w' hΦ his
    · rename_i hint hfind
      split at h
      rotate_left
      · exact h.elim
      rename_i tm ini ht
      split at h
      rotate_left
      · exact h.elim
      rename_i hc
      simp only [Bool.and_eq_true] at hc
      obtain ⟨⟨hu, hini⟩, _⟩ := hc
      obtain ⟨I, μ, hI0, hround⟩ := h
      obtain ⟨c1, s1, s2, s3, s4, s5, s6, s7, s8⟩ := template_sound hi ht hu hini
      have hmap : (ini.map (Ex.ev ρ)).length = ini.length := by simp
      refine wp_loop_ghost (fun m a w => ∃ vals c2, vals.length = ini.length ∧ I vals ∧ μ vals = m ∧ c.sub c2 ∧ c2.ρ = ρ ++ vals ∧ Good B w0 tm c2 a w ∧ Fresh tm c2) (μ (ini.map (Ex.ev ρ))) ⟨_, c1, hmap, hI0, rfl, s1, s2, s3, s4⟩ ?_
      rintro m a2 w2 ⟨vals, c2, hl, hI, rfl, hs, henv, hg, hf⟩
      refine ih tm (ρ ++ vals) _ _ c c2 a2 w2 _ (T.wp_bind (hround vals hl hI)) ⟨hs, henv, hg, hf, by rw [s6, hi.nv]; simp [hl], by rw [s5, hi.lv]; simp⟩ ?_
      intro e σ' r n c' a' w' hΦ his
      cases e with
      | norm =>
        simp only at hΦ
        split at hΦ
        · rename_i nx hb
          have hN : (N ++ [fun v => I v ∧ μ v < μ vals] ++ n)[σ.lv]? = some (fun v => I v ∧ μ v < μ vals) := by
            rw [hi.lv]; simp
          simp only [T.wp, hN] at hΦ
          rw [hi.nv] at hb
          obtain ⟨c3, b1, b2, b3, b4, b5⟩ := back_sound (σ0 := σ) (c := c) hb his.good (x := vals ++ r) (by rw [his.env, List.append_assoc]) his.sub hi.fresh s7.symm rfl
          refine ⟨_, hΦ.2, _, c3, ?_, hΦ.1, rfl, b1, ?_, b3, b4⟩
          · have := hi.nv
            simp; omega
          · rw [b2, his.env]
        · exact hΦ.elim
      | exit id =>
        have := (hQ.sub hi.sub) (.exit id) σ' (vals ++ r) ([fun v => I v ∧ μ v < μ vals] ++ n) c' a' w'
        rw [List.append_assoc, List.append_assoc] at hΦ his
        exact this hΦ his
      | ret =>
        have := (hQ.sub hi.sub) .ret σ' (vals ++ r) ([fun v => I v ∧ μ v < μ vals] ++ n) c' a' w'
        rw [List.append_assoc, List.append_assoc] at hΦ his
        exact this hΦ his
  | rangeFunc f ps x y _ _ => intro σ ρ N Φ c0 c a w Q h; simp only [exec] at h; exact h.elim
  | scope x _ => intro σ ρ N Φ c0 c a w Q h; simp only [exec] at h; exact h.elim
  | label l => intro σ ρ N Φ c0 c a w Q h; simp only [exec] at h; exact h.elim
  | refuse u => intro σ ρ N Φ c0 c a w Q h; simp only [exec] at h; exact h.elim
  | goto l => intro σ ρ N Φ c0 c a w Q h; simp only [exec] at h; exact h.elim
end
end Go.Proofs.Ytfaghnapfkpdhaa
