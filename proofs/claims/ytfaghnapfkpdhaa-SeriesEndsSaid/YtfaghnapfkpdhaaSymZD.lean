/-
  A tree as a plain function.
-/
import Derived.Test.YtfaghnapfkpdhaaSymZC
namespace Go.Proofs.Ytfaghnapfkpdhaa
open Go.RowKit

def loopN (g : (List Sc → Option (List Sc)) → List Sc → Option (List Sc)) : Nat → List Sc → Option (List Sc)
  | 0, _ => none
  | n + 1, v => g (loopN g n) v
/-- More rounds than any loop has. -/
def rounds : Nat := 2 ^ 200
def T.den (Γ : Nat → List Sc → Option (List Sc)) : T (List Ex) → List Sc → List (List Sc → Option (List Sc)) → Option (List Sc)
  | .leaf es, ρ, _ => some (es.map (Ex.ev ρ))
  | .fail _, _, _ => none
  | .ite c p q, ρ, K => if (c.ev ρ).bool = true then p.den Γ ρ K else q.den Γ ρ K
  | .need c k, ρ, K => if (c.ev ρ).bool = true then k.den Γ ρ K else none
  | .call f es n k, ρ, K => match Γ f (es.map (Ex.ev ρ)) with
    | some rs => if rs.length = n then k.den Γ (ρ ++ rs) K else none
    | none => none
  | .loop ini body, ρ, K => loopN (fun rec v => body.den Γ (ρ ++ v) (K ++ [rec])) rounds (ini.map (Ex.ev ρ))
  | .next l vs, ρ, K => match K[l]? with
    | some k => k (vs.map (Ex.ev ρ))
    | none => none

theorem den_wp {Γ : Nat → List Sc → Option (List Sc)} {rs : List Sc} : ∀ (t : T (List Ex)) (ρ : List Sc) (K : List (List Sc → Option (List Sc))) (N : Nx), t.den Γ ρ K = some rs → K.length = N.length →
    (∀ (l : Nat) (k : List Sc → Option (List Sc)) (J : List Sc → Prop), K[l]? = some k → N[l]? = some J → ∀ v, k v = some rs → J v) → t.wp Γ ρ N fun es ρ' _ => es.map (Ex.ev ρ') = rs
  | .leaf es, ρ, K, N, h, _, _ => by simp only [T.den, Option.some.injEq] at h; exact h
  | .fail _, ρ, K, N, h, _, _ => by simp [T.den] at h
  | .ite c p q, ρ, K, N, h, hl, hk => by
    simp only [T.den] at h
    simp only [T.wp]
    split
    · rename_i hc; rw [if_pos hc] at h; exact den_wp p ρ K N h hl hk
    · rename_i hc; rw [if_neg hc] at h; exact den_wp q ρ K N h hl hk
  | .need c k, ρ, K, N, h, hl, hk => by
    simp only [T.den] at h
    by_cases hc : (c.ev ρ).bool = true
    · rw [if_pos hc] at h; exact ⟨hc, den_wp k ρ K N h hl hk⟩
    · rw [if_neg hc] at h; cases h
  | .call f es n k, ρ, K, N, h, hl, hk => by
    simp only [T.den] at h
    cases hg : Γ f (es.map (Ex.ev ρ)) with
    | none => simp [hg] at h
    | some r =>
      simp only [hg] at h
      by_cases hn : r.length = n
      · rw [if_pos hn] at h; exact ⟨r, hg, hn, den_wp k _ K N h hl hk⟩
      · rw [if_neg hn] at h; cases h
  | .loop ini body, ρ, K, N, h, hl, hk => by
    simp only [T.den] at h
    generalize hgg : (fun (rec : List Sc → Option (List Sc)) (v : List Sc) => body.den Γ (ρ ++ v) (K ++ [rec])) = g at h
    have hI : ∃ n, loopN g n (ini.map (Ex.ev ρ)) = some rs := ⟨_, h⟩
    refine ⟨fun v => ∃ n, loopN g n v = some rs, fun v => leastOf (fun n => loopN g n v = some rs), hI, fun v _ hv => ?_⟩
    obtain ⟨h1, h2⟩ := leastOf_spec hv
    generalize hm : leastOf (fun n => loopN g n v = some rs) = m at *
    cases m with
    | zero => simp [loopN] at h1
    | succ m =>
      have h1 : g (loopN g m) v = some rs := h1
      rw [← hgg] at h1
      refine den_wp body _ _ _ h1 (by simp [hl]) ?_
      intro l k J hkl hNl u hu
      rcases Nat.lt_trichotomy l K.length with hlt | heq | hgt
      · rw [List.getElem?_append_left hlt] at hkl
        rw [List.getElem?_append_left (by omega)] at hNl
        exact hk l k J hkl hNl u hu
      · subst heq
        rw [List.getElem?_append_right (Nat.le_refl _), Nat.sub_self] at hkl
        rw [hl, List.getElem?_append_right (Nat.le_refl _), Nat.sub_self] at hNl
        simp only [List.getElem?_cons_zero, Option.some.injEq] at hkl hNl
        subst hkl; subst hNl
        have hu : loopN g m u = some rs := by rw [← hgg]; exact hu
        exact ⟨⟨m, hu⟩, by rw [hm]; exact Nat.lt_succ_of_le ((leastOf_spec (p := fun n => loopN g n u = some rs) ⟨m, hu⟩).2 m hu)⟩
      · rw [List.getElem?_eq_none (by simp; omega)] at hkl; cases hkl
  | .next l vs, ρ, K, N, h, hl, hk => by
    simp only [T.den] at h
    simp only [T.wp]
    cases hK : K[l]? with
    | none => simp [hK] at h
    | some k =>
      simp only [hK] at h
      have hlt : l < N.length := by rw [← hl]; exact (List.getElem?_eq_some_iff.1 hK).1
      rw [List.getElem?_eq_getElem hlt]
      exact hk l k _ hK (List.getElem?_eq_getElem hlt) _ h

/-- A function of which a contract is known. -/
structure Known (P : Program) where
  con : Con
  F : List Sc → Option (List Sc)
  holds : con.holds P F
def gam {P : Program} : List (Known P) → Nat → List Sc → Option (List Sc)
  | [], _, _ => none
  | k :: r, f, l => if k.con.f = f then k.F l else gam r f l
theorem gam_ok {P : Program} : ∀ {L : List (Known P)}, (L.map (·.con.f)).Nodup → ∀ k ∈ L, gam L k.con.f = k.F
  | [], _, _, h => by cases h
  | k :: L, hd, x, hx => by
    simp only [List.map_cons, List.nodup_cons] at hd
    funext l
    simp only [gam]
    rcases List.mem_cons.1 hx with rfl | hx
    · rw [if_pos rfl]
    · rw [if_neg (fun e => hd.1 (List.mem_map.2 ⟨x, hx, e.symm⟩)), gam_ok hd.2 x hx]

/-- Every function is what its tree reckons. -/
def known {P : Program} (mixed : P.follows .mixedOrders = true) (L : List (Known P)) (hd : (L.map (·.con.f)).Nodup) (hs : List Hint) (pl : List TypeId) (hpl : PlainTy P pl) (ins : List FuncId) (hins : ∀ f, hasN ins f = true → ∀ args w, (callFunc f args).run P w = .ok (.enter f args) w)
    (d : Nat) (con : Con) (hcall : ∀ args w, (callFunc con.f args).run P w = .ok (.enter con.f args) w) (t : T (List Ex)) (ht : tree ⟨P, L.map (·.con), hs, pl, ins⟩ d con = t) : Known P where
  con := con
  F l := if l.length = CS.lens con.args then t.den (gam L) l [] else none
  holds := by
    have hX : Cx.ok ⟨P, L.map (·.con), hs, pl, ins⟩ (gam L) := ⟨mixed, hpl, fun c hc => by
      obtain ⟨k, hk, rfl⟩ := List.mem_map.1 hc
      rw [gam_ok hd k hk]; exact k.holds, hins⟩
    refine tree_holds hX d hcall fun l rs hl hF => ?_
    rw [ht]
    rw [if_pos hl] at hF
    exact den_wp t l [] [] hF rfl (fun l k J h => by simp at h)
end Go.Proofs.Ytfaghnapfkpdhaa
