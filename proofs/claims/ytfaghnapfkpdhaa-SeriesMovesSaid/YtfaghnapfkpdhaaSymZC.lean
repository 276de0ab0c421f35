/-
  Functions: their trees give their contracts.
-/
import Derived.Test.YtfaghnapfkpdhaaSymZB
namespace Go.Proofs.Ytfaghnapfkpdhaa
open Go.RowKit

theorem asRel_blk {w : World} {ok : Nat → Prop} {s : AS} {v : Value} {x : Sc} (h : asRel w ok s v x) : asRel w (asBlk s v x) s v x := by
  cases s with
  | ck k => exact h
  | row el ks agg =>
    obtain ⟨ad, n, cap, rfl, h1, h2, h3, h4⟩ := h
    refine ⟨ad, n, cap, rfl, h1, h2, h3, fun j u hj => ?_⟩
    obtain ⟨p, o, e1, e2, _⟩ := h4 j u hj
    subst e1
    exact ⟨p, o, rfl, e2, rfl, Nat.lt_of_le_of_lt (Nat.zero_le _) (List.getElem?_eq_some_iff.1 hj).1⟩
theorem asRelL_blk {w : World} {ok : Nat → Prop} : ∀ {s : List AS} {v : List Value} {x : List Sc}, asRelL w ok s v x → asRelL w (asBlkL s v x) s v x
  | [], [], [], _ => trivial
  | _ :: _, _ :: _, _ :: _, h => ⟨asRel_mono (fun _ h => .inl h) (asRel_blk h.1), asRelL_mono (fun _ h => .inr h) (asRelL_blk h.2)⟩
  | [], [], _ :: _, h => h.elim
  | [], _ :: _, _, h => h.elim
  | _ :: _, [], _, h => h.elim
  | _ :: _, _ :: _, [], h => h.elim
theorem csRel_blk {w : World} {ok : Nat → Prop} {s : CS} {v : Value} {l : List Sc} (h : csRel w ok s v l) : csRel w (csBlk s v l) s v l := by
  cases s with
  | a s => obtain ⟨x, rfl, r⟩ := h; exact ⟨x, rfl, asRel_mono (fun _ h => ⟨x, rfl, h⟩) (asRel_blk r)⟩
  | g ss => obtain ⟨vs, rfl, r⟩ := h; exact ⟨vs, rfl, asRelL_mono (fun _ h => ⟨vs, rfl, h⟩) (asRelL_blk r)⟩
theorem csRelL_blk {w : World} {ok : Nat → Prop} : ∀ {s : List CS} {v : List Value} {l : List Sc}, csRelL w ok s v l → csRelL w (csBlkL s v l) s v l
  | [], [], _, h => h
  | _ :: _, _ :: _, _, ⟨l1, l2, rfl, r1, r2⟩ => ⟨l1, l2, rfl, csRel_mono (fun _ h => ⟨l1, l2, rfl, csRel_len r1, .inl h⟩) (csRel_blk r1), csRelL_mono (fun _ h => ⟨l1, l2, rfl, csRel_len r1, .inr h⟩) (csRelL_blk r2)⟩
  | [], _ :: _, _, h => h.elim
  | _ :: _, [], _, h => h.elim
def CS.lens (l : List CS) : Nat := (l.map CS.len).sum
theorem csRelL_len {w : World} {ok : Nat → Prop} : ∀ {s : List CS} {v : List Value} {l : List Sc}, csRelL w ok s v l → l.length = CS.lens s ∧ v.length = s.length
  | [], [], _, h => by have h : _ = [] := h; subst h; exact ⟨rfl, rfl⟩
  | _ :: _, _ :: _, _, ⟨l1, l2, e, r1, r2⟩ => by
    obtain ⟨i1, i2⟩ := csRelL_len r2
    subst e
    exact ⟨by simp [CS.lens, csRel_len r1, i1], by simp [i2]⟩
  | [], _ :: _, _, h => h.elim
  | _ :: _, [], _, h => h.elim
theorem resAs_nv : ∀ (ss : List AS) (nv nr : Nat), (resAs nv nr ss).2.2.1 = nv + ss.length
  | [], _, _ => rfl
  | s :: ss, nv, nr => by simp only [resAs]; rw [resAs_nv ss]; simp; omega
theorem resC_nv (s : CS) (nv nr : Nat) : (resC nv nr s).2.2.1 = nv + s.len := by
  cases s with
  | a s => rfl
  | g ss => exact resAs_nv ss nv nr
theorem resCs_nv : ∀ (ss : List CS) (nv nr : Nat), (resCs nv nr ss).2.2.1 = nv + CS.lens ss
  | [], _, _ => rfl
  | s :: ss, nv, nr => by simp only [resCs]; rw [resCs_nv ss, resC_nv]; simp [CS.lens]; omega

section
variable {B : Nat} {w0 : World} {σ : St} {c : Ct} {a : Act} {w : World}
theorem freeze_fz (g : Good B w0 σ c a w) {fr : List (Nat × Option Rw)} (h : FzOk σ.row fr) : ∃ σ' : St, Good B w0 σ' c a w ∧ Fz σ.row σ' fr := by
  obtain ⟨g2, h2⟩ := g.freezes (fr := fr) h
  refine ⟨_, g2, fun q k hq hk => ?_⟩
  rw [h2 q k hq]
  split
  · rfl
  · rename_i hn
    rcases hk with ho | hm
    · cases k; simp only at ho; subst ho; rfl
    · exact absurd (List.mem_map.2 ⟨_, hm, rfl⟩) hn
theorem outR_spec (g : Good B w0 σ c a w) {s : RS} {sv : SV} {es : List Ex} (h : outR σ s sv = some es) {v : Value} (hv : sv.rel c v) : rsRel w (fun p => B ≤ p ∨ c.K p) s v (es.map (Ex.ev c.ρ)) := by
  unfold outR at h
  split at h
  · obtain ⟨⟨es', fr⟩, h1, h2⟩ := Option.map_eq_some_iff.1 h
    simp only at h2; subst h2
    obtain ⟨σ', g2, hfz⟩ := freeze_fz g (argC_fz h1)
    exact csRel_mono (fun p hp => hp.2) (argC_spec g2 h1 hfz hv).1
  · rename_i ss xs
    obtain ⟨⟨es', fr⟩, h1, h2⟩ := Option.map_eq_some_iff.1 h
    simp only at h2; subst h2
    obtain ⟨σ', g2, hfz⟩ := freeze_fz g (argsC_fz h1)
    obtain ⟨vs, rfl, hr⟩ := hv
    refine ⟨vs, rfl, csRelL_mono (fun p hp => hp.2) (argsC_spec g2 h1 hfz (by simp [relC_len hr]) (fun i h1 h2 => ?_)).1⟩
    simp only [List.getElem_map]
    have h3 : i < xs.length := by simpa using h1
    obtain ⟨u, e, q⟩ := relC_get hr (List.getElem?_eq_getElem h3)
    rw [List.getElem?_eq_getElem h2] at e
    cases e; exact q
  · cases h
end

/-- A function's tree gives its contract. -/
theorem tree_holds {X : Cx} {Γ : Nat → List Sc → Option (List Sc)} (hX : X.ok Γ) {con : Con} {F : List Sc → Option (List Sc)} (d : Nat) (hcall : ∀ args w, (callFunc con.f args).run X.P w = .ok (.enter con.f args) w)
    (h : ∀ l rs, l.length = CS.lens con.args → F l = some rs → (tree X d con).wp Γ l [] fun es ρ' _ => es.map (Ex.ev ρ') = rs) : con.holds X.P F := by
  refine fun w vs l rs hargs hF => .inl ⟨hcall _ _, ?_⟩
  obtain ⟨hlen, hvl⟩ := csRelL_len hargs
  have ht := h l rs hlen hF
  unfold tree at ht
  generalize hres : resCs 0 0 con.args = res at ht
  obtain ⟨xs, rows, nv, nr⟩ := res
  simp only at ht
  have ht := T.wp_bind ht
  -- the start
  have hno : ∀ x p, ¬ St.owns ⟨nv, 0, [], [], []⟩ ⟨l, fun _ => none, fun _ => none, csBlkL con.args vs l⟩ x p := by
    rintro ⟨t, q⟩ p h
    cases t
    · obtain ⟨⟨k, hk⟩, _⟩ := h; cases hk
    · obtain ⟨⟨k, hk, _⟩, _⟩ := h; cases hk
  have g0 : Good w.heap.size w ⟨nv, 0, [], [], []⟩ ⟨l, fun _ => none, fun _ => none, csBlkL con.args vs l⟩ ⟨#[], []⟩ w :=
    ⟨.refl _ _, Nat.le_refl _, rfl, Nat.zero_le _, fun t => trivial, fun p k h => (by cases h), fun r k h => (by cases h), fun x y p hx _ => (hno x p hx).elim⟩
  obtain ⟨c1, e1, e2, e3, g1, x1⟩ := resCs_spec (ss := con.args) (nv := 0) (nr := 0) (ok := csBlkL con.args vs l) g0 (fun p hp => ⟨fun x => hno x p, .inr hp⟩) (fun i _ => by rw [Nat.zero_add]) (csRelL_blk hargs) (fun _ _ _ => rfl)
  rw [hres] at e2 e3 g1 x1
  have hnv : nv = l.length := by
    have := resCs_nv con.args 0 0
    rw [hres, Nat.zero_add] at this
    rw [hlen]; exact this
  have hc1 : c1.ρ = l := x1.le.ρ
  have hK : c1.K = csBlkL con.args vs l := x1.le.K
  refine (runF_sound (B := w.heap.size) (w0 := w) hX d con.f (xs.map .c) _ l [] _ c1 c1 ⟨#[], []⟩ w vs ht ⟨.refl _, hc1, g1, ⟨fun p _ => by rw [e1], fun r hr => ?_⟩, hnv, rfl⟩ (by simp [relC_len e3]) (fun i h1 h2 => ?_)).mono ?_
  · have hr : (putRows [] rows).length ≤ r := hr
    rw [e2 r (.inr ?_)]
    have hl := (putRows_length rows []).2
    rcases Nat.lt_or_ge r nr with hlt | hge
    · have hm := (resCs_rows con.args 0 0 r).2 ⟨Nat.zero_le _, by rw [hres]; exact hlt⟩
      rw [hres] at hm
      obtain ⟨z, hz, ez⟩ := List.mem_map.1 hm
      have := hl z hz
      omega
    · exact hge
  · simp only [List.getElem_map]
    have h3 : i < xs.length := by simpa using h1
    obtain ⟨u, e, q⟩ := relC_get e3 (List.getElem?_eq_getElem h3)
    rw [List.getElem?_eq_getElem h2] at e
    cases e; exact q
  · rintro e w' ⟨v, sv, σ', r, n, c', rfl, hΦ, hrel, his⟩
    simp only at hΦ
    split at hΦ
    · rename_i es hes
      have hi := his ⟨#[], []⟩ rfl
      refine ⟨v, rfl, hi.good.below, ?_⟩
      have hout := outR_spec hi.good (σ := { σ' with slots := [] }) hes hrel
      have hΦ : es.map (Ex.ev (l ++ r)) = rs := hΦ
      rw [hi.env, hΦ, hi.sub.K, hK] at hout
      exact hout
    · exact hΦ.elim
end Go.Proofs.Ytfaghnapfkpdhaa
