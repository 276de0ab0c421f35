/-
  Sequences of operations.
-/
import Derived.Test.YtfaghnapfkpdhaaSymR
namespace Go.Proofs.Ytfaghnapfkpdhaa
open Go.RowKit

section
variable {Γ : Nat → List Sc → Option (List Sc)} {L : Type}
theorem withNeeds_wp {k : T L} {ρ : List Sc} {N : Nx} {Φ : L → List Sc → Nx → Prop} : ∀ {cs : List Ex}, (withNeeds cs k).wp Γ ρ N Φ → (∀ e ∈ cs, (e.ev ρ).bool = true) ∧ k.wp Γ ρ N Φ
  | [], h => ⟨fun _ h => (by cases h), h⟩
  | x :: cs, h => by
    unfold withNeeds at h
    split at h
    · rename_i h1; cases h1
    · rename_i h1; cases h1
      have := withNeeds_wp h
      exact ⟨fun e he => (List.mem_cons.1 he).elim (fun h => by rw [h]; rfl) (this.1 e), this.2⟩
    · rename_i h1; cases h1
      have := withNeeds_wp h.2
      exact ⟨fun e he => (List.mem_cons.1 he).elim (fun h' => by rw [h']; exact h.1) (this.1 e), this.2⟩
theorem splitG_wp {b : Bool} {r : OpR} {k : OpR → T L} {ρ : List Sc} {N : Nx} {Φ : L → List Sc → Nx → Prop} (h : (splitG b r k).wp Γ ρ N Φ) :
    ∃ sv, (k { r with val := sv }).wp Γ ρ N Φ ∧ ∀ c v, c.ρ = ρ → r.val.rel c v → sv.rel c v := by
  unfold splitG at h
  split at h
  · rename_i x hv
    refine ⟨_, h, fun c v _ hr => ?_⟩
    rw [hv] at hr; exact hr
  · rename_i e hv _
    simp only [T.wp] at h
    by_cases hb : (e.ev ρ).bool = true
    · rw [if_pos hb] at h
      refine ⟨_, h, fun c v hc hr => ?_⟩
      subst hc
      have hr : v = .bool (e.ev c.ρ).bool := by rename_i h1; rw [h1] at hr; exact hr
      show v = .bool true
      rw [hr, hb]
    · rw [if_neg hb] at h
      refine ⟨_, h, fun c v hc hr => ?_⟩
      subst hc
      have hr : v = .bool (e.ev c.ρ).bool := by rename_i h1; rw [h1] at hr; exact hr
      show v = .bool false
      rw [hr]; simpa using hb
  · exact ⟨r.val, h, fun _ _ _ hr => hr⟩
end

section
variable {P : Program} {B : Nat} {w0 : World} {σ : St} {c c0 : Ct} {a : Act} {w : World} {Γ : Nat → List Sc → Option (List Sc)}

theorem wanted_ok {ops : List Oper} {o : Oper} {b : Bool} (h : wantedS ops σ o = some b) (g : Good B w0 σ c a w) : Region.wanted o (yielded ops.toArray a.tmps) = b := by
  unfold wantedS at h
  unfold Region.wanted
  split at h
  · rename_i hg; cases h; rw [hg]
  · rename_i gi want hg
    rw [hg]
    simp only
    split at h
    · rename_i t ht
      have hs := g.slots t
      have hy : yielded ops.toArray a.tmps gi = match a.tmps[t]? with | some (.bool b) => some b | _ => none := by
        unfold yielded
        rw [List.getElem?_toArray, ht]; rfl
      rw [hy]
      split at h
      · rename_i x hx
        cases h
        rw [hx] at hs
        have hs : a.tmps.getD t undef = .bool x := hs
        cases ha : a.tmps[t]? with
        | none => simp [ha, undef] at hs
        | some v => simp [ha] at hs; subst hs; simp only; cases x <;> cases want <;> rfl
      · rename_i hx
        cases h
        rw [hx] at hs
        obtain ⟨vs, hv, _⟩ := hs
        cases ha : a.tmps[t]? with
        | none => rfl
        | some v => simp [ha] at hv; subst hv; rfl
      · cases h
    · cases h

/-- What a run rests on. -/
structure Cx.ok (X : Cx) (Γ : Nat → List Sc → Option (List Sc)) : Prop where
  mixed : X.P.follows .mixedOrders = true
  pl : PlainTy X.P X.pl
  cons : ∀ con ∈ X.cons, con.holds X.P (Γ con.f)
  ins : ∀ f, hasN X.ins f = true → ∀ args w, (callFunc f args).run X.P w = .ok (.enter f args) w

theorem hasN_mem {l : List Nat} {n : Nat} : hasN l n = true ↔ n ∈ l := by
  unfold hasN
  rw [List.any_eq_true]
  constructor
  · rintro ⟨x, hx, e⟩; rw [Nat.eq_of_beq_eq_true e]; exact hx
  · intro h; exact ⟨n, h, Nat.beq_refl n⟩

theorem after_is {σ : St} {c' : Ct} {o : Oper} {r : OpR} {sv : SV} {v : Value} {ρ' : List Sc} {N : Nx} {w' : World} (hsub : c0.sub c') (henv : c'.ρ = ρ') (hg : Good B w0 { σ with blks := putBlks σ.blks r.blks, rows := putRows σ.rows r.rows } c' a w') (hf : Fresh (σ.after o.dst r) c')
    (hn : (σ.after o.dst r).nv = ρ'.length) (hl : σ.lv = N.length) (hv : sv.rel c' v) : Is B w0 c0 c' (σ.after o.dst { r with val := sv }) ρ' N (a.put o.dst v) w' := by
  have := hg.put hv o.dst
  refine ⟨hsub, henv, ?_, ⟨hf.β, hf.R⟩, hn, hl⟩
  cases hd : o.dst with
  | none => rw [hd] at this; simp only [St.after]; exact ⟨this.below, this.hB, this.defers, this.size, this.slots, this.blks, this.rows, this.apart⟩
  | some d => rw [hd] at this; simp only [St.after]; exact ⟨this.below, this.hB, this.defers, this.size, this.slots, this.blks, this.rows, this.apart⟩

theorem step_sound {X : Cx} (hX : X.ok Γ) {ops : List Oper} {o : Oper} {ρ : List Sc} {N : Nx} (hi : Is B w0 c0 c σ ρ N a w) {r : OpR} (hr : stepR X ops σ o = some r) {L : Type} {k : T L} {Φ : L → List Sc → Nx → Prop} (h : (withR r k).wp Γ ρ N Φ) :
    ∃ ρ', (∃ r0, ρ' = ρ ++ r0) ∧ k.wp Γ ρ' N Φ ∧ ∀ (K : Act → World → Prop) (Q : Exit → Act → World → Prop),
      (∀ c' v w', c'.ρ = ρ' → r.val.rel c' v → (∀ sv, sv.rel c' v → Is B w0 c0 c' (σ.after o.dst { r with val := sv }) ρ' N (a.put o.dst v) w') → K (a.put o.dst v) w') → o.wp X.P a w K Q := by
  unfold stepR at hr
  split at hr
  rotate_left
  · cases hr
  rename_i r' hsym
  split at hr
  rotate_left
  · cases hr
  rename_i hc
  cases hr
  simp only [Bool.and_eq_true] at hc
  obtain ⟨hgood, hunder⟩ := hc
  simp only [goodR, Bool.and_eq_true, List.all_eq_true, List.any_eq_true] at hgood
  obtain ⟨hgb, hgr⟩ := hgood
  have hnb : ∀ i ∈ r.nb, i = σ.blks.length := fun i hi => Nat.eq_of_beq_eq_true (hgb i hi).1
  have hnr : ∀ i ∈ r.nr, σ.rows.length ≤ i := fun i hi => Nat.le_of_ble_eq_true (hgr i hi).1
  have howned : Owned r := ⟨fun i hi => by
    obtain ⟨x, hx, e⟩ := (hgb i hi).2
    exact ⟨x.2, by rw [← Nat.eq_of_beq_eq_true e]; exact hx⟩, fun i hi => by
    obtain ⟨x, hx, e⟩ := (hgr i hi).2
    exact List.mem_map.2 ⟨x, hx, Nat.eq_of_beq_eq_true e⟩⟩
  obtain ⟨hneeds, h⟩ := withNeeds_wp h
  have hkey : r.call = none ∨ ∃ f es n, r.call = some (f, es, n) := by cases r.call with | none => exact .inl rfl | some x => exact .inr ⟨x.1, x.2.1, x.2.2, rfl⟩
  rcases hkey with hcall | ⟨f, es, n, hcall⟩
  · rw [hcall] at h
    refine ⟨ρ, ⟨[], by simp⟩, h, fun K Q hK => ?_⟩
    have henv := hi.env
    subst henv
    obtain ⟨nx, w', v, c', hrun, hnx, hle, hβ, hR, hrel, hgood'⟩ := op_ok (o := o) hX.pl hi.good (rdOf_ok hi.good _ _ _ _) (fun i hi' => hi.fresh.β i (by rw [hnb i hi']; exact Nat.le_refl _)) (fun i hi' => hi.fresh.R i (hnr i hi')) hsym hcall hneeds
    have hfr : Fresh (σ.after o.dst r) c' := fresh_after hi.fresh howned hβ hR o.dst
    have hput : K (a.put o.dst v) w' := hK c' v w' hle.ρ hrel (fun sv hsv => after_is (hi.sub.trans hle.sub) hle.ρ hgood' hfr (by simp only [St.after, hcall]; exact hi.nv) hi.lv hsv)
    unfold Oper.wp
    rw [hrun]
    rcases hnx with rfl | ⟨rfl, rfl⟩
    · exact hput
    · exact hput
  · rw [hcall] at h
    simp only at h
    simp only [callOk, hcall, Bool.and_eq_true] at hunder
    obtain ⟨hunder, hesu⟩ := hunder
    obtain ⟨rs, hF, hlen, h⟩ := h
    refine ⟨ρ ++ rs, ⟨rs, rfl⟩, h, fun K Q hK => ?_⟩
    have henv := hi.env
    subst henv
    have hext : ∀ i, i < σ.nv → (c.ρ ++ rs).getD i (.i 0) = c.ρ.getD i (.i 0) := fun i h => getD_append_lt _ _ _ _ (by rw [← hi.nv]; exact h)
    have g2 : Good B w0 σ { c with ρ := c.ρ ++ rs } a w := hi.good.env hunder hext
    have hes : es.map (Ex.ev (c.ρ ++ rs)) = es.map (Ex.ev c.ρ) := evL_under hext hesu
    refine call_ok (o := o) g2 (rdOf_ok g2 _ _ _ _) hX.cons hsym hcall (rs := rs) (by rw [hes]; exact hF) (fun i hi' => by
      show (c.ρ ++ rs).getD (σ.nv + i) (.i 0) = _
      rw [hi.nv, List.getD_eq_getElem?_getD, List.getElem?_append_right (by omega), Nat.add_sub_cancel_left, ← List.getD_eq_getElem?_getD]) (fun i hi' => hi.fresh.R i (hnr i hi')) K Q ?_
    intro v w' c' hle hβ hR hrel hgood'
    have hfr : Fresh (σ.after o.dst r) c' := fresh_after (c := { c with ρ := c.ρ ++ rs }) ⟨hi.fresh.β, hi.fresh.R⟩ howned (fun i _ => by rw [hβ]) hR o.dst
    exact hK c' v w' hle.ρ hrel (fun sv hsv => after_is (hi.sub.trans ⟨hle.K, hle.β, hle.R⟩) hle.ρ hgood' hfr (by simp only [St.after, hcall, List.length_append, ← hi.nv, hlen]) hi.lv hsv)

theorem Good.regain {σ σ' : St} {c c' : Ct} {a : Act} {w w' : World} (g' : Good B w0 { σ' with slots := [] } c' a w') (g : Good B w0 σ c a w) (hu : σ.under = true) (hsub : c.sub c') {ρ' : List Sc} (henv : c'.ρ = ρ') {r : List Sc} (hρ : ρ' = c.ρ ++ r) (hnv : σ.nv = c.ρ.length) :
    Good B w0 { σ' with slots := σ.slots } c' a w' := by
  refine ⟨g'.below, g'.hB, g.defers, g.size, fun t => ?_, g'.blks, g'.rows, g'.apart⟩
  have g2 := g.env hu (ρ' := ρ') (fun i hi => by rw [hρ]; exact getD_append_lt _ _ _ _ (by omega))
  exact SV.rel_le (c := { c with ρ := ρ' }) ⟨henv, hsub.K, hsub.β, hsub.R⟩ (g2.slots t)

theorem inlOf_spec {X : Cx} {rd : Rd} {o : Oper} {g : Nat} {xs : List SV} (h : inlOf X rd o = some (g, xs)) :
    ∃ cl fo caps, o.op = .call cl ∧ cl.callee = .value fo ∧ rd.ev fo = .c (.a (.fn g caps)) ∧ hasN X.ins g = true ∧ xs = cl.args.toList.map rd.ev ++ caps.map fun p => SV.at (.ptr p 0) := by
  unfold inlOf at h
  split at h
  · rename_i cl ho
    split at h
    · rename_i fo hc
      split at h
      · rename_i g' caps hev
        split at h
        · cases h
        · split at h
          · cases h
          · rename_i hins
            simp only [Option.some.injEq, Prod.mk.injEq] at h
            obtain ⟨rfl, rfl⟩ := h
            exact ⟨cl, fo, caps, ho, hc, hev, by simpa using hins, rfl⟩
      · cases h
    · cases h
  · cases h

/-- A callee that is run in place does what its run says. -/
def InlOk (X : Cx) (Γ : Nat → List Sc → Option (List Sc)) (B : Nat) (w0 : World) (inl : Inl) : Prop :=
  ∀ (g : Nat) (xs : List SV) (σ : St) (ρ : List Sc) (N : Nx) (Φ : SV × St → List Sc → Nx → Prop) (c0 c : Ct) (a : Act) (w : World) (vs : List Value), (inl g xs σ).wp Γ ρ N Φ → Is B w0 c0 c σ ρ N a w → xs.length = vs.length →
    (∀ i (h1 : i < xs.length) (h2 : i < vs.length), (xs[i]).rel c (vs[i])) →
    Calls X.P g vs.toArray w fun e w' => ∃ v sv σ' r n c', e = .returned v ∧ Φ (sv, σ') (ρ ++ r) (N ++ n) ∧ sv.rel c' v ∧ (∀ a' : Act, a'.defers = [] → Is B w0 c c' { σ' with slots := [] } (ρ ++ r) (N ++ n) a' w')

theorem seq_sound {X : Cx} (hX : X.ok Γ) {inl : Inl} (hinl : InlOk X Γ B w0 inl) {ops : List Oper} : ∀ (rest : List Oper) (n : Nat) (σ : St) (ρ : List Sc) (N : Nx) (Φ : St → List Sc → Nx → Prop) (c0 c : Ct) (a : Act) (w : World) (Q : Exit → Act → World → Prop),
    (seqOps X inl ops rest n σ).wp Γ ρ N Φ → Is B w0 c0 c σ ρ N a w → (∀ σ' r n c' a' w', Φ σ' (ρ ++ r) (N ++ n) → Is B w0 c0 c' σ' (ρ ++ r) (N ++ n) a' w' → Q .normal a' w') → wpList X.P ops.toArray Q rest a w
  | [], n, σ, ρ, N, Φ, c0, c, a, w, Q, h, hi, hQ => by
    have := hQ σ [] [] c a w
    simp only [List.append_nil] at this
    exact this h hi
  | o :: rest, n, σ, ρ, N, Φ, c0, c, a, w, Q, h, hi, hQ => by
    unfold seqOps at h
    split at h
    · exact h.elim
    · rename_i hw
      have hwant := wanted_ok hw hi.good
      unfold wpList
      rw [if_neg (by rw [hwant]; simp)]
      refine seq_sound hX hinl rest (n + 1) _ ρ N Φ c0 c _ w Q h ?_ hQ
      exact after_is (r := skipR) hi.sub hi.env (hi.good.keep hi.good.below (Nat.le_refl _) fun _ _ => rfl) ⟨hi.fresh.β, hi.fresh.R⟩ hi.nv hi.lv ⟨[], rfl, trivial⟩
    · rename_i hw
      have hwant := wanted_ok hw hi.good
      unfold wpList
      rw [if_pos hwant]
      left
      simp only at h
      split at h
      · -- run in place
        rename_i g xs hinlof
        split at h
        rotate_left
        · exact h.elim
        rename_i hunder
        have h := T.wp_bind h
        obtain ⟨cl, fo, caps, ho, hcal, hev, hins, hxs⟩ := inlOf_spec hinlof
        have hrd := rdOf_ok hi.good (oTmps ops o) σ.nv σ.blks.length σ.rows.length
        have hf := hrd.ev fo
        have hf : (evS (fun t => cond (hasN (oTmps ops o) t) (σ.slot t) .top) fo).rel c (a.eval fo) := hf
        have hev : (evS (fun t => cond (hasN (oTmps ops o) t) (σ.slot t) .top) fo) = .c (.a (.fn g caps)) := hev
        rw [hev] at hf
        obtain ⟨ns, hns, hfv⟩ := hf
        have hrun : (execOp a.eval o).run X.P w = .ok (.enter g ((cl.args.toList.map a.eval) ++ ns.map fun n => Value.pointer (some ⟨n, 0, none⟩)).toArray) w := by
          have hcall := hX.ins g hins ((cl.args.toList.map a.eval) ++ ns.map fun n => Value.pointer (some ⟨n, 0, none⟩)).toArray w
          have harr : (cl.args.map a.eval) ++ (ns.map fun n => Value.pointer (some ⟨n, 0, none⟩)).toArray = ((cl.args.toList.map a.eval) ++ ns.map fun n => Value.pointer (some ⟨n, 0, none⟩)).toArray := by
            apply Array.ext'; simp
          rw [← harr] at hcall ⊢
          simp [execOp, ho, resolve, hcal, hfv, Deferred.ofValue, invoke, hcall]
        unfold Oper.wp
        rw [hrun]
        have hnl : ns.length = caps.length := by have := congrArg List.length hns; simpa using this.symm
        refine (hinl g xs σ ρ N _ c0 c a w _ h hi (by rw [hxs]; simp [hnl]) (fun i h1 h2 => ?_)).mono ?_
        · subst hxs
          rw [List.getElem_append, List.getElem_append]
          simp only [List.length_map, Array.length_toList]
          split
          · rename_i hlt
            simp only [List.getElem_map]
            exact hrd.ev _
          · rename_i hlt
            simp only [List.getElem_map]
            refine ⟨ns[i - cl.args.size]'(by simp at h2 hlt; omega), ?_, rfl⟩
            have h3 : i - cl.args.size < caps.length := by simp at h1 hlt; omega
            have := congrArg (fun l => l[i - cl.args.size]?) hns
            simp only [List.getElem?_map, List.getElem?_eq_getElem h3, List.getElem?_eq_getElem (by omega : i - cl.args.size < ns.length), Option.map_some, Option.some.injEq] at this
            exact this
        · rintro e w' ⟨v, sv, σ', r, m, c', rfl, hwp, hrel, his⟩
          obtain ⟨sv', h3, hsv⟩ := splitG_wp hwp
          have i1 := his a hi.good.defers
          have gg : Good B w0 { σ' with slots := σ.slots } c' a w' := i1.good.regain hi.good hunder i1.sub (ρ' := ρ ++ r) i1.env (by rw [hi.env]) (by rw [hi.env, hi.nv])
          refine seq_sound hX hinl rest (n + 1) _ (ρ ++ r) (N ++ m) Φ c0 c' _ w' Q h3 ?_ (fun σ2 r2 m2 c2 a2 w2 hΦ his2 => by
            rw [List.append_assoc, List.append_assoc] at hΦ
            rw [List.append_assoc, List.append_assoc] at his2
            exact hQ σ2 (r ++ r2) (m ++ m2) c2 a2 w2 hΦ his2)
          exact after_is (hi.sub.trans i1.sub) i1.env gg ⟨i1.fresh.β, i1.fresh.R⟩ i1.nv i1.lv (hsv c' v i1.env hrel)
      · split at h
        · exact h.elim
        · rename_i r hr
          obtain ⟨ρ', ⟨r0, rfl⟩, h2, hstep⟩ := step_sound hX hi hr h
          obtain ⟨sv, h3, hsv⟩ := splitG_wp h2
          refine hstep _ Q (fun c' v w' henv hrel his => ?_)
          exact seq_sound hX hinl rest (n + 1) _ (ρ ++ r0) N Φ c0 c' _ w' Q h3 (his sv (hsv c' v henv hrel)) (fun σ' r m c2 a2 w2 hΦ his2 => by
            rw [List.append_assoc] at hΦ his2
            exact hQ σ' (r0 ++ r) m c2 a2 w2 hΦ his2)
end
end Go.Proofs.Ytfaghnapfkpdhaa
