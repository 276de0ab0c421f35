/-
  Sequences of operations.
  Regions that draw their order: what lies in a place behind some of the operations.
  Regions that draw their order: the plan, and that every order follows it.
  Regions that draw their order: every order follows the plan.
  Regions that draw their order: the whole.
-/
import Derived.Test.YtkjgcalkkfgmlaaDoorSymN
import Derived.StillTail
import Derived.Lib.UnsafeStr
namespace Go.Proofs.YtkjgcalkkfgmlaaDoor
open Go.RowKit

section
variable {Γ : Nat → List Sc → Option (List Sc)} {L : Type}
theorem withNeeds_wp {k : T L} {ρ : List Sc} {N : Nx} {Φ : L → List Sc → Nx → Prop} : ∀ {cs : List Ex}, (withNeeds cs k).wp Γ ρ N Φ → (∀ e ∈ cs, (e.ev ρ).bool = true) ∧ k.wp Γ ρ N Φ
  | [], h => ⟨fun _ h => (by cases h), h⟩
  | x :: cs, h => by
    unfold withNeeds at h
    split at h
    · rename_i h1; cases h1
    · rename_i h1; cases h1
      have := withNeeds_wp h
      exact ⟨fun e he => (List.mem_cons.1 he).elim (fun h => by rw [h]; rfl) (this.1 e), this.2⟩
    · rename_i h1; cases h1
      have := withNeeds_wp h.2
      exact ⟨fun e he => (List.mem_cons.1 he).elim (fun h' => by rw [h']; exact h.1) (this.1 e), this.2⟩
theorem splitG_wp {b : Bool} {r : OpR} {k : OpR → T L} {ρ : List Sc} {N : Nx} {Φ : L → List Sc → Nx → Prop} (h : (splitG b r k).wp Γ ρ N Φ) :
    ∃ sv, (k { r with val := sv }).wp Γ ρ N Φ ∧ ∀ c v, c.ρ = ρ → r.val.rel c v → sv.rel c v := by
  unfold splitG at h
  split at h
  · rename_i x hv
    refine ⟨_, h, fun c v _ hr => ?_⟩
    rw [hv] at hr; exact hr
  · rename_i e hv _
    simp only [T.wp] at h
    by_cases hb : (e.ev ρ).bool = true
    · rw [if_pos hb] at h
      refine ⟨_, h, fun c v hc hr => ?_⟩
      subst hc
      have hr : v = .bool (e.ev c.ρ).bool := by rename_i h1; rw [h1] at hr; exact hr
      show v = .bool true
      rw [hr, hb]
    · rw [if_neg hb] at h
      refine ⟨_, h, fun c v hc hr => ?_⟩
      subst hc
      have hr : v = .bool (e.ev c.ρ).bool := by rename_i h1; rw [h1] at hr; exact hr
      show v = .bool false
      rw [hr]; simpa using hb
  · exact ⟨r.val, h, fun _ _ _ hr => hr⟩
end

section
variable {P : Program} {B : Nat} {w0 : World} {σ : St} {c c0 : Ct} {a : Act} {w : World} {Γ : Nat → List Sc → Option (List Sc)}

theorem wanted_ok {ops : List Oper} {o : Oper} {b : Bool} (h : wantedS ops σ o = some b) (g : Good B w0 σ c a w) : Region.wanted o (yielded ops.toArray a.tmps) = b := by
  unfold wantedS at h
  unfold Region.wanted
  split at h
  · rename_i hg; cases h; rw [hg]
  · rename_i gi want hg
    rw [hg]
    simp only
    split at h
    · rename_i t ht
      have hs := g.slots t
      have hy : yielded ops.toArray a.tmps gi = match a.tmps[t]? with | some (.bool b) => some b | _ => none := by
        unfold yielded
        rw [List.getElem?_toArray, ht]; rfl
      rw [hy]
      split at h
      · rename_i x hx
        cases h
        rw [hx] at hs
        have hs : a.tmps.getD t undef = .bool x := hs
        cases ha : a.tmps[t]? with
        | none => simp [ha, undef] at hs
        | some v => simp [ha] at hs; subst hs; simp only; cases x <;> cases want <;> rfl
      · rename_i hx
        cases h
        rw [hx] at hs
        obtain ⟨vs, hv, _⟩ := hs
        cases ha : a.tmps[t]? with
        | none => rfl
        | some v => simp [ha] at hv; subst hv; rfl
      · cases h
    · cases h

/-- What copyCheck and String of strings.Builder do. -/
structure Bd.ok (P : Program) (b : Bd) : Prop where
  cc : ∀ (n : Nat) (p y : Value) (w : World), w.heap[n]? = some (.cells #[p, y] b.ty (0, 0)) → (p = .pointer none ∨ p = .pointer (some ⟨n, 0, none⟩)) →
    Calls P b.cc #[.pointer (some ⟨n, 0, none⟩)] w fun e w' => e = .returned (.tuple #[]) ∧ w'.heap.size = w.heap.size ∧ w'.heap[n]? = some (.cells #[.pointer (some ⟨n, 0, none⟩), y] b.ty (0, 0)) ∧ (∀ m, m ≠ n → w'.heap[m]? = w.heap[m]?) ∧ ∀ B w0, Below B w0 w → B ≤ n → Below B w0 w'
  sf : ∀ (n g cap : Nat) (p : Value) (l : List UInt8) (cur : Array Value) (w : World), l ≠ [] → w.heap[n]? = some (.cells #[p, .slice (some ⟨g, 0, none⟩) l.length cap] b.ty (0, 0)) →
    w.heap[g]? = some (.cells cur b.bt (0, 0)) → l.length ≤ cap → cap ≤ maxLen → cur.size = cap → cur.toList.take l.length = Lib.byteCells l →
    Calls P b.sf #[.pointer (some ⟨n, 0, none⟩)] w fun e w' => e = .returned (.string ⟨l.toArray⟩) ∧ w'.heap.size = w.heap.size ∧ (∀ m, m ≠ g → w'.heap[m]? = w.heap[m]?) ∧ ∀ B w0, Below B w0 w → B ≤ g → Below B w0 w'
/-- What a run rests on. -/
structure Cx.ok (X : Cx) (Γ : Nat → List Sc → Option (List Sc)) (B : Nat) (w0 : World) : Prop where
  mixed : X.P.follows .mixedOrders = true
  pl : PlainTy X.P X.pl
  cons : ∀ con ∈ X.cons, ∀ w, Below B w0 w → con.holdsAt X.P (Γ con.f) w
  ins : ∀ f, hasN X.ins f = true → ∀ args w, (callFunc f args).run X.P w = .ok (.enter f args) w
  bd : ∀ b, X.bd = some b → b.ok X.P

theorem hasN_mem {l : List Nat} {n : Nat} : hasN l n = true ↔ n ∈ l := by
  unfold hasN
  rw [List.any_eq_true]
  constructor
  · rintro ⟨x, hx, e⟩; rw [Nat.eq_of_beq_eq_true e]; exact hx
  · intro h; exact ⟨n, h, Nat.beq_refl n⟩

theorem after_is {σ : St} {c' : Ct} {o : Oper} {r : OpR} {sv : SV} {v : Value} {ρ' : List Sc} {N : Nx} {w' : World} (hsub : c0.sub c') (henv : c'.ρ = ρ') (hg : Good B w0 { σ with blks := putBlks σ.blks r.blks, rows := putRows σ.rows r.rows } c' a w') (hf : Fresh (σ.after o.dst r) c')
    (hn : (σ.after o.dst r).nv = ρ'.length) (hl : σ.lv = N.length) (hv : sv.rel c' v) : Is B w0 c0 c' (σ.after o.dst { r with val := sv }) ρ' N (a.put o.dst v) w' := by
  have := hg.put hv o.dst
  refine ⟨hsub, henv, ?_, ⟨hf.β, hf.R⟩, hn, hl⟩
  cases hd : o.dst with
  | none => rw [hd] at this; simp only [St.after]; exact ⟨this.below, this.hB, this.defers, this.size, this.slots, this.blks, this.rows, this.apart⟩
  | some d => rw [hd] at this; simp only [St.after]; exact ⟨this.below, this.hB, this.defers, this.size, this.slots, this.blks, this.rows, this.apart⟩

theorem step_sound {X : Cx} (hX : X.ok Γ B w0) {ops : List Oper} {o : Oper} {ρ : List Sc} {N : Nx} (hi : Is B w0 c0 c σ ρ N a w) {r : OpR} (hr : stepR X ops σ o = some r) {L : Type} {k : T L} {Φ : L → List Sc → Nx → Prop} (h : (withR r k).wp Γ ρ N Φ) :
    ∃ ρ', (∃ r0, ρ' = ρ ++ r0) ∧ k.wp Γ ρ' N Φ ∧ ∀ (K : Act → World → Prop) (Q : Exit → Act → World → Prop),
      (∀ c' v w', c'.ρ = ρ' → r.val.rel c' v → (∀ sv, sv.rel c' v → Is B w0 c0 c' (σ.after o.dst { r with val := sv }) ρ' N (a.put o.dst v) w') → K (a.put o.dst v) w') → o.wp X.P a w K Q := by
  unfold stepR at hr
  split at hr
  rotate_left
  · cases hr
  rename_i r' hsym
  split at hr
  rotate_left
  · cases hr
  rename_i hc
  cases hr
  simp only [Bool.and_eq_true] at hc
  obtain ⟨hgood, hunder⟩ := hc
  simp only [goodR, Bool.and_eq_true, List.all_eq_true, List.any_eq_true] at hgood
  obtain ⟨hgb, hgr⟩ := hgood
  have hnb : ∀ i ∈ r.nb, i = σ.blks.length := fun i hi => Nat.eq_of_beq_eq_true (hgb i hi).1
  have hnr : ∀ i ∈ r.nr, σ.rows.length ≤ i := fun i hi => Nat.le_of_ble_eq_true (hgr i hi).1
  have howned : Owned r := ⟨fun i hi => by
    obtain ⟨x, hx, e⟩ := (hgb i hi).2
    exact ⟨x.2, by rw [← Nat.eq_of_beq_eq_true e]; exact hx⟩, fun i hi => by
    obtain ⟨x, hx, e⟩ := (hgr i hi).2
    exact List.mem_map.2 ⟨x, hx, Nat.eq_of_beq_eq_true e⟩⟩
  obtain ⟨hneeds, h⟩ := withNeeds_wp h
  have hkey : r.call = none ∨ ∃ f es n, r.call = some (f, es, n) := by cases r.call with | none => exact .inl rfl | some x => exact .inr ⟨x.1, x.2.1, x.2.2, rfl⟩
  rcases hkey with hcall | ⟨f, es, n, hcall⟩
  · rw [hcall] at h
    refine ⟨ρ, ⟨[], by simp⟩, h, fun K Q hK => ?_⟩
    have henv := hi.env
    subst henv
    obtain ⟨nx, w', v, c', hrun, hnx, hle, hβ, hR, hrel, hgood'⟩ := op_ok (o := o) hX.pl hi.good (rdOf_ok hi.good _ _ _ _ _) (fun i hi' => hi.fresh.β i (by rw [hnb i hi']; exact Nat.le_refl _)) (fun i hi' => hi.fresh.R i (hnr i hi')) hsym hcall hneeds
    have hfr : Fresh (σ.after o.dst r) c' := fresh_after hi.fresh howned hβ hR o.dst
    have hput : K (a.put o.dst v) w' := hK c' v w' hle.ρ hrel (fun sv hsv => after_is (hi.sub.trans hle.sub) hle.ρ hgood' hfr (by simp only [St.after, hcall]; exact hi.nv) hi.lv hsv)
    unfold Oper.wp
    rw [hrun]
    rcases hnx with rfl | ⟨rfl, rfl⟩
    · exact hput
    · exact hput
  · rw [hcall] at h
    simp only at h
    simp only [callOk, hcall, Bool.and_eq_true] at hunder
    obtain ⟨hunder, hesu⟩ := hunder
    obtain ⟨rs, hF, hlen, h⟩ := h
    refine ⟨ρ ++ rs, ⟨rs, rfl⟩, h, fun K Q hK => ?_⟩
    have henv := hi.env
    subst henv
    have hext : ∀ i, i < σ.nv → (c.ρ ++ rs).getD i (.i 0) = c.ρ.getD i (.i 0) := fun i h => getD_append_lt _ _ _ _ (by rw [← hi.nv]; exact h)
    have g2 : Good B w0 σ { c with ρ := c.ρ ++ rs } a w := hi.good.env hunder hext
    have hes : es.map (Ex.ev (c.ρ ++ rs)) = es.map (Ex.ev c.ρ) := evL_under hext hesu
    refine call_ok (o := o) g2 (rdOf_ok g2 _ _ _ _ _) hX.cons hsym hcall (rs := rs) (by rw [hes]; exact hF) (fun i hi' => by
      show (c.ρ ++ rs).getD (σ.nv + i) (.i 0) = _
      rw [hi.nv, List.getD_eq_getElem?_getD, List.getElem?_append_right (by omega), Nat.add_sub_cancel_left, ← List.getD_eq_getElem?_getD]) (fun i hi' => hi.fresh.R i (hnr i hi')) K Q ?_
    intro v w' c' hle hβ hR hrel hgood'
    have hfr : Fresh (σ.after o.dst r) c' := fresh_after (c := { c with ρ := c.ρ ++ rs }) ⟨hi.fresh.β, hi.fresh.R⟩ howned (fun i _ => by rw [hβ]) hR o.dst
    exact hK c' v w' hle.ρ hrel (fun sv hsv => after_is (hi.sub.trans ⟨hle.K, hle.β, hle.R⟩) hle.ρ hgood' hfr (by simp only [St.after, hcall, List.length_append, ← hi.nv, hlen]) hi.lv hsv)

theorem Good.regain {σ σ' : St} {c c' : Ct} {a : Act} {w w' : World} (g' : Good B w0 { σ' with slots := [] } c' a w') (g : Good B w0 σ c a w) (hu : σ.under = true) (hsub : c.sub c') {ρ' : List Sc} (henv : c'.ρ = ρ') {r : List Sc} (hρ : ρ' = c.ρ ++ r) (hnv : σ.nv = c.ρ.length) :
    Good B w0 { σ' with slots := σ.slots } c' a w' := by
  refine ⟨g'.below, g'.hB, g.defers, g.size, fun t => ?_, g'.blks, g'.rows, g'.apart⟩
  have g2 := g.env hu (ρ' := ρ') (fun i hi => by rw [hρ]; exact getD_append_lt _ _ _ _ (by omega))
  exact SV.rel_le (c := { c with ρ := ρ' }) ⟨henv, hsub.K, hsub.β, hsub.R⟩ (g2.slots t)

theorem inlOf_spec {X : Cx} {rd : Rd} {o : Oper} {g : Nat} {xs : List SV} (h : inlOf X rd o = some (g, xs)) :
    ∃ cl fo caps, o.op = .call cl ∧ cl.callee = .value fo ∧ rd.ev fo = .c (.a (.fn g caps)) ∧ hasN X.ins g = true ∧ xs = cl.args.toList.map rd.ev ++ caps.map fun p => SV.at (.ptr p 0) := by
  unfold inlOf at h
  split at h
  · rename_i cl ho
    split at h
    · rename_i fo hc
      split at h
      · rename_i g' caps hev
        split at h
        · cases h
        · split at h
          · cases h
          · rename_i hins
            simp only [Option.some.injEq, Prod.mk.injEq] at h
            obtain ⟨rfl, rfl⟩ := h
            exact ⟨cl, fo, caps, ho, hc, hev, by simpa using hins, rfl⟩
      · cases h
    · cases h
  · cases h

/-- A callee that is run in place does what its run says. -/
def InlOk (X : Cx) (Γ : Nat → List Sc → Option (List Sc)) (B : Nat) (w0 : World) (inl : Inl) : Prop :=
  ∀ (g : Nat) (xs : List SV) (σ : St) (ρ : List Sc) (N : Nx) (Φ : SV × St → List Sc → Nx → Prop) (c0 c : Ct) (a : Act) (w : World) (vs : List Value), (inl g xs σ).wp Γ ρ N Φ → Is B w0 c0 c σ ρ N a w → xs.length = vs.length →
    (∀ i (h1 : i < xs.length) (h2 : i < vs.length), (xs[i]).rel c (vs[i])) →
    Calls X.P g vs.toArray w fun e w' => ∃ v sv σ' r n c', e = .returned v ∧ Φ (sv, σ') (ρ ++ r) (N ++ n) ∧ sv.rel c' v ∧ (∀ a' : Act, a'.defers = [] → Is B w0 c c' { σ' with slots := [] } (ρ ++ r) (N ++ n) a' w')

theorem seq_sound {X : Cx} (hX : X.ok Γ B w0) {inl : Inl} (hinl : InlOk X Γ B w0 inl) {ops : List Oper} : ∀ (rest : List Oper) (n : Nat) (σ : St) (ρ : List Sc) (N : Nx) (Φ : St → List Sc → Nx → Prop) (c0 c : Ct) (a : Act) (w : World) (Q : Exit → Act → World → Prop),
    (seqOps X inl ops rest n σ).wp Γ ρ N Φ → Is B w0 c0 c σ ρ N a w → (∀ σ' r n c' a' w', Φ σ' (ρ ++ r) (N ++ n) → Is B w0 c0 c' σ' (ρ ++ r) (N ++ n) a' w' → Q .normal a' w') → wpList X.P ops.toArray Q rest a w
  | [], n, σ, ρ, N, Φ, c0, c, a, w, Q, h, hi, hQ => by
    have := hQ σ [] [] c a w
    simp only [List.append_nil] at this
    exact this h hi
  | o :: rest, n, σ, ρ, N, Φ, c0, c, a, w, Q, h, hi, hQ => by
    unfold seqOps at h
    split at h
    · exact h.elim
    · rename_i hw
      have hwant := wanted_ok hw hi.good
      unfold wpList
      rw [if_neg (by rw [hwant]; simp)]
      refine seq_sound hX hinl rest (n + 1) _ ρ N Φ c0 c _ w Q h ?_ hQ
      exact after_is (r := skipR) hi.sub hi.env (hi.good.keep hi.good.below (Nat.le_refl _) fun _ _ => rfl) ⟨hi.fresh.β, hi.fresh.R⟩ hi.nv hi.lv ⟨[], rfl, trivial⟩
    · rename_i hw
      have hwant := wanted_ok hw hi.good
      unfold wpList
      rw [if_pos hwant]
      left
      simp only at h
      split at h
      · -- run in place
        rename_i g xs hinlof
        split at h
        rotate_left
        · exact h.elim
        rename_i hunder
        have h := T.wp_bind h
        obtain ⟨cl, fo, caps, ho, hcal, hev, hins, hxs⟩ := inlOf_spec hinlof
        have hrd := rdOf_ok hi.good (oTmps ops o) (oDeep ops o) σ.nv σ.blks.length σ.rows.length
        have hf := hrd.ev fo
        have hf : (evS (fun t => cond (hasN (oTmps ops o) t) (σ.slot t) .top) fo).rel c (a.eval fo) := hf
        have hev : (evS (fun t => cond (hasN (oTmps ops o) t) (σ.slot t) .top) fo) = .c (.a (.fn g caps)) := hev
        rw [hev] at hf
        obtain ⟨ns, hns, hfv⟩ := hf
        have hrun : (execOp a.eval o).run X.P w = .ok (.enter g ((cl.args.toList.map a.eval) ++ ns.map fun n => Value.pointer (some ⟨n, 0, none⟩)).toArray) w := by
          have hcall := hX.ins g hins ((cl.args.toList.map a.eval) ++ ns.map fun n => Value.pointer (some ⟨n, 0, none⟩)).toArray w
          have harr : (cl.args.map a.eval) ++ (ns.map fun n => Value.pointer (some ⟨n, 0, none⟩)).toArray = ((cl.args.toList.map a.eval) ++ ns.map fun n => Value.pointer (some ⟨n, 0, none⟩)).toArray := by
            apply Array.ext'; simp
          rw [← harr] at hcall ⊢
          simp [execOp, ho, resolve, hcal, hfv, Deferred.ofValue, invoke, hcall]
        unfold Oper.wp
        rw [hrun]
        have hnl : ns.length = caps.length := by have := congrArg List.length hns; simpa using this.symm
        refine (hinl g xs σ ρ N _ c0 c a w _ h hi (by rw [hxs]; simp [hnl]) (fun i h1 h2 => ?_)).mono ?_
        · subst hxs
          rw [List.getElem_append, List.getElem_append]
          simp only [List.length_map, Array.length_toList]
          split
          · rename_i hlt
            simp only [List.getElem_map]
            exact hrd.ev _
          · rename_i hlt
            simp only [List.getElem_map]
            refine ⟨ns[i - cl.args.size]'(by simp at h2 hlt; omega), ?_, rfl⟩
            have h3 : i - cl.args.size < caps.length := by simp at h1 hlt; omega
            have := congrArg (fun l => l[i - cl.args.size]?) hns
            simp only [List.getElem?_map, List.getElem?_eq_getElem h3, List.getElem?_eq_getElem (by omega : i - cl.args.size < ns.length), Option.map_some, Option.some.injEq] at this
            exact this
        · rintro e w' ⟨v, sv, σ', r, m, c', rfl, hwp, hrel, his⟩
          obtain ⟨sv', h3, hsv⟩ := splitG_wp hwp
          have i1 := his a hi.good.defers
          have gg : Good B w0 { σ' with slots := σ.slots } c' a w' := i1.good.regain hi.good hunder i1.sub (ρ' := ρ ++ r) i1.env (by rw [hi.env]) (by rw [hi.env, hi.nv])
          refine seq_sound hX hinl rest (n + 1) _ (ρ ++ r) (N ++ m) Φ c0 c' _ w' Q h3 ?_ (fun σ2 r2 m2 c2 a2 w2 hΦ his2 => by
            rw [List.append_assoc, List.append_assoc] at hΦ
            rw [List.append_assoc, List.append_assoc] at his2
            exact hQ σ2 (r ++ r2) (m ++ m2) c2 a2 w2 hΦ his2)
          exact after_is (hi.sub.trans i1.sub) i1.env gg ⟨i1.fresh.β, i1.fresh.R⟩ i1.nv i1.lv (hsv c' v i1.env hrel)
      · split at h
        · exact h.elim
        · rename_i r hr
          obtain ⟨ρ', ⟨r0, rfl⟩, h2, hstep⟩ := step_sound hX hi hr h
          obtain ⟨sv, h3, hsv⟩ := splitG_wp h2
          refine hstep _ Q (fun c' v w' henv hrel his => ?_)
          exact seq_sound hX hinl rest (n + 1) _ (ρ ++ r0) N Φ c0 c' _ w' Q h3 (his sv (hsv c' v henv hrel)) (fun σ' r m c2 a2 w2 hΦ his2 => by
            rw [List.append_assoc] at hΦ his2
            exact hQ σ' (r0 ++ r) m c2 a2 w2 hΦ his2)
end
end Go.Proofs.YtkjgcalkkfgmlaaDoor
namespace Go.Proofs.YtkjgcalkkfgmlaaDoor
open Go.RowKit

/-! ### Places -/
def look (σ : St) (l : Nat) : SV × Option Bk × Option Rw :=
  if l % 3 = 0 then (σ.slot (l / 3), none, none) else if l % 3 = 1 then (.top, σ.blk (l / 3), none) else (.top, none, σ.row (l / 3))
theorem look_slot (σ : St) (t : Nat) : look σ (3 * t) = (σ.slot t, none, none) := by unfold look; rw [if_pos (by omega), show 3 * t / 3 = t by omega]
theorem look_blk (σ : St) (t : Nat) : look σ (3 * t + 1) = (.top, σ.blk t, none) := by unfold look; rw [if_neg (by omega), if_pos (by omega), show (3 * t + 1) / 3 = t by omega]
theorem look_row (σ : St) (t : Nat) : look σ (3 * t + 2) = (.top, none, σ.row t) := by unfold look; rw [if_neg (by omega), if_neg (by omega), show (3 * t + 2) / 3 = t by omega]

def Wr (dst : Option Tmp) (r : OpR) (l : Nat) : Prop := (∃ t : Nat, dst = some t ∧ l = 3 * t) ∨ (∃ x ∈ r.blks, l = 3 * x.1 + 1) ∨ (∃ x ∈ r.rows, l = 3 * x.1 + 2)
def Rs (σ : St) (ts ds : List Nat) (l : Nat) : Prop := (∃ t ∈ ts, l = 3 * t) ∨ (∃ t ∈ ds, ∃ p ∈ (σ.slot t).bids, l = 3 * p + 1) ∨ (∃ t ∈ ds, ∃ p ∈ (σ.slot t).rids, l = 3 * p + 2)

theorem testBit_shift (n : Nat) : Nat.testBit (Nat.shiftLeft 1 n) n = true := by
  have : Nat.shiftLeft 1 n = 2 ^ n := by show 1 <<< n = _; rw [Nat.one_shiftLeft]
  rw [this]; exact Nat.testBit_two_pow_self
theorem bitL_acc (m k : Nat) : ∀ (l : List Nat) (acc n : Nat), acc.testBit n = true → (l.foldl (fun acc t => Nat.lor acc (Nat.shiftLeft 1 (m * t + k))) acc).testBit n = true
  | [], _, _, h => h
  | t :: l, acc, n, h => bitL_acc m k l _ n (by show (acc ||| _).testBit n = true; rw [Nat.testBit_or, h]; rfl)
theorem bitL_mem (m k : Nat) : ∀ (l : List Nat) (acc t : Nat), t ∈ l → (l.foldl (fun acc t => Nat.lor acc (Nat.shiftLeft 1 (m * t + k))) acc).testBit (m * t + k) = true
  | x :: l, acc, t, h => by
    rcases List.mem_cons.1 h with rfl | h
    · exact bitL_acc m k l _ _ (by show (acc ||| Nat.shiftLeft 1 (m * t + k)).testBit _ = true; rw [Nat.testBit_or, testBit_shift]; simp)
    · exact bitL_mem m k l _ t h
theorem lor_left {x y n : Nat} (h : x.testBit n = true) : (Nat.lor x y).testBit n = true := by show (x ||| y).testBit n = true; rw [Nat.testBit_or, h]; rfl
theorem lor_right {x y n : Nat} (h : y.testBit n = true) : (Nat.lor x y).testBit n = true := by show (x ||| y).testBit n = true; rw [Nat.testBit_or, h]; simp
theorem wrBits_ok {dst : Option Tmp} {r : OpR} {l : Nat} (h : Wr dst r l) : (wrBits dst r).testBit l = true := by
  unfold wrBits bitL
  rcases h with ⟨t, rfl, rfl⟩ | ⟨x, hx, rfl⟩ | ⟨x, hx, rfl⟩
  · exact lor_left (bitL_mem 3 0 _ 0 t (by simp))
  · exact lor_right (lor_left (bitL_mem 3 1 _ 0 x.1 (List.mem_map_of_mem hx)))
  · exact lor_right (lor_right (bitL_mem 3 2 _ 0 x.1 (List.mem_map_of_mem hx)))
theorem rdBits_ok {σ : St} {ts ds : List Nat} {l : Nat} (h : Rs σ ts ds l) : (rdBits σ ts ds).testBit l = true := by
  unfold rdBits bitL
  rcases h with ⟨t, ht, rfl⟩ | ⟨t, ht, p, hp, rfl⟩ | ⟨t, ht, p, hp, rfl⟩
  · exact lor_left (bitL_mem 3 0 _ 0 t ht)
  · exact lor_right (lor_left (bitL_mem 3 1 _ 0 p (List.mem_flatMap.2 ⟨t, ht, hp⟩)))
  · exact lor_right (lor_right (bitL_mem 3 2 _ 0 p (List.mem_flatMap.2 ⟨t, ht, hp⟩)))
theorem land_zero {x y n : Nat} (h : Nat.beq (Nat.land x y) 0 = true) (hx : x.testBit n = true) (hy : y.testBit n = true) : False := by
  have h := Nat.eq_of_beq_eq_true h
  have : (x &&& y).testBit n = true := by rw [Nat.testBit_and, hx, hy]; rfl
  rw [show x &&& y = 0 from h] at this
  simp at this

theorem putBlks_get : ∀ (r : List (Nat × Option Bk)) (l : List (Option Bk)) (p : Nat), (∀ x ∈ r, x.1 ≠ p) → (putBlks l r).getD p none = l.getD p none
  | [], _, _, _ => rfl
  | (i, v) :: r, l, p, h => by
    rw [putBlks, putBlks_get r _ p (fun x hx => h x (List.mem_cons_of_mem _ hx)), setN_get, if_neg (fun e => h (i, v) (List.mem_cons_self ..) e.symm)]
theorem putBlks_same : ∀ (r : List (Nat × Option Bk)) (l l' : List (Option Bk)) (p : Nat), (l.getD p none = l'.getD p none ∨ ∃ x ∈ r, x.1 = p) → (putBlks l r).getD p none = (putBlks l' r).getD p none
  | [], _, _, _, h => h.elim id (fun ⟨_, h, _⟩ => by cases h)
  | (i, v) :: r, l, l', p, h => by
    refine putBlks_same r _ _ p ?_
    by_cases hp : p = i
    · left; rw [setN_get, setN_get, if_pos hp, if_pos hp]
    · rcases h with h | ⟨x, hx, e⟩
      · left; rw [setN_get, setN_get, if_neg hp, if_neg hp]; exact h
      · right
        rcases List.mem_cons.1 hx with rfl | hx
        · exact absurd e.symm hp
        · exact ⟨x, hx, e⟩
theorem putRows_get : ∀ (r : List (Nat × Option Rw)) (l : List (Option Rw)) (p : Nat), (∀ x ∈ r, x.1 ≠ p) → (putRows l r).getD p none = l.getD p none
  | [], _, _, _ => rfl
  | (i, v) :: r, l, p, h => by
    rw [putRows, putRows_get r _ p (fun x hx => h x (List.mem_cons_of_mem _ hx)), setN_get, if_neg (fun e => h (i, v) (List.mem_cons_self ..) e.symm)]
theorem putRows_same : ∀ (r : List (Nat × Option Rw)) (l l' : List (Option Rw)) (p : Nat), (l.getD p none = l'.getD p none ∨ ∃ x ∈ r, x.1 = p) → (putRows l r).getD p none = (putRows l' r).getD p none
  | [], _, _, _, h => h.elim id (fun ⟨_, h, _⟩ => by cases h)
  | (i, v) :: r, l, l', p, h => by
    refine putRows_same r _ _ p ?_
    by_cases hp : p = i
    · left; rw [setN_get, setN_get, if_pos hp, if_pos hp]
    · rcases h with h | ⟨x, hx, e⟩
      · left; rw [setN_get, setN_get, if_neg hp, if_neg hp]; exact h
      · right
        rcases List.mem_cons.1 hx with rfl | hx
        · exact absurd e.symm hp
        · exact ⟨x, hx, e⟩

theorem after_slots (σ : St) (dst : Option Tmp) (r : OpR) : (σ.after dst r).slots.length = σ.slots.length := by
  unfold St.after; cases dst <;> simp
theorem after_slot (σ : St) (dst : Option Tmp) (r : OpR) (t : Nat) : (σ.after dst r).slot t = if dst = some t ∧ t < σ.slots.length then r.val else σ.slot t := by
  cases dst with
  | none => simp [St.after, St.slot]
  | some d =>
    show (σ.slots.set d r.val).getD t .top = _
    rw [slot_set]
    simp only [Option.some.injEq]
    rfl
/-- Where it doesn't write, an operation leaves what is there. -/
theorem after_out {σ : St} {dst : Option Tmp} {r : OpR} {l : Nat} (h : ¬ Wr dst r l) : look (σ.after dst r) l = look σ l := by
  unfold look
  split
  · rw [after_slot, if_neg]
    rintro ⟨e, _⟩
    exact h (.inl ⟨_, e, by omega⟩)
  · split
    · show (SV.top, (putBlks σ.blks r.blks).getD (l / 3) none, none) = _
      rw [putBlks_get _ _ _ (fun x hx e => h (.inr (.inl ⟨x, hx, by omega⟩)))]; rfl
    · show (SV.top, none, (putRows σ.rows r.rows).getD (l / 3) none) = _
      rw [putRows_get _ _ _ (fun x hx e => h (.inr (.inr ⟨x, hx, by omega⟩)))]; rfl
theorem after_same {σ σ' : St} (hl : σ.slots.length = σ'.slots.length) {dst : Option Tmp} {r : OpR} {l : Nat} (h : look σ l = look σ' l ∨ Wr dst r l) (hw : ∀ t, σ'.slots.length ≤ t → σ.slot t = σ'.slot t) : look (σ.after dst r) l = look (σ'.after dst r) l := by
  have hl' : look σ l = look σ' l ∨ Wr dst r l := h
  unfold look at h ⊢
  split
  · rename_i h0
    rw [after_slot, after_slot, hl]
    split
    · rfl
    · rename_i hn
      rw [if_pos h0, if_pos h0] at h
      rcases h with h | h
      · exact h
      · rcases h with ⟨t, rfl, rfl⟩ | ⟨x, _, e⟩ | ⟨x, _, e⟩
        · have : ¬ t < σ'.slots.length := fun hh => hn ⟨by congr 1; omega, by omega⟩
          rw [show 3 * t / 3 = t by omega, hw t (by omega)]
        · omega
        · omega
  · rename_i h0
    rw [if_neg h0, if_neg h0] at h
    split
    · rename_i h1
      rw [if_pos h1, if_pos h1] at h
      show (SV.top, (putBlks σ.blks r.blks).getD (l / 3) none, none) = (SV.top, (putBlks σ'.blks r.blks).getD (l / 3) none, none)
      congr 2
      refine putBlks_same _ _ _ _ ?_
      rcases h with h | h
      · left; exact (Prod.mk.inj (Prod.mk.inj h).2).1
      · rcases h with ⟨t, _, e⟩ | ⟨x, hx, e⟩ | ⟨x, _, e⟩
        · omega
        · exact .inr ⟨x, hx, by omega⟩
        · omega
    · rename_i h1
      rw [if_neg h1, if_neg h1] at h
      show (SV.top, none, (putRows σ.rows r.rows).getD (l / 3) none) = (SV.top, none, (putRows σ'.rows r.rows).getD (l / 3) none)
      congr 2
      refine putRows_same _ _ _ _ ?_
      rcases h with h | h
      · left; exact (Prod.mk.inj (Prod.mk.inj h).2).2
      · rcases h with ⟨t, _, e⟩ | ⟨x, _, e⟩ | ⟨x, hx, e⟩
        · omega
        · omega
        · exact .inr ⟨x, hx, by omega⟩

theorem slot_out {σ : St} {t : Nat} (h : σ.slots.length ≤ t) : σ.slot t = .top := by
  unfold St.slot; simp [List.getD_eq_getElem?_getD, List.getElem?_eq_none h]

/-- The state behind the operations of S. -/
def appl (S : Nat → Bool) : List Item → Nat → St → St
  | [], _, σ => σ
  | x :: xs, j, σ => appl S xs (j + 1) (if S j then σ.after x.dst x.r else σ)
theorem appl_slots (S : Nat → Bool) : ∀ (l : List Item) (j : Nat) (σ : St), (appl S l j σ).slots.length = σ.slots.length
  | [], _, _ => rfl
  | x :: xs, j, σ => by
    rw [appl, appl_slots S xs]
    split
    · exact after_slots _ _ _
    · rfl
theorem appl_append (S : Nat → Bool) : ∀ (l m : List Item) (j : Nat) (σ : St), appl S (l ++ m) j σ = appl S m (j + l.length) (appl S l j σ)
  | [], m, j, σ => rfl
  | x :: l, m, j, σ => by
    simp only [List.cons_append, appl, List.length_cons]
    rw [appl_append S l m]
    congr 1; omega
/-- What lies in a place hangs on those alone that write there. -/
theorem appl_agree {S S' : Nat → Bool} (p : Nat) : ∀ (l : List Item) (j : Nat) (σ σ' : St), σ.slots.length = σ'.slots.length → look σ p = look σ' p → (∀ i x, l[i]? = some x → Wr x.dst x.r p → S (j + i) = S' (j + i)) →
    look (appl S l j σ) p = look (appl S' l j σ') p
  | [], _, _, _, _, h, _ => h
  | x :: l, j, σ, σ', hl, h, hs => by
    simp only [appl]
    refine appl_agree p l (j + 1) _ _ ?_ ?_ (fun i y hy hw => by
      have := hs (i + 1) y (by simpa using hy) hw
      rw [show j + (i + 1) = j + 1 + i by omega] at this; exact this)
    · split <;> split <;> simp [after_slots, hl]
    · have h0 := hs 0 x (by simp)
      simp only [Nat.add_zero] at h0
      by_cases hw : Wr x.dst x.r p
      · rw [← h0 hw]
        split
        · exact after_same hl (.inr hw) (fun t ht => by rw [slot_out (by omega), slot_out ht])
        · exact h
      · have e1 : look (if S j = true then σ.after x.dst x.r else σ) p = look σ p := by split <;> first | exact after_out hw | rfl
        have e2 : look (if S' j = true then σ'.after x.dst x.r else σ') p = look σ' p := by split <;> first | exact after_out hw | rfl
        rw [e1, e2, h]
theorem appl_all_eq (S : Nat → Bool) : ∀ (l : List Item) (j : Nat) (σ : St), (∀ i, i < l.length → S (j + i) = false) → appl S l j σ = σ
  | [], _, _, _ => rfl
  | x :: l, j, σ, h => by
    have h0 := h 0 (by simp)
    simp only [Nat.add_zero] at h0
    rw [appl, h0]
    exact appl_all_eq S l (j + 1) σ (fun i hi => by
      have := h (i + 1) (by simp; omega)
      rw [show j + (i + 1) = j + 1 + i by omega] at this; exact this)

section
variable {B : Nat} {w0 : World} {σ σ' : St} {c : Ct} {a : Act} {w : World}
/-- A state is what lies in its places. -/
theorem Good.congr (g : Good B w0 σ c a w) (hl : σ'.slots.length ≤ a.tmps.size) (h : ∀ l, look σ' l = look σ l) : Good B w0 σ' c a w := by
  have hs : ∀ t, σ'.slot t = σ.slot t := fun t => by have := h (3 * t); rw [look_slot, look_slot] at this; exact (Prod.mk.inj this).1
  have hb : ∀ t, σ'.blk t = σ.blk t := fun t => by have := h (3 * t + 1); rw [look_blk, look_blk] at this; exact (Prod.mk.inj (Prod.mk.inj this).2).1
  have hr : ∀ t, σ'.row t = σ.row t := fun t => by have := h (3 * t + 2); rw [look_row, look_row] at this; exact (Prod.mk.inj (Prod.mk.inj this).2).2
  have ho : ∀ x p, σ'.owns c x p ↔ σ.owns c x p := fun x p => by
    obtain ⟨t, q⟩ := x
    cases t <;> simp only [St.owns, hb, hr]
  refine ⟨g.below, g.hB, g.defers, hl, fun t => by rw [hs]; exact g.slots t, fun p k hp => g.blks p k (by rw [← hb]; exact hp), fun r k hk => ?_, fun x y p hx hy => g.apart x y p ((ho x p).1 hx) ((ho y p).1 hy)⟩
  obtain ⟨v, e, q⟩ := g.rows r k (by rw [← hr]; exact hk)
  refine ⟨v, e, ?_⟩
  unfold rowOk at q ⊢
  simp only [ho]
  exact q
theorem oDeep_sub (ops : List Oper) (o : Oper) : ∀ t, t ∈ oDeep ops o → t ∈ oTmps ops o := by
  intro t ht
  unfold oDeep at ht
  split at ht
  · cases ht
  · cases ht
  · exact ht
theorem rdOf_congr {ts ds : List Nat} (hd : ∀ t, t ∈ ds → t ∈ ts) (h : ∀ l, Rs σ ts ds l → look σ' l = look σ l) (nv nb nr : Nat) : rdOf σ'.slot σ'.blk σ'.row ts ds nv nb nr = rdOf σ.slot σ.blk σ.row ts ds nv nb nr := by
  have hs : ∀ t, t ∈ ts → σ'.slot t = σ.slot t := fun t ht => by have := h (3 * t) (.inl ⟨t, ht, rfl⟩); rw [look_slot, look_slot] at this; exact (Prod.mk.inj this).1
  have hb : ∀ t, t ∈ ds → ∀ p, p ∈ (σ.slot t).bids → σ'.blk p = σ.blk p := fun t ht p hp => by have := h (3 * p + 1) (.inr (.inl ⟨t, ht, p, hp, rfl⟩)); rw [look_blk, look_blk] at this; exact (Prod.mk.inj (Prod.mk.inj this).2).1
  have hr : ∀ t, t ∈ ds → ∀ p, p ∈ (σ.slot t).rids → σ'.row p = σ.row p := fun t ht p hp => by have := h (3 * p + 2) (.inr (.inr ⟨t, ht, p, hp, rfl⟩)); rw [look_row, look_row] at this; exact (Prod.mk.inj (Prod.mk.inj this).2).2
  have e1 : (ds.flatMap fun t => (σ'.slot t).bids) = ds.flatMap fun t => (σ.slot t).bids := by
    have : ∀ l : List Nat, (∀ t ∈ l, σ'.slot t = σ.slot t) → (l.flatMap fun t => (σ'.slot t).bids) = l.flatMap fun t => (σ.slot t).bids := by
      intro l hl
      induction l with
      | nil => rfl
      | cons t l ih => simp only [List.flatMap_cons]; rw [hl t (List.mem_cons_self ..), ih (fun t ht => hl t (List.mem_cons_of_mem _ ht))]
    exact this ds (fun t ht => hs t (hd t ht))
  have e2 : (ds.flatMap fun t => (σ'.slot t).rids) = ds.flatMap fun t => (σ.slot t).rids := by
    have : ∀ l : List Nat, (∀ t ∈ l, σ'.slot t = σ.slot t) → (l.flatMap fun t => (σ'.slot t).rids) = l.flatMap fun t => (σ.slot t).rids := by
      intro l hl
      induction l with
      | nil => rfl
      | cons t l ih => simp only [List.flatMap_cons]; rw [hl t (List.mem_cons_self ..), ih (fun t ht => hl t (List.mem_cons_of_mem _ ht))]
    exact this ds (fun t ht => hs t (hd t ht))
  unfold rdOf
  rw [e1, e2]
  have f1 : (fun t => cond (hasN ts t) (σ'.slot t) SV.top) = fun t => cond (hasN ts t) (σ.slot t) SV.top := by
    funext t
    cases hh : hasN ts t
    · rfl
    · simp only [cond_true]; exact hs t (hasN_mem.1 hh)
  have f2 : (fun p => cond (hasN (ds.flatMap fun t => (σ.slot t).bids) p) (σ'.blk p) none) = fun p => cond (hasN (ds.flatMap fun t => (σ.slot t).bids) p) (σ.blk p) none := by
    funext p
    cases hh : hasN (ds.flatMap fun t => (σ.slot t).bids) p
    · rfl
    · simp only [cond_true]
      obtain ⟨t, ht, hp⟩ := List.mem_flatMap.1 (hasN_mem.1 hh)
      exact hb t ht p hp
  have f3 : (fun p => cond (hasN (ds.flatMap fun t => (σ.slot t).rids) p) (σ'.row p) none) = fun p => cond (hasN (ds.flatMap fun t => (σ.slot t).rids) p) (σ.row p) none := by
    funext p
    cases hh : hasN (ds.flatMap fun t => (σ.slot t).rids) p
    · rfl
    · simp only [cond_true]
      obtain ⟨t, ht, hp⟩ := List.mem_flatMap.1 (hasN_mem.1 hh)
      exact hr t ht p hp
  rw [f1, f2, f3]
end
end Go.Proofs.YtkjgcalkkfgmlaaDoor
namespace Go.Proofs.YtkjgcalkkfgmlaaDoor
open Go.RowKit

section
variable {Γ : Nat → List Sc → Option (List Sc)} {L : Type}
theorem splitG_wp2 {b : Bool} {r : OpR} {k : OpR → T L} {ρ : List Sc} {N : Nx} {Φ : L → List Sc → Nx → Prop} (h : (splitG b r k).wp Γ ρ N Φ) :
    ∃ sv, (k { r with val := sv }).wp Γ ρ N Φ ∧ (sv = r.val ∨ ∃ e y, r.val = .c (.a (.bool e)) ∧ sv = .at (.bool (.b y)) ∧ (e.ev ρ).bool = y) := by
  unfold splitG at h
  split at h
  · rename_i x hv
    exact ⟨_, h, .inl hv.symm⟩
  · rename_i e _ hv
    simp only [T.wp] at h
    by_cases hb : (e.ev ρ).bool = true
    · rw [if_pos hb] at h
      exact ⟨_, h, .inr ⟨e, true, hv, rfl, hb⟩⟩
    · rw [if_neg hb] at h
      exact ⟨_, h, .inr ⟨e, false, hv, rfl, by simpa using hb⟩⟩
  · exact ⟨r.val, h, .inl rfl⟩
end

/-- What a planned operation does. -/
def Acts (X : Cx) (Γ : Nat → List Sc → Option (List Sc)) (ops : List Oper) (ρ : List Sc) (σ : St) (o : Oper) (x : Item) : Prop :=
  (wantedS ops σ o = some false ∧ x.r = skipR) ∨
  (wantedS ops σ o = some true ∧ ∃ r0 sv, stepR X ops σ o = some r0 ∧ planU σ o r0 = true ∧ (σ.after o.dst r0).nv ≤ ρ.length ∧ (∀ e ∈ r0.needs, (e.ev ρ).bool = true) ∧
    (∀ f es n, r0.call = some (f, es, n) → ∃ rs, Γ f (es.map (Ex.ev ρ)) = some rs ∧ rs.length = n ∧ ∀ i, i < rs.length → ρ.getD (σ.nv + i) (.i 0) = rs.getD i (.i 0)) ∧
    x.r = { r0 with val := sv } ∧ (sv = r0.val ∨ ∃ e y, r0.val = .c (.a (.bool e)) ∧ sv = .at (.bool (.b y)) ∧ (e.ev ρ).bool = y))
theorem Acts.ext {X : Cx} {Γ : Nat → List Sc → Option (List Sc)} {ops : List Oper} {ρ : List Sc} {σ : St} {o : Oper} {x : Item} (h : Acts X Γ ops ρ σ o x) (r : List Sc) : Acts X Γ ops (ρ ++ r) σ o x := by
  rcases h with h | ⟨hw, r0, sv, h1, h2, h3, h4, h5, h6, h7⟩
  · exact .inl h
  · refine .inr ⟨hw, r0, sv, h1, h2, by simp; omega, ?_, ?_, h6, ?_⟩
    all_goals
      have hu := h2
      simp only [planU, Bool.and_eq_true, List.all_eq_true] at hu
      have hnv : σ.nv ≤ (σ.after o.dst r0).nv := by unfold St.after; simp only; split <;> omega
      have hext : ∀ n, n ≤ ρ.length → ∀ i, i < n → (ρ ++ r).getD i (.i 0) = ρ.getD i (.i 0) := fun n hn i hi => getD_append_lt _ _ _ _ (by omega)
    · intro e he
      rw [Ex.ev_under (hext σ.nv (by omega)) (hu.1 e he)]; exact h4 e he
    · intro f es n hc
      obtain ⟨rs, q1, q0, q2⟩ := h5 f es n hc
      have hes : es.all (·.under σ.nv) = true := by
        unfold stepR at h1
        split at h1
        · split at h1
          · rename_i hg; cases h1
            simp only [Bool.and_eq_true, callOk, hc] at hg
            exact hg.2.2
          · cases h1
        · cases h1
      have hn : (σ.after o.dst r0).nv = σ.nv + n := by unfold St.after; simp only [hc]
      refine ⟨rs, by rw [evL_under (hext σ.nv (by omega)) hes]; exact q1, q0, fun i hi => ?_⟩
      rw [getD_append_lt _ _ _ _ (by omega)]; exact q2 i hi
    · rcases h7 with h7 | ⟨e, y, e1, e2, e3⟩
      · exact .inl h7
      · refine .inr ⟨e, y, e1, e2, ?_⟩
        have := hu.2
        rw [e1] at this
        rw [Ex.ev_under (hext _ h3) this]; exact e3

def allS : Nat → Bool := fun _ => true
/-- A plan: each operation as it was reckoned in the text's order. -/
def PlanOk (X : Cx) (Γ : Nat → List Sc → Option (List Sc)) (ops : List Oper) (ρ : List Sc) (σ0 : St) (items : List Item) : Prop :=
  ∀ (j : Nat) (x : Item), items[j]? = some x → ∃ o, ops[j]? = some o ∧ x.dst = o.dst ∧ x.rd = rdBits (appl allS (items.take j) 0 σ0) (oTmps ops o) (oDeep ops o) ∧ x.wr = wrBits o.dst x.r ∧ x.pre = preOf (items.take j) o ∧
    Acts X Γ ops ρ (appl allS (items.take j) 0 σ0) o x ∧ fitsI (items.take j) x = true ∧ edgesI j o = true
theorem PlanOk.ext {X : Cx} {Γ : Nat → List Sc → Option (List Sc)} {ops : List Oper} {ρ : List Sc} {σ0 : St} {items : List Item} (h : PlanOk X Γ ops ρ σ0 items) (r : List Sc) : PlanOk X Γ ops (ρ ++ r) σ0 items := fun j x hj => by
  obtain ⟨o, q1, q2, q3, q4, q5, q6, q7, q8⟩ := h j x hj
  exact ⟨o, q1, q2, q3, q4, q5, q6.ext r, q7, q8⟩
theorem PlanOk.snoc {X : Cx} {Γ : Nat → List Sc → Option (List Sc)} {ops : List Oper} {ρ : List Sc} {σ0 : St} {items : List Item} (h : PlanOk X Γ ops ρ σ0 items) {x : Item} {o : Oper} (ho : ops[items.length]? = some o) (q2 : x.dst = o.dst) (q3 : x.rd = rdBits (appl allS items 0 σ0) (oTmps ops o) (oDeep ops o)) (q4 : x.wr = wrBits o.dst x.r) (q5 : x.pre = preOf items o)
    (q6 : Acts X Γ ops ρ (appl allS items 0 σ0) o x) (q7 : fitsI items x = true) (q8 : edgesI items.length o = true) : PlanOk X Γ ops ρ σ0 (items ++ [x]) := fun j y hj => by
  by_cases hlt : j < items.length
  · rw [List.getElem?_append_left hlt] at hj
    rw [List.take_append_of_le_length (by omega)]
    exact h j y hj
  · have hj2 : j < (items ++ [x]).length := (List.getElem?_eq_some_iff.1 hj).1
    have : j = items.length := by simp at hj2; omega
    subst this
    simp at hj
    subst hj
    rw [List.take_append_of_le_length (Nat.le_refl _), List.take_of_length_le (Nat.le_refl _)]
    exact ⟨o, ho, q2, q3, q4, q5, q6, q7, q8⟩

theorem after_val_nv (σ : St) (d : Option Tmp) (r : OpR) (sv : SV) : (σ.after d { r with val := sv }).nv = (σ.after d r).nv := rfl

theorem plan_sound {X : Cx} {Γ : Nat → List Sc → Option (List Sc)} {ops : List Oper} {σ0 : St} {N : Nx} {Φ : St × List Item → List Sc → Nx → Prop} : ∀ (rest : List Oper) (n : Nat) (σ : St) (items : List Item) (ρ : List Sc), (planOps X ops rest n σ items).wp Γ ρ N Φ →
    (∀ k, k < rest.length → rest[k]? = ops[n + k]?) → n = items.length → σ = appl allS items 0 σ0 → σ.nv = ρ.length → PlanOk X Γ ops ρ σ0 items →
    ∃ r itemsf, Φ (appl allS itemsf 0 σ0, itemsf) (ρ ++ r) N ∧ PlanOk X Γ ops (ρ ++ r) σ0 itemsf ∧ itemsf.length = n + rest.length ∧ (appl allS itemsf 0 σ0).nv = (ρ ++ r).length
  | [], n, σ, items, ρ, h, hrest, hn, hσ, hnv, hp => by
    exact ⟨[], items, by simp only [List.append_nil]; subst hσ; exact h, by simpa using hp, by simp [hn], by rw [← hσ]; simpa using hnv⟩
  | o :: rest, n, σ, items, ρ, h, hrest, hn, hσ, hnv, hp => by
    have ho : ops[items.length]? = some o := by have := hrest 0 (by simp); simp at this; rw [← hn]; exact this.symm
    have hrest' : ∀ k, k < rest.length → rest[k]? = ops[n + 1 + k]? := fun k hk => by have := hrest (k + 1) (by simp; omega); rw [show n + 1 + k = n + (k + 1) by omega]; simpa using this
    unfold planOps at h
    split at h
    · exact h.elim
    rename_i hedge
    have hedge : edgesI items.length o = true := by rw [← hn]; simpa using hedge
    simp only at h
    have hgo : ∀ (r : OpR) (ρ' : List Sc), T.wp Γ (if fitsI items ⟨o.dst, r, rdBits σ (oTmps ops o) (oDeep ops o), wrBits o.dst r, preOf items o⟩ = true then planOps X ops rest (n + 1) (σ.after o.dst r) (items ++ [⟨o.dst, r, rdBits σ (oTmps ops o) (oDeep ops o), wrBits o.dst r, preOf items o⟩]) else .fail "order") ρ' N Φ →
        (∃ r0, ρ' = ρ ++ r0) → (σ.after o.dst r).nv = ρ'.length → Acts X Γ ops ρ' σ o ⟨o.dst, r, rdBits σ (oTmps ops o) (oDeep ops o), wrBits o.dst r, preOf items o⟩ →
        ∃ r itemsf, Φ (appl allS itemsf 0 σ0, itemsf) (ρ ++ r) N ∧ PlanOk X Γ ops (ρ ++ r) σ0 itemsf ∧ itemsf.length = n + (rest.length + 1) ∧ (appl allS itemsf 0 σ0).nv = (ρ ++ r).length := by
      intro r ρ' hw hρ hnv' hact
      obtain ⟨r0, rfl⟩ := hρ
      split at hw
      · rename_i hfit
        have hp' := (hp.ext r0).snoc (x := ⟨o.dst, r, rdBits σ (oTmps ops o) (oDeep ops o), wrBits o.dst r, preOf items o⟩) ho rfl (by rw [hσ]) rfl rfl (by rw [← hσ]; exact hact) hfit hedge
        obtain ⟨r1, itemsf, f1, f2, f3, f4⟩ := plan_sound rest (n + 1) (σ.after o.dst r) _ (ρ ++ r0) hw hrest' (by simp [hn]) (by rw [appl_append, ← hσ]; rfl) hnv' hp'
        exact ⟨r0 ++ r1, itemsf, by rw [← List.append_assoc]; exact f1, by rw [← List.append_assoc]; exact f2, by omega, by rw [← List.append_assoc]; exact f4⟩
      · exact hw.elim
    split at h
    · exact h.elim
    · rename_i hw
      exact hgo skipR ρ h ⟨[], by simp⟩ (by simpa [St.after, skipR, OpR.pure] using hnv) (.inl ⟨hw, rfl⟩)
    · rename_i hw
      split at h
      · exact h.elim
      · rename_i r0 hr0
        split at h
        rotate_left
        · exact h.elim
        rename_i hpu
        obtain ⟨hneeds, h⟩ := withNeeds_wp h
        have hkey : r0.call = none ∨ ∃ f es n, r0.call = some (f, es, n) := by cases r0.call with | none => exact .inl rfl | some x => exact .inr ⟨x.1, x.2.1, x.2.2, rfl⟩
        have hneedsU : ∀ e ∈ r0.needs, e.under σ.nv = true := by simp only [planU, Bool.and_eq_true, List.all_eq_true] at hpu; exact hpu.1
        rcases hkey with hcall | ⟨f, es, m, hcall⟩
        · rw [hcall] at h
          obtain ⟨sv, h2, hsv⟩ := splitG_wp2 h
          have hnv' : (σ.after o.dst r0).nv = ρ.length := by simp only [St.after, hcall]; exact hnv
          exact hgo _ ρ h2 ⟨[], by simp⟩ hnv' (.inr ⟨hw, r0, sv, hr0, hpu, by omega, hneeds, (fun f es n hc => by rw [hcall] at hc; cases hc), rfl, hsv⟩)
        · rw [hcall] at h
          simp only at h
          obtain ⟨rs, hF, hlen, h⟩ := h
          obtain ⟨sv, h2, hsv⟩ := splitG_wp2 h
          have hnv' : (σ.after o.dst r0).nv = (ρ ++ rs).length := by simp only [St.after, hcall, List.length_append]; omega
          have hext : ∀ i, i < σ.nv → (ρ ++ rs).getD i (.i 0) = ρ.getD i (.i 0) := fun i hi => getD_append_lt _ _ _ _ (by omega)
          have hes : es.all (·.under σ.nv) = true := by
            unfold stepR at hr0
            split at hr0
            · split at hr0
              · rename_i hg; cases hr0
                simp only [Bool.and_eq_true, callOk, hcall] at hg
                exact hg.2.2
              · cases hr0
            · cases hr0
          refine hgo _ (ρ ++ rs) h2 ⟨rs, rfl⟩ hnv' (.inr ⟨hw, r0, sv, hr0, hpu, by omega, fun e he => by rw [Ex.ev_under hext (hneedsU e he)]; exact hneeds e he, fun f' es' n' hc => ?_, rfl, hsv⟩)
          rw [hcall] at hc; cases hc
          refine ⟨rs, by rw [evL_under hext hes]; exact hF, hlen, fun i hi => ?_⟩
          rw [hnv, List.getD_eq_getElem?_getD, List.getElem?_append_right (by omega), Nat.add_sub_cancel_left, ← List.getD_eq_getElem?_getD]
end Go.Proofs.YtkjgcalkkfgmlaaDoor
namespace Go.Proofs.YtkjgcalkkfgmlaaDoor
open Go.RowKit

section
variable {X : Cx} {Γ : Nat → List Sc → Option (List Sc)} {ops : List Oper} {ρ : List Sc} {σ0 : St} {items : List Item} {B : Nat} {w0 : World} {c c0 : Ct} {a : Act} {w : World}

def inS (listed : Array Bool) : Nat → Bool := fun j => listed.getD j false
def Closed (items : List Item) (S : Nat → Bool) : Prop := ∀ (j : Nat) (x : Item), items[j]? = some x → S j = true → ∀ k, x.pre.testBit k = true → S k = true

theorem fitsI_spec {l : List Item} {x : Item} (h : fitsI l x = true) {j : Nat} {y : Item} (hy : l[j]? = some y) (hp : x.pre.testBit j = false) :
    (∀ p ∈ y.r.nb, p ∉ x.r.nb) ∧ (∀ p ∈ y.r.nr, p ∉ x.r.nr) ∧ (∀ n, y.wr.testBit n = true → x.rd.testBit n = false ∧ x.wr.testBit n = false) ∧ (∀ n, y.rd.testBit n = true → x.wr.testBit n = false) := by
  unfold fitsI at h
  have := List.all_eq_true.1 h (y, j) (by
    rw [List.mem_iff_getElem?]
    exact ⟨j, by rw [List.getElem?_zipIdx, hy]; simp⟩)
  simp only [Bool.and_eq_true, hp, Bool.false_or, List.all_eq_true] at this
  obtain ⟨⟨h1, h2⟩, h3, h4⟩ := this
  refine ⟨fun p hp' hm => ?_, fun p hp' hm => ?_, fun n hn => ⟨?_, ?_⟩, fun n hn => ?_⟩
  · have := h1 p hp'; simp [hasN_mem.2 hm] at this
  · have := h2 p hp'; simp [hasN_mem.2 hm] at this
  · cases hb : x.rd.testBit n
    · rfl
    · exact (land_zero h3 hn (lor_left hb)).elim
  · cases hb : x.wr.testBit n
    · rfl
    · exact (land_zero h3 hn (lor_right hb)).elim
  · cases hb : x.wr.testBit n
    · rfl
    · exact (land_zero h4 hn hb).elim
theorem fitsI_new {l : List Item} {x : Item} (h : fitsI l x = true) {j : Nat} {y : Item} (hy : l[j]? = some y) : (∀ p ∈ y.r.nb, p ∉ x.r.nb) ∧ (∀ p ∈ y.r.nr, p ∉ x.r.nr) := by
  unfold fitsI at h
  have := List.all_eq_true.1 h (y, j) (by
    rw [List.mem_iff_getElem?]
    exact ⟨j, by rw [List.getElem?_zipIdx, hy]; simp⟩)
  simp only [Bool.and_eq_true, List.all_eq_true] at this
  obtain ⟨⟨h1, h2⟩, _⟩ := this
  exact ⟨fun p hp' hm => by have := h1 p hp'; simp [hasN_mem.2 hm] at this, fun p hp' hm => by have := h2 p hp'; simp [hasN_mem.2 hm] at this⟩

theorem preOf_go (items : List Item) (k : Nat) : ∀ (l : List Edge) (acc : Nat), (l.foldl (fun acc e => if Region.binds .any e then Nat.lor acc (Nat.lor (Nat.shiftLeft 1 e.on) (match items[e.on]? with | some x => x.pre | none => 0)) else acc) acc).testBit k = true →
    acc.testBit k = true ∨ ∃ e ∈ l, Region.binds .any e = true ∧ (e.on = k ∨ ∃ y, items[e.on]? = some y ∧ y.pre.testBit k = true)
  | [], acc, h => .inl h
  | e :: l, acc, h => by
    rcases preOf_go items k l _ h with h | ⟨e', he', h⟩
    · dsimp only at h
      by_cases hb : Region.binds .any e = true
      · rw [if_pos hb] at h
        have h : (acc ||| (Nat.shiftLeft 1 e.on ||| (match items[e.on]? with | some x => x.pre | none => 0))).testBit k = true := h
        rw [Nat.testBit_or, Nat.testBit_or] at h
        simp only [Bool.or_eq_true] at h
        rcases h with h | h | h
        · exact .inl h
        · refine .inr ⟨e, List.mem_cons_self .., hb, .inl ?_⟩
          have : Nat.shiftLeft 1 e.on = 2 ^ e.on := by show 1 <<< e.on = _; rw [Nat.one_shiftLeft]
          rw [this, Nat.testBit_two_pow] at h
          simpa using h
        · refine .inr ⟨e, List.mem_cons_self .., hb, .inr ?_⟩
          split at h
          · rename_i x hx; exact ⟨x, hx, h⟩
          · simp at h
      · rw [if_neg hb] at h; exact .inl h
    · exact .inr ⟨e', List.mem_cons_of_mem _ he', h⟩
theorem preOf_spec {items : List Item} {o : Oper} {k : Nat} (h : (preOf items o).testBit k = true) : ∃ e ∈ o.after.toList, Region.binds .any e = true ∧ (e.on = k ∨ ∃ y, items[e.on]? = some y ∧ y.pre.testBit k = true) := by
  unfold preOf at h
  rcases preOf_go items k _ _ h with h | h
  · simp at h
  · exact h

/-- The state when operation i is ready, as far as it looks. -/
theorem agree_rd (hp : PlanOk X Γ ops ρ σ0 items) {S : Nat → Bool} (hS : Closed items S) {i : Nat} {x : Item} (hx : items[i]? = some x) (hpre : ∀ k, x.pre.testBit k = true → S k = true) (hi : S i = false) {l : Nat} (hl : x.rd.testBit l = true) :
    look (appl S items 0 σ0) l = look (appl allS (items.take i) 0 σ0) l := by
  have hi2 : i < items.length := (List.getElem?_eq_some_iff.1 hx).1
  have e0 : appl allS (items.take i) 0 σ0 = appl (fun j => decide (j < i)) items 0 σ0 := by
    conv => rhs; rw [← List.take_append_drop i items]
    rw [appl_append, appl_all_eq _ (items.drop i) _ _ (fun j _ => by simp; omega)]
    have : ∀ (m : List Item) (j : Nat) (σ : St), j + m.length ≤ i → appl allS m j σ = appl (fun j => decide (j < i)) m j σ := by
      intro m
      induction m with
      | nil => intro _ _ _; rfl
      | cons y m ih => intro j σ hj; simp only [List.length_cons] at hj; simp only [appl, allS, if_true]; rw [if_pos (by simp; omega)]; exact ih (j + 1) _ (by omega)
    exact this _ 0 _ (by simp; omega)
  rw [e0]
  refine appl_agree l items 0 σ0 σ0 rfl rfl (fun j y hj hw => ?_)
  simp only [Nat.zero_add]
  have hwb : y.wr.testBit l = true := by
    obtain ⟨o, _, q2, _, q4, _⟩ := hp j y hj
    rw [q4, ← q2]; exact wrBits_ok hw
  rcases Nat.lt_trichotomy j i with h | h | h
  · rw [show decide (j < i) = true by simpa using h]
    obtain ⟨o, _, _, _, _, _, _, q7, _⟩ := hp i x hx
    cases hb : x.pre.testBit j
    · have hy : (items.take i)[j]? = some y := by rw [List.getElem?_take, if_pos h]; exact hj
      have := (fitsI_spec q7 hy hb).2.2.1 l hwb
      rw [hl] at this; cases this.1
    · exact hpre j hb
  · subst h; rw [hi]; simp
  · rw [show decide (j < i) = false by simp; omega]
    cases hs : S j
    · rfl
    · obtain ⟨o, _, _, _, _, _, _, q7, _⟩ := hp j y hj
      cases hb : y.pre.testBit i
      · have hxx : (items.take j)[i]? = some x := by rw [List.getElem?_take, if_pos h]; exact hx
        have := (fitsI_spec q7 hxx hb).2.2.2 l hl
        rw [hwb] at this; cases this
      · have := hS j y hj hs i hb
        rw [hi] at this; cases this

/-- The state behind operation i. -/
theorem agree_wr (hp : PlanOk X Γ ops ρ σ0 items) {S : Nat → Bool} (hS : Closed items S) {i : Nat} {x : Item} (hx : items[i]? = some x) (hi : S i = false) {S' : Nat → Bool} (hS' : ∀ j, S' j = (S j || decide (j = i))) (l : Nat) :
    look (appl S' items 0 σ0) l = look ((appl S items 0 σ0).after x.dst x.r) l := by
  have hi2 : i < items.length := (List.getElem?_eq_some_iff.1 hx).1
  by_cases hw : Wr x.dst x.r l
  · -- items = take i, x, drop (i+1)
    have hsplit : items = items.take i ++ x :: items.drop (i + 1) := by
      conv => lhs; rw [← List.take_append_drop i items]
      congr 1
      rw [List.drop_eq_getElem_cons hi2]
      congr 1
      exact (List.getElem?_eq_some_iff.1 hx).2
    have hlen : (items.take i).length = i := by simp; omega
    have hno : ∀ j y, items[j]? = some y → i < j → Wr y.dst y.r l → S j = false := fun j y hj hlt hwy => by
      cases hs : S j
      · rfl
      · obtain ⟨o, _, q2, _, q4, _, _, q7, _⟩ := hp j y hj
        obtain ⟨o', _, p2, _, p4, _⟩ := hp i x hx
        have hxw : x.wr.testBit l = true := by rw [p4, ← p2]; exact wrBits_ok hw
        have hyw : y.wr.testBit l = true := by rw [q4, ← q2]; exact wrBits_ok hwy
        cases hb : y.pre.testBit i
        · have hxx : (items.take j)[i]? = some x := by rw [List.getElem?_take, if_pos hlt]; exact hx
          have := (fitsI_spec q7 hxx hb).2.2.1 l hxw
          rw [hyw] at this; cases this.2
        · have := hS j y hj hs i hb
          rw [hi] at this; cases this
    have e1 : look (appl S' items 0 σ0) l = look ((appl S' (items.take i) 0 σ0).after x.dst x.r) l := by
      conv => lhs; rw [hsplit]
      rw [appl_append, appl, hlen, Nat.zero_add, show S' i = true by rw [hS']; simp, if_pos rfl]
      have := appl_agree (S := S') (S' := fun _ => false) l (items.drop (i + 1)) (i + 1) ((appl S' (items.take i) 0 σ0).after x.dst x.r) ((appl S' (items.take i) 0 σ0).after x.dst x.r) rfl rfl (fun j y hj hwy => by
        rw [List.getElem?_drop] at hj
        have := hno (i + 1 + j) y hj (by omega) hwy
        rw [hS', this]; simp; omega)
      rw [this, appl_all_eq _ _ _ _ (fun _ _ => rfl)]
    rw [e1]
    exact after_same (by rw [appl_slots, appl_slots]) (.inr hw) (fun t ht => by rw [slot_out (by rw [appl_slots]; rw [appl_slots] at ht; exact ht), slot_out ht])
  · rw [after_out hw]
    refine appl_agree l items 0 σ0 σ0 rfl rfl (fun j y hj hwy => ?_)
    simp only [Nat.zero_add]
    rw [hS']
    have : j ≠ i := fun e => by subst e; rw [hx] at hj; cases hj; exact hw hwy
    simp [this]

/-- Where the run stands behind the operations of S. -/
structure Stand (B : Nat) (w0 : World) (c : Ct) (σ0 : St) (items : List Item) (ρ : List Sc) (S : Nat → Bool) (c' : Ct) (a : Act) (w : World) : Prop where
  sub : c.sub c'
  env : c'.ρ = ρ
  good : Good B w0 (appl S items 0 σ0) c' a w
  β : ∀ p, (∀ j x, items[j]? = some x → S j = true → p ∉ x.r.nb) → c'.β p = c.β p
  R : ∀ p, (∀ j x, items[j]? = some x → S j = true → p ∉ x.r.nr) → c'.R p = c.R p
end
end Go.Proofs.YtkjgcalkkfgmlaaDoor
namespace Go.Proofs.YtkjgcalkkfgmlaaDoor
open Go.RowKit

section
variable {X : Cx} {Γ : Nat → List Sc → Option (List Sc)} {ops : List Oper} {ρ : List Sc} {σ0 : St} {items : List Item} {B : Nat} {w0 : World} {c c0 : Ct} {a : Act} {w : World}

theorem appl_lens (S : Nat → Bool) : ∀ (l : List Item) (j : Nat) (σ : St), σ.blks.length ≤ (appl S l j σ).blks.length ∧ σ.rows.length ≤ (appl S l j σ).rows.length
  | [], _, _ => ⟨Nat.le_refl _, Nat.le_refl _⟩
  | x :: l, j, σ => by
    have ih := appl_lens S l (j + 1) (if S j then σ.after x.dst x.r else σ)
    have h1 := putBlks_length x.r.blks σ.blks
    have h2 := putRows_length x.r.rows σ.rows
    simp only [appl]
    split at ih
    · rename_i hs
      rw [if_pos hs]
      exact ⟨Nat.le_trans h1.1 ih.1, Nat.le_trans h2.1 ih.2⟩
    · rename_i hs
      rw [if_neg hs]; exact ih
theorem appl_keys (S : Nat → Bool) : ∀ (l : List Item) (j : Nat) (σ : St) (i : Nat) (x : Item), l[i]? = some x → S (j + i) = true → (∀ y ∈ x.r.blks, y.1 < (appl S l j σ).blks.length) ∧ (∀ y ∈ x.r.rows, y.1 < (appl S l j σ).rows.length)
  | y :: l, j, σ, 0, x, h, hs => by
    simp at h; subst h
    simp only [Nat.add_zero] at hs
    simp only [appl, hs, if_true]
    have h1 := putBlks_length y.r.blks σ.blks
    have h2 := putRows_length y.r.rows σ.rows
    have h3 := appl_lens S l (j + 1) (σ.after y.dst y.r)
    exact ⟨fun z hz => Nat.lt_of_lt_of_le (h1.2 z hz) h3.1, fun z hz => Nat.lt_of_lt_of_le (h2.2 z hz) h3.2⟩
  | y :: l, j, σ, i + 1, x, h, hs => by
    simp only [appl]
    exact appl_keys S l (j + 1) _ i x (by simpa using h) (by rw [show j + 1 + i = j + (i + 1) by omega]; exact hs)
  | [], _, _, _, _, h, _ => by simp at h

theorem step_any (hX : X.ok Γ B w0) (hp : PlanOk X Γ ops ρ σ0 items) (hf0 : Fresh σ0 c) {S : Nat → Bool} (hS : Closed items S) {c' : Ct} (hst : Stand B w0 c σ0 items ρ S c' a w) {i : Nat} {x : Item} (hx : items[i]? = some x) (hpre : ∀ k, x.pre.testBit k = true → S k = true) (hi : S i = false)
    {S' : Nat → Bool} (hS' : ∀ j, S' j = (S j || decide (j = i))) (Q : Exit → Act → World → Prop) (K : Act → World → Prop) (hK : ∀ c2 a2 w2, Stand B w0 c σ0 items ρ S' c2 a2 w2 → K a2 w2) : wpOp X.P ops.toArray Q i K a w := by
  obtain ⟨o, ho, hdst, hrd, hwr, hprq, hact, hfit, hedge⟩ := hp i x hx
  have hlook : ∀ l, Rs (appl allS (items.take i) 0 σ0) (oTmps ops o) (oDeep ops o) l → look (appl S items 0 σ0) l = look (appl allS (items.take i) 0 σ0) l := fun l hl =>
    agree_rd hp hS hx hpre hi (by rw [hrd]; exact rdBits_ok hl)
  have hguard : wantedS ops (appl S items 0 σ0) o = wantedS ops (appl allS (items.take i) 0 σ0) o := by
    unfold wantedS
    cases hg : o.guard with
    | none => rfl
    | some gw =>
      obtain ⟨gi, want⟩ := gw
      simp only
      cases ht : (ops[gi]?).bind (·.dst) with
      | none => rfl
      | some t =>
        have hmem : t ∈ oTmps ops o := by unfold oTmps; rw [hg]; simp only; rw [ht]; simp
        have := hlook (3 * t) (.inl ⟨t, hmem, rfl⟩)
        rw [look_slot, look_slot] at this
        simp only [(Prod.mk.inj this).1]
  -- the state behind it
  have hfin : ∀ (c2 : Ct) (v : Value) (w2 : World), c'.sub c2 → c2.ρ = ρ → x.r.val.rel c2 v → Good B w0 { (appl S items 0 σ0) with blks := putBlks (appl S items 0 σ0).blks x.r.blks, rows := putRows (appl S items 0 σ0).rows x.r.rows } c2 a w2 →
      (∀ p, p ∉ x.r.nb → c2.β p = c'.β p) → (∀ p, p ∉ x.r.nr → c2.R p = c'.R p) → K (a.put o.dst v) w2 := by
    intro c2 v w2 hsub henv hrel hg hβ hR
    refine hK c2 _ w2 ⟨hst.sub.trans hsub, henv, ?_, fun p h => ?_, fun p h => ?_⟩
    · have g1 := hg.put hrel o.dst
      refine g1.congr ?_ (fun l => ?_)
      · have := g1.size
        rw [appl_slots]
        have h2 := hst.good.size
        rw [appl_slots] at h2
        cases hd : o.dst <;> simp [Act.put] <;> exact h2
      · rw [agree_wr hp hS hx hi hS' l, hdst]
        unfold St.after
        cases o.dst <;> rfl
    · rw [hβ p (h i x hx (by rw [hS']; simp))]
      exact hst.β p (fun j y hj hs => h j y hj (by rw [hS', hs]; rfl))
    · rw [hR p (h i x hx (by rw [hS']; simp))]
      exact hst.R p (fun j y hj hs => h j y hj (by rw [hS', hs]; rfl))
  unfold wpOp
  simp only [List.getElem?_toArray, ho]
  rcases hact with ⟨hw, hr⟩ | ⟨hw, r0, sv, hr0, hpu, hnv, hneeds, hcalls, hr, hsv⟩
  · have hwant := wanted_ok (hguard.trans hw) hst.good
    rw [if_neg (by rw [hwant]; simp)]
    exact hfin c' undef w (.refl _) hst.env (by rw [hr]; exact ⟨[], rfl, trivial⟩) (by rw [hr]; exact hst.good) (fun _ _ => rfl) (fun _ _ => rfl)
  · have hwant := wanted_ok (hguard.trans hw) hst.good
    rw [if_pos hwant]
    left
    unfold stepR at hr0
    split at hr0
    rotate_left
    · cases hr0
    rename_i r0' hsym
    split at hr0
    rotate_left
    · cases hr0
    rename_i hgc
    cases hr0
    simp only [Bool.and_eq_true] at hgc
    obtain ⟨hgood, hcallok⟩ := hgc
    simp only [goodR, Bool.and_eq_true, List.all_eq_true, List.any_eq_true] at hgood
    obtain ⟨hgb, hgr⟩ := hgood
    have hnb : ∀ p ∈ r0.nb, (appl allS (items.take i) 0 σ0).blks.length ≤ p := fun p hp' => by rw [Nat.eq_of_beq_eq_true (hgb p hp').1]; exact Nat.le_refl _
    have hnr : ∀ p ∈ r0.nr, (appl allS (items.take i) 0 σ0).rows.length ≤ p := fun p hp' => Nat.le_of_ble_eq_true (hgr p hp').1
    have hrd2 : (appl allS (items.take i) 0 σ0).rd ops o = rdOf (appl S items 0 σ0).slot (appl S items 0 σ0).blk (appl S items 0 σ0).row (oTmps ops o) (oDeep ops o) (appl allS (items.take i) 0 σ0).nv (appl allS (items.take i) 0 σ0).blks.length (appl allS (items.take i) 0 σ0).rows.length := by
      unfold St.rd
      exact (rdOf_congr (oDeep_sub ops o) hlook _ _ _).symm
    rw [hrd2] at hsym
    have hval : x.r.val = sv ∧ x.r.blks = r0.blks ∧ x.r.rows = r0.rows ∧ x.r.nb = r0.nb ∧ x.r.nr = r0.nr := by rw [hr]; exact ⟨rfl, rfl, rfl, rfl, rfl⟩
    obtain ⟨v1, v2, v3, v4, v5⟩ := hval
    have hlens := appl_lens allS (items.take i) 0 σ0
    have hother : ∀ (p j : Nat) (y : Item), items[j]? = some y → S j = true → (p ∈ r0.nb → p ∉ y.r.nb) ∧ (p ∈ r0.nr → p ∉ y.r.nr) := by
      intro p j y hj hs
      rcases Nat.lt_trichotomy j i with h | h | h
      · have hy : (items.take i)[j]? = some y := by rw [List.getElem?_take, if_pos h]; exact hj
        have := fitsI_new hfit hy
        rw [v4, v5] at this
        exact ⟨fun h1 h2 => this.1 p h2 h1, fun h1 h2 => this.2 p h2 h1⟩
      · subst h; rw [hi] at hs; cases hs
      · obtain ⟨o', _, _, _, _, _, _, hfit', _⟩ := hp j y hj
        have hy : (items.take j)[i]? = some x := by rw [List.getElem?_take, if_pos h]; exact hx
        have := fitsI_new hfit' hy
        rw [v4, v5] at this
        exact ⟨fun h1 => this.1 p h1, fun h1 => this.2 p h1⟩
    have hfb : ∀ p ∈ r0.nb, c'.β p = none := fun p hp' => by
      rw [hst.β p (fun j y hj hs => (hother p j y hj hs).1 hp')]
      exact hf0.β p (Nat.le_trans hlens.1 (hnb p hp'))
    have hfr : ∀ p ∈ r0.nr, c'.R p = none := fun p hp' => by
      rw [hst.R p (fun j y hj hs => (hother p j y hj hs).2 hp')]
      exact hf0.R p (Nat.le_trans hlens.2 (hnr p hp'))
    have hweak : ∀ (c2 : Ct) (v : Value), c2.ρ = ρ → r0.val.rel c2 v → x.r.val.rel c2 v := fun c2 v hc2 hv => by
      rw [v1]
      rcases hsv with rfl | ⟨e, y, e1, rfl, e3⟩
      · exact hv
      · rw [e1] at hv
        have hv : v = .bool (e.ev c2.ρ).bool := hv
        show v = .bool y
        rw [hv, hc2, e3]
    have hneeds' : ∀ e ∈ r0.needs, (e.ev c'.ρ).bool = true := fun e he => by rw [hst.env]; exact hneeds e he
    have hkey : r0.call = none ∨ ∃ f es n, r0.call = some (f, es, n) := by cases r0.call with | none => exact .inl rfl | some z => exact .inr ⟨z.1, z.2.1, z.2.2, rfl⟩
    rcases hkey with hcall | ⟨f, es, n, hcall⟩
    · obtain ⟨nx, w', v, c2, hrun, hnx, hle, hβ, hR, hrel, hg⟩ := op_ok (o := o) hX.pl hst.good (rdOf_ok hst.good _ _ _ _ _) hfb hfr hsym hcall hneeds'
      have henv2 : c2.ρ = ρ := hle.ρ.trans hst.env
      have hput : K (a.put o.dst v) w' := hfin c2 v w' hle.sub henv2 (hweak c2 v henv2 hrel) (by rw [v2, v3]; exact hg) (by rw [v4]; exact hβ) (by rw [v5]; exact hR)
      unfold Oper.wp
      rw [hrun]
      rcases hnx with rfl | ⟨rfl, rfl⟩
      · exact hput
      · exact hput
    · obtain ⟨rs, hF, hlen, hrs⟩ := hcalls f es n hcall
      refine call_ok (o := o) hst.good (rdOf_ok hst.good _ _ _ _ _) hX.cons hsym hcall (rs := rs) (by rw [hst.env]; exact hF) (fun k hk => by rw [hst.env]; exact hrs k hk) hfr K _ ?_
      intro v w' c2 hle hβ hR hrel hg
      have henv2 : c2.ρ = ρ := hle.ρ.trans hst.env
      exact hfin c2 v w' hle.sub henv2 (hweak c2 v henv2 hrel) (by rw [v2, v3]; exact hg) (fun p _ => by rw [hβ]) (by rw [v5]; exact hR)

theorem any_sound (hX : X.ok Γ B w0) (hp : PlanOk X Γ ops ρ σ0 items) (hlen : items.length = ops.length) (hf0 : Fresh σ0 c) (Q : Exit → Act → World → Prop) (hQ : ∀ c2 a2 w2, Stand B w0 c σ0 items ρ allS c2 a2 w2 → Q .normal a2 w2) :
    ∀ (fuel : Nat) (listed : Array Bool) (a : Act) (w : World) (c' : Ct), listed.size = ops.length → Closed items (inS listed) → Stand B w0 c σ0 items ρ (inS listed) c' a w → (∃ l : List Nat, l.length ≤ fuel ∧ ∀ i, i < ops.length → inS listed i = false → i ∈ l) →
      wpAny X.P .any ops.toArray Q fuel listed a w := by
  have hready : ∀ (listed : Array Bool), listed.size = ops.length → Closed items (inS listed) → Region.ready .any ops.toArray listed = [] → ∀ i, i < ops.length → inS listed i = true := by
    intro listed hsz hcl hr i
    induction i using Nat.strongRecOn with
    | _ i ih =>
      intro hi
      cases hs : inS listed i
      · exfalso
        have : i ∈ Region.ready .any ops.toArray listed := by
          rw [mem_ready]
          refine ⟨?_, ops[i], by simp [hi], fun e he hb => ?_⟩
          · unfold inS at hs
            have : i < listed.size := by omega
            simp [Array.getElem?_eq_getElem this] at hs ⊢; exact hs
          · obtain ⟨x, hx⟩ : ∃ x, items[i]? = some x := ⟨items[i], List.getElem?_eq_getElem (by omega)⟩
            obtain ⟨o, ho, _, _, _, _, _, _, hedge⟩ := hp i x hx
            have ho2 : ops[i] = o := by rw [List.getElem?_eq_getElem hi] at ho; exact Option.some.inj ho
            unfold edgesI at hedge
            rw [ho2] at he
            have := List.all_eq_true.1 hedge e (by simpa using he)
            simp only [hb, Bool.not_true, Bool.false_or] at this
            have hlt : e.on < i := Nat.le_of_ble_eq_true (by simpa [Nat.blt] using this)
            exact ih e.on hlt (by omega)
        rw [hr] at this; cases this
      · rfl
  have hend : ∀ (listed : Array Bool) (a : Act) (w : World) (c' : Ct), Stand B w0 c σ0 items ρ (inS listed) c' a w → (∀ i, i < ops.length → inS listed i = true) → Q .normal a w := by
    intro listed a w c' hst hall
    refine hQ c' a w ⟨hst.sub, hst.env, ?_, fun p h => hst.β p (fun j x hj _ => h j x hj rfl), fun p h => hst.R p (fun j x hj _ => h j x hj rfl)⟩
    refine hst.good.congr (by have := hst.good.size; rw [appl_slots] at this ⊢; exact this) (fun l => appl_agree l items 0 σ0 σ0 rfl rfl (fun i x hx _ => ?_))
    have : i < items.length := (List.getElem?_eq_some_iff.1 hx).1
    simp only [Nat.zero_add, allS]
    exact (hall i (by omega)).symm
  intro fuel
  induction fuel with
  | zero =>
    intro listed a w c' hsz hcl hst ⟨l, hl, hcov⟩
    have hall : ∀ i, i < ops.length → inS listed i = true := fun i hi => by
      cases hs : inS listed i
      · have hm := hcov i hi hs
        have : l = [] := List.eq_nil_of_length_eq_zero (by omega)
        subst this
        cases hm
      · rfl
    refine ⟨?_, hend listed a w c' hst hall⟩
    cases hr : Region.ready .any ops.toArray listed with
    | nil => rfl
    | cons i is =>
      have : i ∈ Region.ready .any ops.toArray listed := by rw [hr]; exact List.mem_cons_self ..
      obtain ⟨h0, o, ho, _⟩ := mem_ready.1 this
      have hi : i < ops.length := by have := (Array.getElem?_eq_some_iff.1 ho).1; simpa using this
      have := hall i hi
      unfold inS at this
      have hlt : i < listed.size := by omega
      simp [Array.getElem?_eq_getElem hlt] at h0 this
      rw [h0] at this; cases this
  | succ fuel ih =>
    intro listed a w c' hsz hcl hst ⟨l, hl, hcov⟩
    refine ⟨fun hr => hend listed a w c' hst (hready listed hsz hcl hr), fun i hi => ?_⟩
    obtain ⟨h0, o, ho, hedges⟩ := mem_ready.1 hi
    have hilt : i < ops.length := by have := (Array.getElem?_eq_some_iff.1 ho).1; simpa using this
    obtain ⟨x, hx⟩ : ∃ x, items[i]? = some x := ⟨items[i], List.getElem?_eq_getElem (by omega)⟩
    have hlt : i < listed.size := by omega
    have hun : inS listed i = false := by unfold inS; simp [Array.getElem?_eq_getElem hlt] at h0 ⊢; exact h0
    obtain ⟨o', ho', _, _, _, hpre, _⟩ := hp i x hx
    have hoo : o' = o := by simp at ho; rw [ho] at ho'; exact (Option.some.inj ho').symm
    subst hoo
    have hprein : ∀ k, x.pre.testBit k = true → inS listed k = true := fun k hk => by
      rw [hpre] at hk
      obtain ⟨e, he, hb, hor⟩ := preOf_spec hk
      have hl1 := hedges e (by simpa using he) hb
      rcases hor with rfl | ⟨y, hy, hyk⟩
      · exact hl1
      · rw [List.getElem?_take] at hy
        split at hy
        · exact hcl e.on y hy hl1 k hyk
        · cases hy
    have hset : ∀ j, inS (listed.setIfInBounds i true) j = (inS listed j || decide (j = i)) := fun j => by
      unfold inS
      by_cases hj : j = i
      · subst hj; simp [hlt]
      · simp [Array.getElem?_setIfInBounds_ne (Ne.symm hj), hj]
    refine step_any hX hp hf0 hcl hst hx hprein hun hset Q _ (fun c2 a2 w2 hst2 => ih _ a2 w2 c2 (by simpa using hsz) (fun j y hj hs k hk => ?_) hst2 ⟨l.erase i, ?_, fun j hj hs => ?_⟩)
    · rw [hset] at hs ⊢
      by_cases hji : j = i
      · subst hji
        rw [hx] at hj; cases hj
        rw [hprein k hk]; rfl
      · simp [hji] at hs
        rw [hcl j y hj hs k hk]; rfl
    · have hm := hcov i hilt hun
      rw [List.length_erase_of_mem hm]; omega
    · rw [hset] at hs
      simp only [Bool.or_eq_false_iff, decide_eq_false_iff_not] at hs
      exact (List.mem_erase_of_ne hs.2).2 (hcov j hj hs.1)

theorem plan_is {ops : List Oper} {σ : St} {N : Nx} {itemsf : List Item} {r : List Sc} (hp : PlanOk X Γ ops (c.ρ ++ r) σ itemsf) (hnv : (appl allS itemsf 0 σ).nv = (c.ρ ++ r).length) (hi : Is B w0 c0 c σ c.ρ N a w) {c2 : Ct} {a2 : Act} {w2 : World}
    (hst : Stand B w0 { c with ρ := c.ρ ++ r } σ itemsf (c.ρ ++ r) allS c2 a2 w2) : Is B w0 c0 c2 (appl allS itemsf 0 σ) (c.ρ ++ r) N a2 w2 := by
  refine ⟨hi.sub.trans ⟨hst.sub.K, hst.sub.β, hst.sub.R⟩, hst.env, hst.good, ⟨fun p hp' => ?_, fun p hp' => ?_⟩, hnv, ?_⟩
  · rw [hst.β p (fun j x hj _ hm => ?_)]
    · exact hi.fresh.β p (Nat.le_trans (appl_lens allS itemsf 0 σ).1 hp')
    · obtain ⟨o, ho, _, _, _, _, hact, _, _⟩ := hp j x hj
      rcases hact with ⟨_, hr⟩ | ⟨_, r0, sv, hr0, _, _, _, _, hr, _⟩
      · rw [hr] at hm; simp [skipR, OpR.pure] at hm
      · rw [hr] at hm
        unfold stepR at hr0
        split at hr0
        · split at hr0
          · rename_i hg; cases hr0
            simp only [Bool.and_eq_true, goodR, List.all_eq_true, List.any_eq_true] at hg
            obtain ⟨y, hy, e⟩ := (hg.1.1 p hm).2
            have := (appl_keys allS itemsf 0 σ j x hj rfl).1 y (by rw [hr]; exact hy)
            rw [Nat.eq_of_beq_eq_true e] at this; omega
          · cases hr0
        · cases hr0
  · rw [hst.R p (fun j x hj _ hm => ?_)]
    · exact hi.fresh.R p (Nat.le_trans (appl_lens allS itemsf 0 σ).2 hp')
    · obtain ⟨o, ho, _, _, _, _, hact, _, _⟩ := hp j x hj
      rcases hact with ⟨_, hr⟩ | ⟨_, r0, sv, hr0, _, _, _, _, hr, _⟩
      · rw [hr] at hm; simp [skipR, OpR.pure] at hm
      · rw [hr] at hm
        unfold stepR at hr0
        split at hr0
        · split at hr0
          · rename_i hg; cases hr0
            simp only [Bool.and_eq_true, goodR, List.all_eq_true, List.any_eq_true] at hg
            obtain ⟨y, hy, e⟩ := (hg.1.2 p hm).2
            have := (appl_keys allS itemsf 0 σ j x hj rfl).2 y (by rw [hr]; exact hy)
            rw [Nat.eq_of_beq_eq_true e] at this; omega
          · cases hr0
        · cases hr0
  · have : ∀ (l : List Item) (j : Nat) (s : St), (appl allS l j s).lv = s.lv := by
      intro l
      induction l with
      | nil => intro _ _; rfl
      | cons x l ih => intro j s; simp only [appl, allS, if_true]; rw [ih]; rfl
    rw [this]; exact hi.lv
/-- The head in any order, then the rest in sequence. -/
theorem any_head (hX : X.ok Γ B w0) {m : Nat} (hp : PlanOk X Γ ops ρ σ0 items) (hlen : items.length = m) (hm : m < ops.length) (hs : Region.sinkB .any ops.toArray m = true) (hc : Region.chainB .any ops.toArray m = true)
    (hq : Region.seqB .any ops.toArray (ops.length - m) m (headDone m ops.length) = true) (hf0 : Fresh σ0 c) (Q : Exit → Act → World → Prop) (hQ : ∀ c2 a2 w2, Stand B w0 c σ0 items ρ allS c2 a2 w2 → wpList X.P ops.toArray Q (ops.drop m) a2 w2) :
    ∀ (h : Nat) (listed : Array Bool) (a : Act) (w : World) (c' : Ct), HeadInv .any ops.toArray m listed → Closed items (inS listed) → Stand B w0 c σ0 items ρ (inS listed) c' a w → (∃ l : List Nat, l.length = h ∧ l.Nodup ∧ ∀ i, i ∈ l ↔ i < m ∧ inS listed i = false) →
      wpAny X.P .any ops.toArray Q (h + (ops.length - m)) listed a w := by
  have hm' : m < ops.toArray.size := by simpa using hm
  have hready : ∀ (listed : Array Bool), HeadInv .any ops.toArray m listed → Region.ready .any ops.toArray listed = [] → ∀ i, i < m → inS listed i = true := by
    intro listed inv hr i
    have hsz : listed.size = ops.length := by simpa using inv.size
    induction i using Nat.strongRecOn with
    | _ i ih =>
      intro hi
      cases hs : inS listed i
      · exfalso
        have : i ∈ Region.ready .any ops.toArray listed := by
          rw [mem_ready]
          refine ⟨?_, ops[i], by simp, fun e he hb => ?_⟩
          · unfold inS at hs
            have : i < listed.size := by omega
            simp [Array.getElem?_eq_getElem this] at hs ⊢; exact hs
          · obtain ⟨x, hx⟩ : ∃ x, items[i]? = some x := ⟨items[i], List.getElem?_eq_getElem (by omega)⟩
            obtain ⟨o, ho, _, _, _, _, _, _, hedge⟩ := hp i x hx
            have ho2 : ops[i] = o := by rw [List.getElem?_eq_getElem (by omega)] at ho; exact Option.some.inj ho
            unfold edgesI at hedge
            rw [ho2] at he
            have := List.all_eq_true.1 hedge e (by simpa using he)
            simp only [hb, Bool.not_true, Bool.false_or] at this
            have hlt : e.on < i := Nat.le_of_ble_eq_true (by simpa [Nat.blt] using this)
            exact ih e.on hlt (by omega)
        rw [hr] at this; cases this
      · rfl
  intro h
  induction h with
  | zero =>
    intro listed a w c' inv hcl hst ⟨l, hl, _, hcov⟩
    have hsz : listed.size = ops.length := by simpa using inv.size
    have hall : ∀ i, i < m → inS listed i = true := fun i hi => by
      cases hs : inS listed i
      · have hmem := (hcov i).2 ⟨hi, hs⟩
        have : l = [] := List.eq_nil_of_length_eq_zero hl
        subst this
        cases hmem
      · rfl
    have he : listed = headDone m ops.length := by
      refine Array.ext (by simp [headDone, hsz]; omega) (fun i h1 h2 => ?_)
      by_cases hi : i < m
      · have := hall i hi
        unfold inS at this
        simp [h1] at this
        rw [this]
        simp [headDone, hi]
      · have := inv.tail i (by omega) (by simpa using (by omega : i < ops.length))
        simp [h1] at this
        rw [this]
        simp [headDone, List.getElem_append, hi]
    have hst2 : Stand B w0 c σ0 items ρ allS c' a w := by
      refine ⟨hst.sub, hst.env, ?_, fun p h => hst.β p (fun j x hj _ => h j x hj rfl), fun p h => hst.R p (fun j x hj _ => h j x hj rfl)⟩
      refine hst.good.congr (by have := hst.good.size; rw [appl_slots] at this ⊢; exact this) (fun l => appl_agree l items 0 σ0 σ0 rfl rfl (fun i x hx _ => ?_))
      have : i < items.length := (List.getElem?_eq_some_iff.1 hx).1
      simp only [Nat.zero_add, allS]
      exact (hall i (by omega)).symm
    have := wpAny_of_seq (P := X.P) (md := .any) (ops := ops.toArray) (Q' := Q) (ops.drop m) m listed a w (fun j => by simp [List.getElem?_drop]) (by rw [List.length_drop, he]; exact hq) (hQ c' a w hst2)
    rw [List.length_drop] at this
    rw [Nat.zero_add]; exact this
  | succ h ih =>
    intro listed a w c' inv hcl hst ⟨l, hl, hnd, hcov⟩
    have hsz : listed.size = ops.length := by simpa using inv.size
    obtain ⟨i0, hi0⟩ : ∃ i0, i0 ∈ l := by
      cases l with
      | nil => simp at hl
      | cons x r => exact ⟨x, List.mem_cons_self ..⟩
    obtain ⟨hi0m, hi0u⟩ := (hcov i0).1 hi0
    rw [show h + 1 + (ops.length - m) = (h + (ops.length - m)) + 1 by omega]
    refine ⟨fun hr => (by have := hready listed inv hr i0 hi0m; rw [hi0u] at this; cases this), fun i hi => ?_⟩
    obtain ⟨h0, o, ho, hedges⟩ := mem_ready.1 hi
    have hilt : i < ops.length := by have := (Array.getElem?_eq_some_iff.1 ho).1; simpa using this
    have him : i < m := by
      rcases Nat.lt_or_ge i m with h | h
      · exact h
      · exact absurd hi (tail_waits hs hc hm' inv _ i0 rfl hi0m (getD_in (by omega) hi0u) i h)
    obtain ⟨x, hx⟩ : ∃ x, items[i]? = some x := ⟨items[i], List.getElem?_eq_getElem (by omega)⟩
    have hlt : i < listed.size := by omega
    have hun : inS listed i = false := by unfold inS; simp [Array.getElem?_eq_getElem hlt] at h0 ⊢; exact h0
    obtain ⟨o', ho', _, _, _, hpre, _⟩ := hp i x hx
    have hoo : o' = o := by simp at ho; rw [ho] at ho'; exact (Option.some.inj ho').symm
    subst hoo
    have hprein : ∀ k, x.pre.testBit k = true → inS listed k = true := fun k hk => by
      rw [hpre] at hk
      obtain ⟨e, he, hb, hor⟩ := preOf_spec hk
      have hl1 := hedges e (by simpa using he) hb
      rcases hor with rfl | ⟨y, hy, hyk⟩
      · exact hl1
      · rw [List.getElem?_take] at hy
        split at hy
        · exact hcl e.on y hy hl1 k hyk
        · cases hy
    have hset : ∀ j, inS (listed.setIfInBounds i true) j = (inS listed j || decide (j = i)) := fun j => by
      unfold inS
      by_cases hj : j = i
      · subst hj; simp [hlt]
      · simp [Array.getElem?_setIfInBounds_ne (Ne.symm hj), hj]
    refine step_any hX hp hf0 hcl hst hx hprein hun hset Q _ (fun c2 a2 w2 hst2 => ih _ a2 w2 c2 (inv.set hi him) (fun j y hj hs k hk => ?_) hst2 ⟨l.erase i, ?_, hnd.erase i, fun j => ?_⟩)
    · rw [hset] at hs ⊢
      by_cases hji : j = i
      · subst hji
        rw [hx] at hj; cases hj
        rw [hprein k hk]; rfl
      · simp [hji] at hs
        rw [hcl j y hj hs k hk]; rfl
    · have hmem := (hcov i).2 ⟨him, hun⟩
      rw [List.length_erase_of_mem hmem]; omega
    · rw [hset, hnd.mem_erase_iff, hcov j]
      simp only [Bool.or_eq_false_iff, decide_eq_false_iff_not]
      constructor
      · rintro ⟨h1, h2, h3⟩; exact ⟨h2, h3, h1⟩
      · rintro ⟨h1, h2, h3⟩; exact ⟨h3, h1, h2⟩

/-- A region that draws its order. -/
theorem draw_sound (hX : X.ok Γ B w0) {id : Nat} {opsA : Array Oper} {σ : St} {N : Nx} {Φ : St → List Sc → Nx → Prop} (h : T.wp Γ (if σ.under then (planOps X opsA.toList opsA.toList 0 σ []).bind fun x => .leaf x.1 else .fail "under") ρ N Φ)
    (hi : Is B w0 c0 c σ ρ N a w) (Q : Exit → Act → World → Prop) (hQ : ∀ σ' r c' a' w', Φ σ' (ρ ++ r) N → Is B w0 c0 c' σ' (ρ ++ r) N a' w' → Q .normal a' w') : (Code.region id opsA true).wp X.P Q a w := by
  split at h
  rotate_left
  · exact h.elim
  rename_i hu
  have h := T.wp_bind h
  obtain ⟨r, itemsf, hΦ, hp, hlen, hnv⟩ := plan_sound opsA.toList 0 σ [] ρ h (fun k _ => by simp) rfl rfl hi.nv (fun j x hj => by simp at hj)
  have henv := hi.env
  subst henv
  have g2 : Good B w0 σ { c with ρ := c.ρ ++ r } a { w with drawn := w.drawn + 1 } := (hi.good.drew).env hu (fun i h => getD_append_lt _ _ _ _ (by rw [← hi.nv]; exact h))
  refine wp_region_any hX.mixed ?_
  have := any_sound (B := B) (w0 := w0) (c := { c with ρ := c.ρ ++ r }) hX hp (by simpa using hlen) ⟨hi.fresh.β, hi.fresh.R⟩ Q (fun c2 a2 w2 hst => ?_) opsA.size (Array.replicate opsA.size false) a { w with drawn := w.drawn + 1 } { c with ρ := c.ρ ++ r } (by simp) (fun j x hj hs => by
    unfold inS at hs
    by_cases hlt : j < opsA.size
    · simp [hlt] at hs
    · simp [hlt] at hs) ⟨.refl _, rfl, ?_, fun _ _ => rfl, fun _ _ => rfl⟩ ⟨List.range opsA.size, by simp, fun i hi' _ => by simpa using hi'⟩
  · simpa using this
  · refine hQ _ r c2 a2 w2 hΦ ⟨hi.sub.trans ⟨hst.sub.K, hst.sub.β, hst.sub.R⟩, hst.env, hst.good, ⟨fun p hp' => ?_, fun p hp' => ?_⟩, hnv, ?_⟩
    · rw [hst.β p (fun j x hj _ hm => ?_)]
      · exact hi.fresh.β p (Nat.le_trans (appl_lens allS itemsf 0 σ).1 hp')
      · obtain ⟨o, ho, _, _, _, _, hact, _, _⟩ := hp j x hj
        rcases hact with ⟨_, hr⟩ | ⟨_, r0, sv, hr0, _, _, _, _, hr, _⟩
        · rw [hr] at hm; simp [skipR, OpR.pure] at hm
        · rw [hr] at hm
          unfold stepR at hr0
          split at hr0
          · split at hr0
            · rename_i hg; cases hr0
              simp only [Bool.and_eq_true, goodR, List.all_eq_true, List.any_eq_true] at hg
              obtain ⟨y, hy, e⟩ := (hg.1.1 p hm).2
              have := (appl_keys allS itemsf 0 σ j x hj rfl).1 y (by rw [hr]; exact hy)
              rw [Nat.eq_of_beq_eq_true e] at this; simp only at hp'; omega
            · cases hr0
          · cases hr0
    · rw [hst.R p (fun j x hj _ hm => ?_)]
      · exact hi.fresh.R p (Nat.le_trans (appl_lens allS itemsf 0 σ).2 hp')
      · obtain ⟨o, ho, _, _, _, _, hact, _, _⟩ := hp j x hj
        rcases hact with ⟨_, hr⟩ | ⟨_, r0, sv, hr0, _, _, _, _, hr, _⟩
        · rw [hr] at hm; simp [skipR, OpR.pure] at hm
        · rw [hr] at hm
          unfold stepR at hr0
          split at hr0
          · split at hr0
            · rename_i hg; cases hr0
              simp only [Bool.and_eq_true, goodR, List.all_eq_true, List.any_eq_true] at hg
              obtain ⟨y, hy, e⟩ := (hg.1.2 p hm).2
              have := (appl_keys allS itemsf 0 σ j x hj rfl).2 y (by rw [hr]; exact hy)
              rw [Nat.eq_of_beq_eq_true e] at this; simp only at hp'; omega
            · cases hr0
          · cases hr0
    · have : ∀ (l : List Item) (j : Nat) (s : St), (appl allS l j s).lv = s.lv := by
        intro l
        induction l with
        | nil => intro _ _; rfl
        | cons x l ih => intro j s; simp only [appl, allS, if_true]; rw [ih]; rfl
      rw [this]; exact hi.lv
  · have e : appl (inS (Array.replicate opsA.size false)) itemsf 0 σ = σ := appl_all_eq _ _ _ _ (fun i hi' => by
      unfold inS
      by_cases hlt : i < opsA.size <;> simp [hlt])
    rw [e]; exact g2
/-- A region that draws the order of its head. -/
theorem tail_sound (hX : X.ok Γ B w0) {inl : Inl} (hinl : InlOk X Γ B w0 inl) {id : Nat} {opsA : Array Oper} {m : Nat} (hB : tailB opsA.toList m = true) {σ : St} {N : Nx} {Φ : St → List Sc → Nx → Prop} (hu : σ.under = true)
    (h : T.wp Γ ((planOps X opsA.toList (opsA.toList.take m) 0 σ []).bind fun x => seqOps X inl opsA.toList (opsA.toList.drop m) m x.1) ρ N Φ)
    (hi : Is B w0 c0 c σ ρ N a w) (Q : Exit → Act → World → Prop) (hQ : ∀ σ' r n c' a' w', Φ σ' (ρ ++ r) (N ++ n) → Is B w0 c0 c' σ' (ρ ++ r) (N ++ n) a' w' → Q .normal a' w') : (Code.region id opsA true).wp X.P Q a w := by
  simp only [tailB, Bool.and_eq_true] at hB
  obtain ⟨⟨⟨hm, hs⟩, hc⟩, hq⟩ := hB
  have hm : m < opsA.toList.length := Nat.le_of_ble_eq_true (by simpa [Nat.blt] using hm)
  have h := T.wp_bind h
  obtain ⟨r, itemsf, hΦ, hp, hlen, hnv⟩ := plan_sound (opsA.toList.take m) 0 σ [] ρ h (fun k hk => by
    rw [List.length_take] at hk
    rw [List.getElem?_take, if_pos (by omega), Nat.zero_add]) rfl rfl hi.nv (fun j x hj => by simp at hj)
  have henv := hi.env
  subst henv
  have g2 : Good B w0 σ { c with ρ := c.ρ ++ r } a { w with drawn := w.drawn + 1 } := (hi.good.drew).env hu (fun i h => getD_append_lt _ _ _ _ (by rw [← hi.nv]; exact h))
  refine wp_region_any hX.mixed ?_
  have hlen' : itemsf.length = m := by rw [hlen, List.length_take]; omega
  have hno : ∀ i, inS (Array.replicate opsA.toList.length false) i = false := fun i => getD_replicate_false _ _
  have := any_head (B := B) (w0 := w0) (c := { c with ρ := c.ρ ++ r }) hX hp hlen' hm hs hc hq ⟨hi.fresh.β, hi.fresh.R⟩ Q (fun c2 a2 w2 hst => by
      refine seq_sound hX hinl (opsA.toList.drop m) m _ (c.ρ ++ r) N Φ c0 c2 a2 w2 Q hΦ (plan_is hp hnv hi hst) (fun σ' r2 n c' a' w' h1 h2 => ?_)
      refine hQ σ' (r ++ r2) n c' a' w' ?_ ?_
      · rw [← List.append_assoc]; exact h1
      · rw [← List.append_assoc]; exact h2) m (Array.replicate opsA.toList.length false) a { w with drawn := w.drawn + 1 } { c with ρ := c.ρ ++ r }
    ⟨by simp, fun j oj _ hl => (by have := hno j; unfold inS at this; rw [this] at hl; cases hl), fun t _ ht => getD_in (by simpa using ht) (hno t)⟩
    (fun j x hj hs' => by rw [hno] at hs'; cases hs')
    ⟨.refl _, rfl, ?_, fun _ _ => rfl, fun _ _ => rfl⟩ ⟨List.range m, by simp, List.nodup_range, fun i => by rw [List.mem_range]; exact ⟨fun h => ⟨h, hno i⟩, fun h => h.1⟩⟩
  · rw [show m + (opsA.toList.length - m) = opsA.toList.length by omega] at this
    simpa using this
  · have e : appl (inS (Array.replicate opsA.toList.length false)) itemsf 0 σ = σ := appl_all_eq _ _ _ _ (fun i hi' => hno _)
    rw [e]; exact g2
end
end Go.Proofs.YtkjgcalkkfgmlaaDoor
