/-
  What an operation does: numbers and tests.
-/
import Derived.Test.YtfaghnapfkpdhaaSymF
import Derived.Laws.StructEq
namespace Go.Proofs.Ytfaghnapfkpdhaa
open Go.RowKit

/-- What is known of types: no stand-in, no guard at a comparison. -/
def PlainTy (P : Program) (pl : List TypeId) : Prop := ∀ t, hasN pl t = true → P.stoodInHeld t = false ∧ P.eqGuardType P.depth t = false
section
variable {P : Program} {c : Ct} {w : World} {pl : List TypeId}

theorem sc_of_rel {sv : SV} {x : SC} (h : sv.sc = some x) {v : Value} (hv : sv.rel c v) : x.rel c v := by
  cases sv with
  | c y => simp [SV.sc] at h; subst h; exact hv
  | t _ => simp [SV.sc] at h

theorem eqSC_run (hpl : PlainTy P pl) : ∀ (d D : Nat) (ty : TypeId) (x y : SC) (e : Ex) (vx vy : Value), d ≤ D → eqSC P pl d ty x y = some e → x.rel c vx → y.rel c vy → (Op.equalIn D ty vx vy).run P w = .ok (e.ev c.ρ).bool w := by
  intro d
  induction d with
  | zero => intro D ty x y e vx vy _ h; simp [eqSC] at h
  | succ d ih =>
    intro D ty x y e vx vy hD h hx hy
    obtain ⟨D, rfl⟩ : ∃ D', D = D' + 1 := ⟨D - 1, by omega⟩
    unfold eqSC at h
    split at h
    · rename_i k0 k p k' q hu
      split at h
      · rename_i hk
        subst hk
        cases h
        have e1 : vx = .int k (p.ev c.ρ).int := hx
        have e2 : vy = .int k (q.ev c.ρ).int := hy
        subst e1 e2
        rw [run_equalIn_int w D ty k k0 _ _ hu, mk2_ev]; rfl
      · cases h
    · rename_i p q hu
      cases h
      have e1 : vx = .bool (p.ev c.ρ).bool := hx
      have e2 : vy = .bool (q.ev c.ρ).bool := hy
      subst e1 e2
      rw [run_equalIn_bool' w D ty _ _ hu, mk2_ev]; rfl
    · rename_i p q hu
      cases h
      have e1 : vx = .string (p.ev c.ρ).str := hx
      have e2 : vy = .string (q.ev c.ρ).str := hy
      subst e1 e2
      rw [run_equalIn_string w D ty _ _ hu, mk2_ev]; rfl
    · rename_i fs xs ys hu
      split at h
      · cases h
      · rename_i hp
        obtain ⟨us, rfl, hxs⟩ := hx
        obtain ⟨vs, rfl, hys⟩ := hy
        have hfs : P.fieldsOf ty = fs := by simp [Program.fieldsOf, hu]
        rw [run_equalIn_struct w D ty us.toArray vs.toArray (by rw [hfs]; exact hu) (hpl ty (by simpa using hp)).1, hfs]
        generalize fs.toList = l at h
        clear hu hfs
        induction l generalizing e with
        | nil => simp at h; subst h; rfl
        | cons f l ihl =>
          simp only [List.foldr_cons] at h
          split at h
          · cases h
          · rename_i hname
            split at h
            · rename_i r p q h1 h2 h3
              split at h
              · rename_i e2 h4
                cases h
                obtain ⟨sp, hp1, hp2⟩ := Option.bind_eq_some_iff.1 h2
                obtain ⟨sq, hq1, hq2⟩ := Option.bind_eq_some_iff.1 h3
                obtain ⟨vp, rp, rp2⟩ := part_run hp1 hxs w
                obtain ⟨vq, rq, rq2⟩ := part_run hq1 hys w
                have := ih D f.type p q e2 vp vq (by omega) h4 (sc_of_rel hp2 rp2) (sc_of_rel hq2 rq2)
                have hl := ihl r h1
                rw [mk2_ev]
                cases hb : (e2.ev c.ρ).bool
                · simp [Op.eqFields, hname, rp, rq, this, hb, U2.ev]
                · simp [Op.eqFields, hname, rp, rq, this, hb, U2.ev, hl]
              · cases h
            · cases h
    · cases h

theorem symBin_run (hpl : PlainTy P pl) {op : BinOp} {ty : TypeId} {x y : SV} {r : OpR} (h : symBin P pl op ty x y = some r) {vx vy : Value} (hx : x.rel c vx) (hy : y.rel c vy) (hn : ∀ e ∈ r.needs, (e.ev c.ρ).bool = true) (ox oy : Operand) :
    r = ⟨r.needs, none, r.val, [], [], [], []⟩ ∧ ∃ v, (do eqGuard op ty ox oy vx vy; binOp op ty vx vy : Sem Value).run P w = .ok v w ∧ r.val.rel c v := by
  unfold symBin at h
  split at h
  · rename_i k p k' q
    have e1 : vx = .int k (p.ev c.ρ).int := hx
    have e2 : vy = .int k' (q.ev c.ρ).int := hy
    subst e1 e2
    by_cases hk : k = k'
    · subst hk
      cases op
      case quo =>
        simp only [↓reduceIte] at h; cases h; refine ⟨rfl, ?_⟩
        have h0 := hn _ (List.mem_singleton.2 rfl)
        rw [mk2_ev] at h0
        have h0 : (q.ev c.ρ).int ≠ 0 := by simpa [U2.ev, Ex.ev] using h0
        exact ⟨_, by simp [eqGuard, binOp, Op.intDiv, h0]; rfl, by show _ = _; rw [mk2_ev]; rfl⟩
      case rem =>
        simp only [↓reduceIte] at h; cases h; refine ⟨rfl, ?_⟩
        have h0 := hn _ (List.mem_singleton.2 rfl)
        rw [mk2_ev] at h0
        have h0 : (q.ev c.ρ).int ≠ 0 := by simpa [U2.ev, Ex.ev] using h0
        exact ⟨_, by simp [eqGuard, binOp, Op.intDiv, h0]; rfl, by show _ = _; rw [mk2_ev]; rfl⟩
      case shl =>
        simp only at h; cases h; refine ⟨rfl, ?_⟩
        have h0 := hn _ (List.mem_singleton.2 rfl)
        rw [mk2_ev] at h0
        have h0 : ¬ (q.ev c.ρ).int < 0 := by have : (0 : Int) ≤ (q.ev c.ρ).int := of_decide_eq_true h0; omega
        exact ⟨_, by simp only [eqGuard, binOp, Op.shift, h0]; rfl, by show _ = _; rw [mk2_ev]; rfl⟩
      case shr =>
        simp only at h; cases h; refine ⟨rfl, ?_⟩
        have h0 := hn _ (List.mem_singleton.2 rfl)
        rw [mk2_ev] at h0
        have h0 : ¬ (q.ev c.ρ).int < 0 := by have : (0 : Int) ≤ (q.ev c.ρ).int := of_decide_eq_true h0; omega
        exact ⟨_, by simp only [eqGuard, binOp, Op.shift, h0]; rfl, by show _ = _; rw [mk2_ev]; rfl⟩
      case andNot =>
        simp only [↓reduceIte] at h; cases h; refine ⟨rfl, ?_⟩
        exact ⟨_, by simp [eqGuard, binOp, Op.intBits]; rfl, by show _ = _; rw [mk2_ev]; simp [U2.ev]⟩
      all_goals
        simp only [↓reduceIte] at h
        first
          | (cases h; done)
          | (cases h; refine ⟨rfl, ?_⟩; exact ⟨_, by simp [eqGuard, binOp, Op.intArith, Op.intBits, Op.intCmp]; rfl, by show _ = _; rw [mk2_ev]; rfl⟩)
    · cases op
      case shl =>
        simp only at h; cases h; refine ⟨rfl, ?_⟩
        have h0 := hn _ (List.mem_singleton.2 rfl)
        rw [mk2_ev] at h0
        have h0 : ¬ (q.ev c.ρ).int < 0 := by have : (0 : Int) ≤ (q.ev c.ρ).int := of_decide_eq_true h0; omega
        exact ⟨_, by simp only [eqGuard, binOp, Op.shift, h0]; rfl, by show _ = _; rw [mk2_ev]; rfl⟩
      case shr =>
        simp only at h; cases h; refine ⟨rfl, ?_⟩
        have h0 := hn _ (List.mem_singleton.2 rfl)
        rw [mk2_ev] at h0
        have h0 : ¬ (q.ev c.ρ).int < 0 := by have : (0 : Int) ≤ (q.ev c.ρ).int := of_decide_eq_true h0; omega
        exact ⟨_, by simp only [eqGuard, binOp, Op.shift, h0]; rfl, by show _ = _; rw [mk2_ev]; rfl⟩
      all_goals (simp only [hk, ↓reduceIte] at h; cases h)
  · rename_i p q
    have e1 : vx = .string (p.ev c.ρ).str := hx
    have e2 : vy = .string (q.ev c.ρ).str := hy
    subst e1 e2
    cases op
    case add =>
      simp only at h; cases h; refine ⟨rfl, ?_⟩
      have h0 := hn _ (List.mem_singleton.2 rfl)
      rw [mk2_ev] at h0
      have h0 : ¬ (9223372036854775807 : Int) < (((p.ev c.ρ).str.size : Int) + ((q.ev c.ρ).str.size : Int)) := by
        have : (((p.ev c.ρ).str ++ (q.ev c.ρ).str).size : Int) ≤ 9223372036854775807 := by simpa [U2.ev, U1.ev, Ex.ev, mk2_ev] using h0
        rw [ByteArray.size_append] at this
        omega
      have hm : IntKind.i64.max = 9223372036854775807 := by decide
      exact ⟨_, by simp [eqGuard, binOp, Op.stringOp, hm, h0]; rfl, by show _ = _; rw [mk2_ev]; rfl⟩
    case eql => simp only at h; cases h; exact ⟨rfl, _, by simp [eqGuard, binOp, Op.stringOp]; rfl, by show _ = _; rw [mk2_ev]; simp [U2.ev]⟩
    case neq => simp only at h; cases h; exact ⟨rfl, _, by simp [eqGuard, binOp, Op.stringOp]; rfl, by show _ = _; rw [mk1_ev, mk2_ev]; simp [U2.ev, U1.ev]⟩
    all_goals (simp only at h; cases h)
  · rename_i p q
    have e1 : vx = .bool (p.ev c.ρ).bool := hx
    have e2 : vy = .bool (q.ev c.ρ).bool := hy
    subst e1 e2
    split at h
    · rename_i hu
      cases h
      exact ⟨rfl, _, by simp [eqGuard, binOp, Op.equal, Op.maxDepth, run_equalIn_bool' w 9999 ty _ _ hu]; rfl, by show _ = _; rw [mk2_ev]; rfl⟩
    · rename_i hu
      cases h
      exact ⟨rfl, _, by simp [eqGuard, binOp, Op.equal, Op.maxDepth, run_equalIn_bool' w 9999 ty _ _ hu]; rfl, by show _ = _; rw [mk1_ev, mk2_ev]; rfl⟩
    · cases h
  · rename_i xs ys
    split at h
    · cases h
    · rename_i hp
      have hg := (hpl ty (by simpa using hp)).2
      split at h
      · rename_i e he
        cases h
        have := eqSC_run (w := w) hpl 4 10000 ty _ _ e vx vy (by omega) he hx hy
        obtain ⟨us, rfl, _⟩ := hx
        obtain ⟨vs, rfl, _⟩ := hy
        exact ⟨rfl, .bool (e.ev c.ρ).bool, by simp [run_eqGuard_agg w .eql ty ox oy _ _ hg, run_eql_struct, this], rfl⟩
      · rename_i e he
        cases h
        have := eqSC_run (w := w) hpl 4 10000 ty _ _ e vx vy (by omega) he hx hy
        obtain ⟨us, rfl, _⟩ := hx
        obtain ⟨vs, rfl, _⟩ := hy
        exact ⟨rfl, .bool !(e.ev c.ρ).bool, by simp [run_eqGuard_agg w .neq ty ox oy _ _ hg, run_neq_struct, this], by show _ = _; rw [mk1_ev]; rfl⟩
      · cases h
  · cases h
end
end Go.Proofs.Ytfaghnapfkpdhaa
