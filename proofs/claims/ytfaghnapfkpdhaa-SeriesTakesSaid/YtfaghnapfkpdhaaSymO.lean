/-
  Contracts, and calls by them.
-/
import Derived.Test.YtfaghnapfkpdhaaSymN
namespace Go.Proofs.Ytfaghnapfkpdhaa
open Go.RowKit

/-- A value that stands for data; ok: the blocks in which its cells may lie. -/
def asRel (w : World) (ok : Nat → Prop) : AS → Value → Sc → Prop
  | .ck k, v, s => v = k.val s
  | .row _ ks agg, v, s => ∃ ad n cap, v = .slice ad n cap ∧ s.list.length = n ∧ n ≤ cap ∧ cap ≤ maxLen ∧
      ∀ j u, (rowFlat agg ks s.list)[j]? = some u → ∃ p o, ad = some ⟨p, o, none⟩ ∧ w.cell? ⟨p, o + j, none⟩ = some u ∧ ok p
def asRelL (w : World) (ok : Nat → Prop) : List AS → List Value → List Sc → Prop
  | [], [], [] => True
  | s :: ss, v :: vs, x :: xs => asRel w ok s v x ∧ asRelL w ok ss vs xs
  | _, _, _ => False
def csRel (w : World) (ok : Nat → Prop) : CS → Value → List Sc → Prop
  | .a s, v, l => ∃ x, l = [x] ∧ asRel w ok s v x
  | .g ss, v, l => ∃ vs, v = .agg vs.toArray ∧ asRelL w ok ss vs l
def csRelL (w : World) (ok : Nat → Prop) : List CS → List Value → List Sc → Prop
  | [], [], l => l = []
  | s :: ss, v :: vs, l => ∃ l1 l2, l = l1 ++ l2 ∧ csRel w ok s v l1 ∧ csRelL w ok ss vs l2
  | _, _, _ => False
def rsRel (w : World) (ok : Nat → Prop) : RS → Value → List Sc → Prop
  | .c s, v, l => csRel w ok s v l
  | .t ss, v, l => ∃ vs, v = .tuple vs.toArray ∧ csRelL w ok ss vs l

def CS.len : CS → Nat | .a _ => 1 | .g ss => ss.length
/-- The blocks in which an argument's cells lie. -/
def asBlk : AS → Value → Sc → Nat → Prop
  | .row _ ks agg, .slice (some a) _ _, s, p => a.block = p ∧ 0 < (rowFlat agg ks s.list).length
  | _, _, _, _ => False
def asBlkL : List AS → List Value → List Sc → Nat → Prop
  | s :: ss, v :: vs, x :: xs, p => asBlk s v x p ∨ asBlkL ss vs xs p
  | _, _, _, _ => False
def csBlk : CS → Value → List Sc → Nat → Prop
  | .a s, v, l, p => ∃ x, l = [x] ∧ asBlk s v x p
  | .g ss, v, l, p => ∃ vs, v = .agg vs.toArray ∧ asBlkL ss vs l p
def csBlkL : List CS → List Value → List Sc → Nat → Prop
  | s :: ss, v :: vs, l, p => ∃ l1 l2, l = l1 ++ l2 ∧ l1.length = s.len ∧ (csBlk s v l1 p ∨ csBlkL ss vs l2 p)
  | _, _, _, _ => False

/-- A call that enters its callee and comes back, or that is done at once. -/
def Lands (P : Program) (f : FuncId) (vs : Array Value) (w : World) (R : Value → World → Prop) : Prop :=
  ((callFunc f vs).run P w = .ok (.enter f vs) w ∧ Calls P f vs w fun e w' => ∃ v, e = .returned v ∧ R v w') ∨ ∃ v w', (callFunc f vs).run P w = .ok (.value v) w' ∧ R v w'
/-- A contract. -/
def Con.holds (P : Program) (con : Con) (F : List Sc → Option (List Sc)) : Prop :=
  ∀ (w : World) (vs : List Value) (l rs : List Sc), csRelL w (fun _ => True) con.args vs l → F l = some rs →
    Lands P con.f vs.toArray w fun v w' => Below w.heap.size w w' ∧ rsRel w' (fun p => w.heap.size ≤ p ∨ csBlkL con.args vs l p) con.res v rs

theorem asRel_mono {w : World} {ok ok' : Nat → Prop} (h : ∀ p, ok p → ok' p) {s : AS} {v : Value} {x : Sc} (hr : asRel w ok s v x) : asRel w ok' s v x := by
  cases s with
  | ck k => exact hr
  | row el ks agg =>
    obtain ⟨ad, n, cap, e, h1, h2, h3, h4⟩ := hr
    exact ⟨ad, n, cap, e, h1, h2, h3, fun j u hj => by obtain ⟨p, o, e1, e2, e3⟩ := h4 j u hj; exact ⟨p, o, e1, e2, h p e3⟩⟩
theorem asRelL_mono {w : World} {ok ok' : Nat → Prop} (h : ∀ p, ok p → ok' p) : ∀ {s : List AS} {v : List Value} {x : List Sc}, asRelL w ok s v x → asRelL w ok' s v x
  | [], [], [], _ => trivial
  | _ :: _, _ :: _, _ :: _, hr => ⟨asRel_mono h hr.1, asRelL_mono h hr.2⟩
  | [], [], _ :: _, hr => hr.elim
  | [], _ :: _, _, hr => hr.elim
  | _ :: _, [], _, hr => hr.elim
  | _ :: _, _ :: _, [], hr => hr.elim
theorem csRel_mono {w : World} {ok ok' : Nat → Prop} (h : ∀ p, ok p → ok' p) {s : CS} {v : Value} {x : List Sc} (hr : csRel w ok s v x) : csRel w ok' s v x := by
  cases s with
  | a s => obtain ⟨y, e, r⟩ := hr; exact ⟨y, e, asRel_mono h r⟩
  | g ss => obtain ⟨y, e, r⟩ := hr; exact ⟨y, e, asRelL_mono h r⟩
theorem csRelL_mono {w : World} {ok ok' : Nat → Prop} (h : ∀ p, ok p → ok' p) : ∀ {s : List CS} {v : List Value} {x : List Sc}, csRelL w ok s v x → csRelL w ok' s v x
  | [], [], _, hr => hr
  | _ :: _, _ :: _, _, ⟨l1, l2, e, r1, r2⟩ => ⟨l1, l2, e, csRel_mono h r1, csRelL_mono h r2⟩
  | [], _ :: _, _, hr => hr.elim
  | _ :: _, [], _, hr => hr.elim
theorem asBlk_ok {w : World} {ok : Nat → Prop} {s : AS} {v : Value} {x : Sc} (hr : asRel w ok s v x) {p : Nat} (hp : asBlk s v x p) : ok p := by
  cases s with
  | ck k => exact hp.elim
  | row el ks agg =>
    obtain ⟨ad, n, cap, rfl, h1, h2, h3, h4⟩ := hr
    cases ad with
    | none => exact hp.elim
    | some a =>
      obtain ⟨rfl, hl⟩ := hp
      obtain ⟨p, o, e1, e2, e3⟩ := h4 0 _ (List.getElem?_eq_getElem hl)
      cases e1; exact e3
theorem asBlkL_ok {w : World} {ok : Nat → Prop} : ∀ {s : List AS} {v : List Value} {x : List Sc}, asRelL w ok s v x → ∀ {p : Nat}, asBlkL s v x p → ok p
  | _ :: _, _ :: _, _ :: _, hr, _, hp => hp.elim (fun h => asBlk_ok hr.1 h) (fun h => asBlkL_ok hr.2 h)
  | [], _, _, _, _, hp => hp.elim
  | _ :: _, [], _, _, _, hp => hp.elim
  | _ :: _, _ :: _, [], _, _, hp => hp.elim
theorem asRelL_len {w : World} {ok : Nat → Prop} : ∀ {s : List AS} {v : List Value} {x : List Sc}, asRelL w ok s v x → x.length = s.length
  | [], [], [], _ => rfl
  | _ :: _, _ :: _, _ :: _, hr => by simp [asRelL_len hr.2]
  | [], [], _ :: _, hr => hr.elim
  | [], _ :: _, _, hr => hr.elim
  | _ :: _, [], _, hr => hr.elim
  | _ :: _, _ :: _, [], hr => hr.elim
theorem csRel_len {w : World} {ok : Nat → Prop} {s : CS} {v : Value} {l : List Sc} (hr : csRel w ok s v l) : l.length = s.len := by
  cases s with
  | a s => obtain ⟨y, rfl, r⟩ := hr; rfl
  | g ss => obtain ⟨y, e, r⟩ := hr; exact asRelL_len r
theorem csBlk_ok {w : World} {ok : Nat → Prop} {s : CS} {v : Value} {l : List Sc} (hr : csRel w ok s v l) {p : Nat} (hp : csBlk s v l p) : ok p := by
  cases s with
  | a s => obtain ⟨y, rfl, r⟩ := hr; obtain ⟨z, e, hz⟩ := hp; cases e; exact asBlk_ok r hz
  | g ss =>
    obtain ⟨y, rfl, r⟩ := hr
    obtain ⟨z, e, hz⟩ := hp
    simp at e; subst e
    exact asBlkL_ok r hz
theorem csBlkL_ok {w : World} {ok : Nat → Prop} : ∀ {s : List CS} {v : List Value} {l : List Sc}, csRelL w ok s v l → ∀ {p : Nat}, csBlkL s v l p → ok p
  | s :: ss, _ :: _, _, ⟨l1, l2, e, r1, r2⟩, p, ⟨m1, m2, e', hl, hp⟩ => by
    subst e
    have := csRel_len r1
    have h := List.append_inj e' (by rw [this, hl])
    obtain ⟨rfl, rfl⟩ := h
    exact hp.elim (fun h => csBlk_ok r1 h) (fun h => csBlkL_ok r2 h)
  | [], _, _, _, _, hp => hp.elim
  | _ :: _, [], _, _, _, hp => hp.elim

section
variable {P : Program} {B : Nat} {w0 : World} {σ : St} {c : Ct} {a : Act} {w : World} {o : Oper} {rd : Rd}

/-- Rows that are handed on, one after the other. -/
theorem Good.freezes : ∀ {fr : List (Nat × Option Rw)} {σ : St}, Good B w0 σ c a w → (∀ q z, (q, z) ∈ fr → ∃ k, σ.row q = some k ∧ z = some { k with own := false }) →
    Good B w0 { σ with rows := putRows σ.rows fr } c a w ∧ (∀ q k, σ.row q = some k → St.row { σ with rows := putRows σ.rows fr } q = (if q ∈ fr.map (·.1) then some { k with own := false } else some k))
  | [], σ, g, _ => ⟨g, fun q k h => by simp only [List.map_nil, List.not_mem_nil, if_false]; exact h⟩
  | (r, z) :: fr, σ, g, h => by
    obtain ⟨k, hk, rfl⟩ := h r z (by simp)
    have g1 := g.freeze hk
    have hrow : ∀ q, St.row { σ with rows := setN none σ.rows r (some { k with own := false }) } q = if q = r then some { k with own := false } else σ.row q := fun q => row_set σ.rows r _ q
    obtain ⟨g2, h2⟩ := Good.freezes (fr := fr) g1 (fun q z hz => by
      obtain ⟨k', hk', hz'⟩ := h q z (List.mem_cons_of_mem _ hz)
      by_cases hq : q = r
      · subst hq
        rw [hk] at hk'; cases hk'
        exact ⟨{ k with own := false }, by rw [hrow, if_pos rfl], hz'⟩
      · exact ⟨k', by rw [hrow, if_neg hq]; exact hk', hz'⟩)
    refine ⟨g2, fun q k' hk' => ?_⟩
    have e : (St.row { σ with rows := putRows σ.rows ((r, some { k with own := false }) :: fr) } q) = St.row { { σ with rows := setN none σ.rows r (some { k with own := false }) } with rows := putRows (setN none σ.rows r (some { k with own := false })) fr } q := rfl
    rw [e]
    by_cases hq : q = r
    · subst hq
      rw [hk] at hk'; cases hk'
      rw [h2 q { k with own := false } (by rw [hrow, if_pos rfl])]
      simp only [ite_self, List.map_cons, List.mem_cons, true_or, if_true]
    · rw [h2 q k' (by rw [hrow, if_neg hq]; exact hk')]
      simp only [List.map_cons, List.mem_cons, hq, false_or]

def okIn (B : Nat) (σ : St) (c : Ct) (p : Nat) : Prop := (∀ x, ¬ σ.owns c x p) ∧ (B ≤ p ∨ c.K p)

theorem sliceOf_row {row row' : Nat → Option Rw} {sv : SV} {src : Option (Nat × Rw)} {lo len : Ex} (h : sliceOf row sv = some (src, lo, len)) (h2 : ∀ q k, row q = some k → src = some (q, k) → row' q = some { k with own := false }) :
    sliceOf row' sv = some (src.map (fun x => (x.1, { x.2 with own := false })), lo, len) := by
  rcases sv with (x | cs) | xs
  case c.g => simp [sliceOf] at h
  case t => simp [sliceOf] at h
  cases x <;> try (simp [sliceOf] at h; done)
  case vec r =>
    cases hk : row r with
    | none => simp [sliceOf, hk] at h
    | some k =>
      by_cases hf : okFormB k.agg k.ks = true
      · simp [sliceOf, hk, hf] at h
        obtain ⟨rfl, rfl, rfl⟩ := h
        simp [sliceOf, h2 r k hk rfl, hf]
      · simp [sliceOf, hk, hf] at h
  case sl r es lo' len' =>
    cases hk : row r with
    | none => simp [sliceOf, hk] at h
    | some k =>
      by_cases hf : es = k.ks.length ∧ okFormB k.agg k.ks = true
      · simp [sliceOf, hk, hf] at h
        obtain ⟨rfl, rfl, rfl⟩ := h
        simp [sliceOf, h2 r k hk rfl, hf]
      · simp [sliceOf, hk, hf] at h
  case nils =>
    simp [sliceOf] at h
    obtain ⟨rfl, rfl, rfl⟩ := h
    simp [sliceOf]

theorem argOf_spec (g : Good B w0 σ c a w) {row : Nat → Option Rw} {s : AS} {x : At} {e : Ex} {fr : List (Nat × Option Rw)} (h : argOf row s x = some (e, fr)) (hfz : ∀ q k, row q = some k → (k.own = false ∨ (q, some { k with own := false }) ∈ fr) → σ.row q = some { k with own := false })
    {v : Value} (hv : x.rel c v) : asRel w (okIn B σ c) s v (e.ev c.ρ) ∧ (∀ q z, (q, z) ∈ fr → ∃ k, row q = some k ∧ z = some { k with own := false }) := by
  cases s with
  | ck k =>
    simp only [argOf, Option.map_eq_some_iff, Prod.mk.injEq] at h
    obtain ⟨e', h1, rfl, rfl⟩ := h
    exact ⟨atCk_val h1 hv, fun q z hz => by cases hz⟩
  | row el ks agg =>
    simp only [argOf] at h
    · split at h
      · rename_i r k lo len hs
        split at h
        · rename_i hc
          obtain ⟨rfl, rfl, rfl⟩ := hc
          simp only [Option.some.injEq, Prod.mk.injEq] at h
          obtain ⟨rfl, rfl⟩ := h
          have hrk : row r = some k := by
            have := hs
            cases x <;> simp [sliceOf] at this
            case vec q =>
              split at this
              · rename_i k' hk'; split at this <;> simp at this
                obtain ⟨⟨rfl, rfl⟩, _⟩ := this; exact hk'
              · cases this
            case sl q es l1 l2 =>
              split at this
              · rename_i k' hk'; split at this <;> simp at this
                obtain ⟨⟨rfl, rfl⟩, _⟩ := this; exact hk'
              · cases this
          have hs' := sliceOf_row (row' := σ.row) hs (fun q k' hq hsrc => by
            simp at hsrc
            obtain ⟨rfl, rfl⟩ := hsrc
            refine hfz r k hrk ?_
            cases hown : k.own
            · exact .inl rfl
            · right; simp)
          obtain ⟨ad, n, cap, hv', hl, hlo, hnc, hcm, hcl, hmat⟩ := sliceOf_spec g (fun _ _ h => h) hs' hv
          simp only [Option.map_some] at hmat hcl
          obtain ⟨_, _, _, _, _, _, _, _, _, hcell⟩ := hmat
          have hcont : contOf (.at x) (some (r, k)) lo len = contOf (.at x) (some (r, { k with own := false })) lo len := by
            cases x <;> rfl
          refine ⟨⟨ad, n, cap, hv', by rw [hcont]; exact hcl, hnc, hcm, fun j u hj => ?_⟩, fun q z hz => ?_⟩
          · rw [hcont] at hj
            obtain ⟨p, o, e1, e2, e3⟩ := hcell j u hj
            exact ⟨p, o, e1, e2, e3 trivial⟩
          · cases hown : k.own
            · rw [hown] at hz; simp at hz
            · rw [hown] at hz; simp at hz; obtain ⟨rfl, rfl⟩ := hz; exact ⟨k, hrk, rfl⟩
        · cases h
      · rename_i lo len hs
        cases h
        cases x <;> simp [sliceOf] at hs
        case nils =>
          have hv : v = .slice none 0 0 := hv
          exact ⟨⟨none, 0, 0, hv, rfl, Nat.le_refl _, by simp [maxLen], fun j u hj => by simp [rowFlat, Ex.ev] at hj⟩, fun q z hz => by cases hz⟩
        case vec q => split at hs <;> (try split at hs) <;> simp at hs
        case sl q _ _ _ => split at hs <;> (try split at hs) <;> simp at hs
      · cases h
end
end Go.Proofs.Ytfaghnapfkpdhaa
