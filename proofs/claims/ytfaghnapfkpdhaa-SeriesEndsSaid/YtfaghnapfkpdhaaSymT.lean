/-
  Regions that draw their order: what lies in a place behind some of the operations.
-/
import Derived.Test.YtfaghnapfkpdhaaSymS
namespace Go.Proofs.Ytfaghnapfkpdhaa
open Go.RowKit

/-! ### Places -/
def look (σ : St) (l : Nat) : SV × Option Bk × Option Rw :=
  if l % 3 = 0 then (σ.slot (l / 3), none, none) else if l % 3 = 1 then (.top, σ.blk (l / 3), none) else (.top, none, σ.row (l / 3))
theorem look_slot (σ : St) (t : Nat) : look σ (3 * t) = (σ.slot t, none, none) := by unfold look; rw [if_pos (by omega), show 3 * t / 3 = t by omega]
theorem look_blk (σ : St) (t : Nat) : look σ (3 * t + 1) = (.top, σ.blk t, none) := by unfold look; rw [if_neg (by omega), if_pos (by omega), show (3 * t + 1) / 3 = t by omega]
theorem look_row (σ : St) (t : Nat) : look σ (3 * t + 2) = (.top, none, σ.row t) := by unfold look; rw [if_neg (by omega), if_neg (by omega), show (3 * t + 2) / 3 = t by omega]

def Wr (dst : Option Tmp) (r : OpR) (l : Nat) : Prop := (∃ t : Nat, dst = some t ∧ l = 3 * t) ∨ (∃ x ∈ r.blks, l = 3 * x.1 + 1) ∨ (∃ x ∈ r.rows, l = 3 * x.1 + 2)
def Rs (σ : St) (ts : List Nat) (l : Nat) : Prop := (∃ t ∈ ts, l = 3 * t) ∨ (∃ t ∈ ts, ∃ p ∈ (σ.slot t).bids, l = 3 * p + 1) ∨ (∃ t ∈ ts, ∃ p ∈ (σ.slot t).rids, l = 3 * p + 2)

theorem testBit_shift (n : Nat) : Nat.testBit (Nat.shiftLeft 1 n) n = true := by
  have : Nat.shiftLeft 1 n = 2 ^ n := by show 1 <<< n = _; rw [Nat.one_shiftLeft]
  rw [this]; exact Nat.testBit_two_pow_self
theorem bitL_acc (m k : Nat) : ∀ (l : List Nat) (acc n : Nat), acc.testBit n = true → (l.foldl (fun acc t => Nat.lor acc (Nat.shiftLeft 1 (m * t + k))) acc).testBit n = true
  | [], _, _, h => h
  | t :: l, acc, n, h => bitL_acc m k l _ n (by show (acc ||| _).testBit n = true; rw [Nat.testBit_or, h]; rfl)
theorem bitL_mem (m k : Nat) : ∀ (l : List Nat) (acc t : Nat), t ∈ l → (l.foldl (fun acc t => Nat.lor acc (Nat.shiftLeft 1 (m * t + k))) acc).testBit (m * t + k) = true
  | x :: l, acc, t, h => by
    rcases List.mem_cons.1 h with rfl | h
    · exact bitL_acc m k l _ _ (by show (acc ||| Nat.shiftLeft 1 (m * t + k)).testBit _ = true; rw [Nat.testBit_or, testBit_shift]; simp)
    · exact bitL_mem m k l _ t h
theorem lor_left {x y n : Nat} (h : x.testBit n = true) : (Nat.lor x y).testBit n = true := by show (x ||| y).testBit n = true; rw [Nat.testBit_or, h]; rfl
theorem lor_right {x y n : Nat} (h : y.testBit n = true) : (Nat.lor x y).testBit n = true := by show (x ||| y).testBit n = true; rw [Nat.testBit_or, h]; simp
theorem wrBits_ok {dst : Option Tmp} {r : OpR} {l : Nat} (h : Wr dst r l) : (wrBits dst r).testBit l = true := by
  unfold wrBits bitL
  rcases h with ⟨t, rfl, rfl⟩ | ⟨x, hx, rfl⟩ | ⟨x, hx, rfl⟩
  · exact lor_left (bitL_mem 3 0 _ 0 t (by simp))
  · exact lor_right (lor_left (bitL_mem 3 1 _ 0 x.1 (List.mem_map_of_mem hx)))
  · exact lor_right (lor_right (bitL_mem 3 2 _ 0 x.1 (List.mem_map_of_mem hx)))
theorem rdBits_ok {σ : St} {ts : List Nat} {l : Nat} (h : Rs σ ts l) : (rdBits σ ts).testBit l = true := by
  unfold rdBits bitL
  rcases h with ⟨t, ht, rfl⟩ | ⟨t, ht, p, hp, rfl⟩ | ⟨t, ht, p, hp, rfl⟩
  · exact lor_left (bitL_mem 3 0 _ 0 t ht)
  · exact lor_right (lor_left (bitL_mem 3 1 _ 0 p (List.mem_flatMap.2 ⟨t, ht, hp⟩)))
  · exact lor_right (lor_right (bitL_mem 3 2 _ 0 p (List.mem_flatMap.2 ⟨t, ht, hp⟩)))
theorem land_zero {x y n : Nat} (h : Nat.beq (Nat.land x y) 0 = true) (hx : x.testBit n = true) (hy : y.testBit n = true) : False := by
  have h := Nat.eq_of_beq_eq_true h
  have : (x &&& y).testBit n = true := by rw [Nat.testBit_and, hx, hy]; rfl
  rw [show x &&& y = 0 from h] at this
  simp at this

theorem putBlks_get : ∀ (r : List (Nat × Option Bk)) (l : List (Option Bk)) (p : Nat), (∀ x ∈ r, x.1 ≠ p) → (putBlks l r).getD p none = l.getD p none
  | [], _, _, _ => rfl
  | (i, v) :: r, l, p, h => by
    rw [putBlks, putBlks_get r _ p (fun x hx => h x (List.mem_cons_of_mem _ hx)), setN_get, if_neg (fun e => h (i, v) (List.mem_cons_self ..) e.symm)]
theorem putBlks_same : ∀ (r : List (Nat × Option Bk)) (l l' : List (Option Bk)) (p : Nat), (l.getD p none = l'.getD p none ∨ ∃ x ∈ r, x.1 = p) → (putBlks l r).getD p none = (putBlks l' r).getD p none
  | [], _, _, _, h => h.elim id (fun ⟨_, h, _⟩ => by cases h)
  | (i, v) :: r, l, l', p, h => by
    refine putBlks_same r _ _ p ?_
    by_cases hp : p = i
    · left; rw [setN_get, setN_get, if_pos hp, if_pos hp]
    · rcases h with h | ⟨x, hx, e⟩
      · left; rw [setN_get, setN_get, if_neg hp, if_neg hp]; exact h
      · right
        rcases List.mem_cons.1 hx with rfl | hx
        · exact absurd e.symm hp
        · exact ⟨x, hx, e⟩
theorem putRows_get : ∀ (r : List (Nat × Option Rw)) (l : List (Option Rw)) (p : Nat), (∀ x ∈ r, x.1 ≠ p) → (putRows l r).getD p none = l.getD p none
  | [], _, _, _ => rfl
  | (i, v) :: r, l, p, h => by
    rw [putRows, putRows_get r _ p (fun x hx => h x (List.mem_cons_of_mem _ hx)), setN_get, if_neg (fun e => h (i, v) (List.mem_cons_self ..) e.symm)]
theorem putRows_same : ∀ (r : List (Nat × Option Rw)) (l l' : List (Option Rw)) (p : Nat), (l.getD p none = l'.getD p none ∨ ∃ x ∈ r, x.1 = p) → (putRows l r).getD p none = (putRows l' r).getD p none
  | [], _, _, _, h => h.elim id (fun ⟨_, h, _⟩ => by cases h)
  | (i, v) :: r, l, l', p, h => by
    refine putRows_same r _ _ p ?_
    by_cases hp : p = i
    · left; rw [setN_get, setN_get, if_pos hp, if_pos hp]
    · rcases h with h | ⟨x, hx, e⟩
      · left; rw [setN_get, setN_get, if_neg hp, if_neg hp]; exact h
      · right
        rcases List.mem_cons.1 hx with rfl | hx
        · exact absurd e.symm hp
        · exact ⟨x, hx, e⟩

theorem after_slots (σ : St) (dst : Option Tmp) (r : OpR) : (σ.after dst r).slots.length = σ.slots.length := by
  unfold St.after; cases dst <;> simp
theorem after_slot (σ : St) (dst : Option Tmp) (r : OpR) (t : Nat) : (σ.after dst r).slot t = if dst = some t ∧ t < σ.slots.length then r.val else σ.slot t := by
  cases dst with
  | none => simp [St.after, St.slot]
  | some d =>
    show (σ.slots.set d r.val).getD t .top = _
    rw [slot_set]
    simp only [Option.some.injEq]
    rfl
/-- Where it doesn't write, an operation leaves what is there. -/
theorem after_out {σ : St} {dst : Option Tmp} {r : OpR} {l : Nat} (h : ¬ Wr dst r l) : look (σ.after dst r) l = look σ l := by
  unfold look
  split
  · rw [after_slot, if_neg]
    rintro ⟨e, _⟩
    exact h (.inl ⟨_, e, by omega⟩)
  · split
    · show (SV.top, (putBlks σ.blks r.blks).getD (l / 3) none, none) = _
      rw [putBlks_get _ _ _ (fun x hx e => h (.inr (.inl ⟨x, hx, by omega⟩)))]; rfl
    · show (SV.top, none, (putRows σ.rows r.rows).getD (l / 3) none) = _
      rw [putRows_get _ _ _ (fun x hx e => h (.inr (.inr ⟨x, hx, by omega⟩)))]; rfl
theorem after_same {σ σ' : St} (hl : σ.slots.length = σ'.slots.length) {dst : Option Tmp} {r : OpR} {l : Nat} (h : look σ l = look σ' l ∨ Wr dst r l) (hw : ∀ t, σ'.slots.length ≤ t → σ.slot t = σ'.slot t) : look (σ.after dst r) l = look (σ'.after dst r) l := by
  have hl' : look σ l = look σ' l ∨ Wr dst r l := h
  unfold look at h ⊢
  split
  · rename_i h0
    rw [after_slot, after_slot, hl]
    split
    · rfl
    · rename_i hn
      rw [if_pos h0, if_pos h0] at h
      rcases h with h | h
      · exact h
      · rcases h with ⟨t, rfl, rfl⟩ | ⟨x, _, e⟩ | ⟨x, _, e⟩
        · have : ¬ t < σ'.slots.length := fun hh => hn ⟨by congr 1; omega, by omega⟩
          rw [show 3 * t / 3 = t by omega, hw t (by omega)]
        · omega
        · omega
  · rename_i h0
    rw [if_neg h0, if_neg h0] at h
    split
    · rename_i h1
      rw [if_pos h1, if_pos h1] at h
      show (SV.top, (putBlks σ.blks r.blks).getD (l / 3) none, none) = (SV.top, (putBlks σ'.blks r.blks).getD (l / 3) none, none)
      congr 2
      refine putBlks_same _ _ _ _ ?_
      rcases h with h | h
      · left; exact (Prod.mk.inj (Prod.mk.inj h).2).1
      · rcases h with ⟨t, _, e⟩ | ⟨x, hx, e⟩ | ⟨x, _, e⟩
        · omega
        · exact .inr ⟨x, hx, by omega⟩
        · omega
    · rename_i h1
      rw [if_neg h1, if_neg h1] at h
      show (SV.top, none, (putRows σ.rows r.rows).getD (l / 3) none) = (SV.top, none, (putRows σ'.rows r.rows).getD (l / 3) none)
      congr 2
      refine putRows_same _ _ _ _ ?_
      rcases h with h | h
      · left; exact (Prod.mk.inj (Prod.mk.inj h).2).2
      · rcases h with ⟨t, _, e⟩ | ⟨x, _, e⟩ | ⟨x, hx, e⟩
        · omega
        · omega
        · exact .inr ⟨x, hx, by omega⟩

theorem slot_out {σ : St} {t : Nat} (h : σ.slots.length ≤ t) : σ.slot t = .top := by
  unfold St.slot; simp [List.getD_eq_getElem?_getD, List.getElem?_eq_none h]

/-- The state behind the operations of S. -/
def appl (S : Nat → Bool) : List Item → Nat → St → St
  | [], _, σ => σ
  | x :: xs, j, σ => appl S xs (j + 1) (if S j then σ.after x.dst x.r else σ)
theorem appl_slots (S : Nat → Bool) : ∀ (l : List Item) (j : Nat) (σ : St), (appl S l j σ).slots.length = σ.slots.length
  | [], _, _ => rfl
  | x :: xs, j, σ => by
    rw [appl, appl_slots S xs]
    split
    · exact after_slots _ _ _
    · rfl
theorem appl_append (S : Nat → Bool) : ∀ (l m : List Item) (j : Nat) (σ : St), appl S (l ++ m) j σ = appl S m (j + l.length) (appl S l j σ)
  | [], m, j, σ => rfl
  | x :: l, m, j, σ => by
    simp only [List.cons_append, appl, List.length_cons]
    rw [appl_append S l m]
    congr 1; omega
/-- What lies in a place hangs on those alone that write there. -/
theorem appl_agree {S S' : Nat → Bool} (p : Nat) : ∀ (l : List Item) (j : Nat) (σ σ' : St), σ.slots.length = σ'.slots.length → look σ p = look σ' p → (∀ i x, l[i]? = some x → Wr x.dst x.r p → S (j + i) = S' (j + i)) →
    look (appl S l j σ) p = look (appl S' l j σ') p
  | [], _, _, _, _, h, _ => h
  | x :: l, j, σ, σ', hl, h, hs => by
    simp only [appl]
    refine appl_agree p l (j + 1) _ _ ?_ ?_ (fun i y hy hw => by
      have := hs (i + 1) y (by simpa using hy) hw
      rw [show j + (i + 1) = j + 1 + i by omega] at this; exact this)
    · split <;> split <;> simp [after_slots, hl]
    · have h0 := hs 0 x (by simp)
      simp only [Nat.add_zero] at h0
      by_cases hw : Wr x.dst x.r p
      · rw [← h0 hw]
        split
        · exact after_same hl (.inr hw) (fun t ht => by rw [slot_out (by omega), slot_out ht])
        · exact h
      · have e1 : look (if S j = true then σ.after x.dst x.r else σ) p = look σ p := by split <;> first | exact after_out hw | rfl
        have e2 : look (if S' j = true then σ'.after x.dst x.r else σ') p = look σ' p := by split <;> first | exact after_out hw | rfl
        rw [e1, e2, h]
theorem appl_all_eq (S : Nat → Bool) : ∀ (l : List Item) (j : Nat) (σ : St), (∀ i, i < l.length → S (j + i) = false) → appl S l j σ = σ
  | [], _, _, _ => rfl
  | x :: l, j, σ, h => by
    have h0 := h 0 (by simp)
    simp only [Nat.add_zero] at h0
    rw [appl, h0]
    exact appl_all_eq S l (j + 1) σ (fun i hi => by
      have := h (i + 1) (by simp; omega)
      rw [show j + (i + 1) = j + 1 + i by omega] at this; exact this)

section
variable {B : Nat} {w0 : World} {σ σ' : St} {c : Ct} {a : Act} {w : World}
/-- A state is what lies in its places. -/
theorem Good.congr (g : Good B w0 σ c a w) (hl : σ'.slots.length ≤ a.tmps.size) (h : ∀ l, look σ' l = look σ l) : Good B w0 σ' c a w := by
  have hs : ∀ t, σ'.slot t = σ.slot t := fun t => by have := h (3 * t); rw [look_slot, look_slot] at this; exact (Prod.mk.inj this).1
  have hb : ∀ t, σ'.blk t = σ.blk t := fun t => by have := h (3 * t + 1); rw [look_blk, look_blk] at this; exact (Prod.mk.inj (Prod.mk.inj this).2).1
  have hr : ∀ t, σ'.row t = σ.row t := fun t => by have := h (3 * t + 2); rw [look_row, look_row] at this; exact (Prod.mk.inj (Prod.mk.inj this).2).2
  have ho : ∀ x p, σ'.owns c x p ↔ σ.owns c x p := fun x p => by
    obtain ⟨t, q⟩ := x
    cases t <;> simp only [St.owns, hb, hr]
  refine ⟨g.below, g.hB, g.defers, hl, fun t => by rw [hs]; exact g.slots t, fun p k hp => g.blks p k (by rw [← hb]; exact hp), fun r k hk => ?_, fun x y p hx hy => g.apart x y p ((ho x p).1 hx) ((ho y p).1 hy)⟩
  obtain ⟨v, e, q⟩ := g.rows r k (by rw [← hr]; exact hk)
  refine ⟨v, e, ?_⟩
  unfold rowOk at q ⊢
  simp only [ho]
  exact q
theorem rdOf_congr {ts : List Nat} (h : ∀ l, Rs σ ts l → look σ' l = look σ l) (nv nb nr : Nat) : rdOf σ'.slot σ'.blk σ'.row ts nv nb nr = rdOf σ.slot σ.blk σ.row ts nv nb nr := by
  have hs : ∀ t, t ∈ ts → σ'.slot t = σ.slot t := fun t ht => by have := h (3 * t) (.inl ⟨t, ht, rfl⟩); rw [look_slot, look_slot] at this; exact (Prod.mk.inj this).1
  have hb : ∀ t, t ∈ ts → ∀ p, p ∈ (σ.slot t).bids → σ'.blk p = σ.blk p := fun t ht p hp => by have := h (3 * p + 1) (.inr (.inl ⟨t, ht, p, hp, rfl⟩)); rw [look_blk, look_blk] at this; exact (Prod.mk.inj (Prod.mk.inj this).2).1
  have hr : ∀ t, t ∈ ts → ∀ p, p ∈ (σ.slot t).rids → σ'.row p = σ.row p := fun t ht p hp => by have := h (3 * p + 2) (.inr (.inr ⟨t, ht, p, hp, rfl⟩)); rw [look_row, look_row] at this; exact (Prod.mk.inj (Prod.mk.inj this).2).2
  have e1 : (ts.flatMap fun t => (σ'.slot t).bids) = ts.flatMap fun t => (σ.slot t).bids := by
    have : ∀ l : List Nat, (∀ t ∈ l, σ'.slot t = σ.slot t) → (l.flatMap fun t => (σ'.slot t).bids) = l.flatMap fun t => (σ.slot t).bids := by
      intro l hl
      induction l with
      | nil => rfl
      | cons t l ih => simp only [List.flatMap_cons]; rw [hl t (List.mem_cons_self ..), ih (fun t ht => hl t (List.mem_cons_of_mem _ ht))]
    exact this ts hs
  have e2 : (ts.flatMap fun t => (σ'.slot t).rids) = ts.flatMap fun t => (σ.slot t).rids := by
    have : ∀ l : List Nat, (∀ t ∈ l, σ'.slot t = σ.slot t) → (l.flatMap fun t => (σ'.slot t).rids) = l.flatMap fun t => (σ.slot t).rids := by
      intro l hl
      induction l with
      | nil => rfl
      | cons t l ih => simp only [List.flatMap_cons]; rw [hl t (List.mem_cons_self ..), ih (fun t ht => hl t (List.mem_cons_of_mem _ ht))]
    exact this ts hs
  unfold rdOf
  rw [e1, e2]
  have f1 : (fun t => cond (hasN ts t) (σ'.slot t) SV.top) = fun t => cond (hasN ts t) (σ.slot t) SV.top := by
    funext t
    cases hh : hasN ts t
    · rfl
    · simp only [cond_true]; exact hs t (hasN_mem.1 hh)
  have f2 : (fun p => cond (hasN (ts.flatMap fun t => (σ.slot t).bids) p) (σ'.blk p) none) = fun p => cond (hasN (ts.flatMap fun t => (σ.slot t).bids) p) (σ.blk p) none := by
    funext p
    cases hh : hasN (ts.flatMap fun t => (σ.slot t).bids) p
    · rfl
    · simp only [cond_true]
      obtain ⟨t, ht, hp⟩ := List.mem_flatMap.1 (hasN_mem.1 hh)
      exact hb t ht p hp
  have f3 : (fun p => cond (hasN (ts.flatMap fun t => (σ.slot t).rids) p) (σ'.row p) none) = fun p => cond (hasN (ts.flatMap fun t => (σ.slot t).rids) p) (σ.row p) none := by
    funext p
    cases hh : hasN (ts.flatMap fun t => (σ.slot t).rids) p
    · rfl
    · simp only [cond_true]
      obtain ⟨t, ht, hp⟩ := List.mem_flatMap.1 (hasN_mem.1 hh)
      exact hr t ht p hp
  rw [f1, f2, f3]
end
end Go.Proofs.Ytfaghnapfkpdhaa
