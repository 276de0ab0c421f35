/-
  Loops over lists: plain facts.
-/
import Derived.Test.YtkjgcalkkfgmlaaDoorSymX
namespace Go.Proofs.YtkjgcalkkfgmlaaDoor
set_option linter.unusedSimpArgs false

def scan {σ α : Type} (stp : σ → α → Option (List Sc) ⊕ σ) (fin : σ → Option (List Sc)) : σ → List α → Option (List Sc)
  | s, [] => fin s
  | s, x :: xs => match stp s x with
    | .inl r => r
    | .inr s' => scan stp fin s' xs
theorem scan_at {σ α : Type} {g : (List Sc → Option (List Sc)) → List Sc → Option (List Sc)} (xs : List α) (enc : σ → Nat → List Sc) (stp : σ → α → Option (List Sc) ⊕ σ) (fin : σ → Option (List Sc)) (I : σ → Nat → Prop)
    (hstep : ∀ rec s k (h : k < xs.length), I s k → (∀ r, stp s xs[k] = .inl r → g rec (enc s k) = r) ∧ (∀ s', stp s xs[k] = .inr s' → I s' (k + 1) ∧ g rec (enc s k) = rec (enc s' (k + 1))))
    (hend : ∀ rec s, I s xs.length → g rec (enc s xs.length) = fin s) :
    ∀ (ys : List α) (s : σ) (k fuel : Nat), xs.drop k = ys → k ≤ xs.length → I s k → ys.length < fuel → loopN g fuel (enc s k) = scan stp fin s ys
  | [], s, k, fuel, hd, hk, hI, hf => by
    obtain ⟨fuel, rfl⟩ : ∃ f, fuel = f + 1 := ⟨fuel - 1, by omega⟩
    have hk2 : xs.length ≤ k := List.drop_eq_nil_iff.1 hd
    have e : k = xs.length := by omega
    subst e
    exact hend _ s hI
  | y :: ys, s, k, fuel, hd, hk, hI, hf => by
    obtain ⟨fuel, rfl⟩ : ∃ f, fuel = f + 1 := ⟨fuel - 1, by omega⟩
    have hk2 : k < xs.length := by
      rcases Nat.lt_or_ge k xs.length with h | h
      · exact h
      · rw [List.drop_eq_nil_of_le h] at hd; cases hd
    have hy : xs[k] = y := by have := congrArg List.head? hd; rw [List.head?_drop, List.getElem?_eq_getElem hk2] at this; simpa using this
    have hys : xs.drop (k + 1) = ys := by rw [← List.drop_drop, hd]; rfl
    obtain ⟨h1, h2⟩ := hstep (loopN g fuel) s k hk2 hI
    rw [hy] at h1 h2
    show g (loopN g fuel) (enc s k) = _
    rw [scan]
    split
    · rename_i r he; exact h1 r he
    · rename_i s' he
      obtain ⟨i1, i2⟩ := h2 s' he
      rw [i2]
      exact scan_at xs enc stp fin I hstep hend ys s' (k + 1) fuel hys (by omega) i1 (by simp at hf; omega)
theorem loop_scan {σ α : Type} {g : (List Sc → Option (List Sc)) → List Sc → Option (List Sc)} (xs : List α) (enc : σ → Nat → List Sc) (stp : σ → α → Option (List Sc) ⊕ σ) (fin : σ → Option (List Sc)) (I : σ → Nat → Prop) (s0 : σ)
    (hlen : xs.length < 340282366920938463463374607431768211456) (h0 : I s0 0)
    (hstep : ∀ rec s k (h : k < xs.length), I s k → (∀ r, stp s xs[k] = .inl r → g rec (enc s k) = r) ∧ (∀ s', stp s xs[k] = .inr s' → I s' (k + 1) ∧ g rec (enc s k) = rec (enc s' (k + 1))))
    (hend : ∀ rec s, I s xs.length → g rec (enc s xs.length) = fin s) : loopN g rounds (enc s0 0) = scan stp fin s0 xs :=
  scan_at xs enc stp fin I hstep hend xs s0 0 rounds rfl (Nat.zero_le _) h0 (by unfold rounds; omega)

theorem idx_map {α : Type} (f : α → Sc) (xs : List α) (k : Nat) (h : k < xs.length) : (xs.map f).getD ((k : Int)).toNat (.i 0) = f xs[k] := by
  rw [Int.toNat_natCast, List.getD_eq_getElem?_getD, List.getElem?_map, List.getElem?_eq_getElem h]; rfl
theorem idx_get (xs : List Sc) (k : Nat) (h : k < xs.length) : xs.getD ((k : Int)).toNat (.i 0) = xs[k] := by
  rw [Int.toNat_natCast, List.getD_eq_getElem?_getD, List.getElem?_eq_getElem h]; rfl
theorem succ_w {k n : Nat} (h : k < n) (hn : n ≤ 17592186044416) : IntKind.i64.wrap ((k : Int) + 1) = ((k + 1 : Nat) : Int) := by
  rw [wrap_in (by omega) (by omega)]; omega

/-- A loop that collects. -/
theorem scan_collect {α : Type} (p : α → Bool) (f : α → Sc) (fin : List Sc → Option (List Sc)) : ∀ (xs : List α) (out : List Sc), scan (fun (out : List Sc) x => .inr (if p x = true then out ++ [f x] else out)) fin out xs = fin (out ++ (xs.filter p).map f)
  | [], out => by simp [scan]
  | x :: xs, out => by
    simp only [scan]
    rw [scan_collect p f fin xs]
    cases h : p x <;> simp [h]
theorem loop_collect {α : Type} {g : (List Sc → Option (List Sc)) → List Sc → Option (List Sc)} (L : List α) (enc : List Sc → Nat → List Sc) (p : α → Bool) (f : α → Sc) (fin : List Sc → Option (List Sc))
    (hlen : L.length < 340282366920938463463374607431768211456)
    (hstep : ∀ rec out k (h : k < L.length), out.length ≤ k → g rec (enc out k) = rec (enc (if p L[k] = true then out ++ [f L[k]] else out) (k + 1)))
    (hend : ∀ rec out, out.length ≤ L.length → g rec (enc out L.length) = fin out) : loopN g rounds (enc [] 0) = fin ((L.filter p).map f) := by
  refine (loop_scan L enc (fun out x => .inr (if p x = true then out ++ [f x] else out)) fin (fun out k => out.length ≤ k) [] hlen (Nat.le_refl _) ?_ hend).trans ?_
  · intro rec out k h hI
    refine ⟨fun r e => (by cases e), fun s' e => ?_⟩
    cases e
    refine ⟨?_, hstep rec out k h hI⟩
    split
    · simp; omega
    · omega
  · rw [scan_collect]; rfl
theorem loop_map {α : Type} {g : (List Sc → Option (List Sc)) → List Sc → Option (List Sc)} (L : List α) (enc : List Sc → Nat → List Sc) (f : α → Sc) (fin : List Sc → Option (List Sc))
    (hlen : L.length < 340282366920938463463374607431768211456)
    (hstep : ∀ rec out k (h : k < L.length), out.length ≤ k → g rec (enc out k) = rec (enc (out ++ [f L[k]]) (k + 1)))
    (hend : ∀ rec out, out.length ≤ L.length → g rec (enc out L.length) = fin out) : loopN g rounds (enc [] 0) = fin (L.map f) := by
  have := loop_collect L enc (fun _ => true) f fin hlen (fun rec out k h hI => by rw [hstep rec out k h hI]; rfl) hend
  have e : L.filter (fun _ => true) = L := List.filter_eq_self.2 (fun _ _ => rfl)
  rw [this, e]
/-- A loop that looks for a first bad element. -/
theorem scan_all {α : Type} (p : α → Bool) (r : Option (List Sc)) (fin : Unit → Option (List Sc)) : ∀ (xs : List α), scan (fun (_ : Unit) x => if p x = true then .inr () else .inl r) fin () xs = if xs.all p = true then fin () else r
  | [] => rfl
  | x :: xs => by
    simp only [scan, List.all_cons, Bool.and_eq_true]
    cases h : p x
    · simp
    · simp only [if_true, true_and]
      exact scan_all p r fin xs
/-- Equal lists, element by element. -/
theorem zip_all {α : Type} [DecidableEq α] (q : α → α → Bool) (hq : ∀ x y, q x y = decide (x = y)) : ∀ (a b : List α), a.length = b.length → (a.zip b).all (fun z => q z.1 z.2) = decide (a = b)
  | [], [], _ => rfl
  | x :: a, y :: b, h => by
    simp only [List.zip_cons_cons, List.all_cons, hq x y, zip_all q hq a b (by simpa using h)]
    by_cases h1 : x = y <;> by_cases h2 : a = b <;> simp [h1, h2]
  | [], _ :: _, h => by simp at h
  | _ :: _, [], h => by simp at h
end Go.Proofs.YtkjgcalkkfgmlaaDoor
