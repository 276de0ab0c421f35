/-
  Fractions that may fail, and lists of them: plain facts.
-/
import Derived.Test.YtkjgcalkkfgmlaaDoorFq
import Derived.Test.YtkjgcalkkfgmlaaDoorLp
import Derived.Test.YtkjgcalkkfgmlaaDoorOpnR
namespace Go.Proofs.YtkjgcalkkfgmlaaDoor
set_option linter.unusedSimpArgs false

/-- A result that may fail. -/
def enc : Option Rat → List Sc
  | some q => [.i q.num, .i q.den, .b true]
  | none => [.i 0, .i 0, .b false]
theorem enc_some (q : Rat) : enc (some q) = [.i q.num, .i q.den, .b true] := rfl
theorem enc_none : enc none = [.i 0, .i 0, .b false] := rfl
def fitO (q : Rat) : Option Rat := if fitQ q = true then some q else none
def valP (p : Int × Int) : Option Rat := if okF p.1 p.2 = true then some (Rat.divInt p.1 p.2) else none
def pr (q : Rat) : Int × Int := (q.num, q.den)
theorem enc_fit (q : Rat) : outQ q = enc (fitO q) := by
  unfold outQ fitO; split <;> rfl
theorem fitO_some {q r : Rat} (h : fitO q = some r) : q = r ∧ fitQ r = true := by
  unfold fitO at h; split at h
  · cases h; exact ⟨rfl, by assumption⟩
  · cases h
theorem fitO_yes {q : Rat} (h : fitQ q = true) : fitO q = some q := if_pos h
theorem valP_some {p : Int × Int} {q : Rat} (h : valP p = some q) : p = pr q ∧ fitQ q = true := by
  unfold valP at h; split at h
  · rename_i ho
    obtain ⟨r, h1, h2, h3⟩ := okF_q ho
    cases h
    rw [h1, h2, divInt_q]
    exact ⟨Prod.ext h1 h2, h3⟩
  · cases h
theorem valP_pr {q : Rat} (h : fitQ q = true) : valP (pr q) = some q := by
  unfold valP pr; rw [if_pos (okF_of h), divInt_q]
theorem valP_zero : valP (0, 0) = none := by unfold valP; rw [if_neg (by decide)]
def addO (a b : Option Rat) : Option Rat := match a, b with | some q, some r => fitO (q + r) | _, _ => none
def subO (a b : Option Rat) : Option Rat := match a, b with | some q, some r => fitO (q - r) | _, _ => none
def mulO (a b : Option Rat) : Option Rat := match a, b with | some q, some r => fitO (q * r) | _, _ => none
def divO (a b : Option Rat) : Option Rat := match a, b with | some q, some r => if r = 0 then none else fitO (q / r) | _, _ => none
theorem addQ_O (a b c d : Int) : addQ a b c d = enc (addO (valP (a, b)) (valP (c, d))) := by
  unfold addQ valP addO
  simp only
  cases h1 : okF a b
  · simp [enc, noQ]
  · cases h2 : okF c d
    · simp [enc, noQ]
    · simp [enc_fit]
theorem subQ_O (a b c d : Int) : subQ a b c d = enc (subO (valP (a, b)) (valP (c, d))) := by
  unfold subQ valP subO
  simp only
  cases h1 : okF a b
  · simp [enc, noQ]
  · cases h2 : okF c d
    · simp [enc, noQ]
    · simp [enc_fit]
theorem mulQ_O (a b c d : Int) : mulQ a b c d = enc (mulO (valP (a, b)) (valP (c, d))) := by
  unfold mulQ valP mulO
  simp only
  cases h1 : okF a b
  · simp [enc, noQ]
  · cases h2 : okF c d
    · simp [enc, noQ]
    · simp [enc_fit]
theorem divQ_O (a b c d : Int) : divQ a b c d = enc (divO (valP (a, b)) (valP (c, d))) := by
  unfold divQ valP divO
  simp only
  cases h1 : okF a b
  · simp [enc, noQ]
  · cases h2 : okF c d
    · simp [enc, noQ]
    · obtain ⟨r, rfl, rfl, hr⟩ := okF_q h2
      by_cases h0 : r.num = 0
      · have : r = 0 := Rat.num_eq_zero.1 h0
        subst this
        simp [enc, noQ, divInt_q]
      · have : r ≠ 0 := fun h => h0 (Rat.num_eq_zero.2 h)
        simp [enc_fit, divInt_q, h0, this]
theorem enc_form (o : Option Rat) : ∃ a b c, enc o = [.i a, .i b, .b c] := by
  cases o
  · exact ⟨_, _, _, rfl⟩
  · exact ⟨_, _, _, rfl⟩
theorem addO_fit {a b : Option Rat} {q : Rat} (h : addO a b = some q) : fitQ q = true := by
  unfold addO at h; split at h
  · exact (fitO_some h).2
  · cases h
theorem subO_fit {a b : Option Rat} {q : Rat} (h : subO a b = some q) : fitQ q = true := by
  unfold subO at h; split at h
  · exact (fitO_some h).2
  · cases h
theorem mulO_fit {a b : Option Rat} {q : Rat} (h : mulO a b = some q) : fitQ q = true := by
  unfold mulO at h; split at h
  · exact (fitO_some h).2
  · cases h
theorem divO_fit {a b : Option Rat} {q : Rat} (h : divO a b = some q) : fitQ q = true := by
  unfold divO at h; split at h
  · split at h
    · cases h
    · exact (fitO_some h).2
  · cases h
theorem addO_some {a b : Option Rat} {q : Rat} (h : addO a b = some q) : ∃ x y, a = some x ∧ b = some y ∧ q = x + y := by
  unfold addO at h; split at h
  · exact ⟨_, _, rfl, rfl, (fitO_some h).1.symm⟩
  · cases h
theorem subO_some {a b : Option Rat} {q : Rat} (h : subO a b = some q) : ∃ x y, a = some x ∧ b = some y ∧ q = x - y := by
  unfold subO at h; split at h
  · exact ⟨_, _, rfl, rfl, (fitO_some h).1.symm⟩
  · cases h
theorem mulO_some {a b : Option Rat} {q : Rat} (h : mulO a b = some q) : ∃ x y, a = some x ∧ b = some y ∧ q = x * y := by
  unfold mulO at h; split at h
  · exact ⟨_, _, rfl, rfl, (fitO_some h).1.symm⟩
  · cases h
theorem divO_some {a b : Option Rat} {q : Rat} (h : divO a b = some q) : ∃ x y, a = some x ∧ b = some y ∧ y ≠ 0 ∧ q = x / y := by
  unfold divO at h; split at h
  · split at h
    · cases h
    · exact ⟨_, _, rfl, rfl, by assumption, (fitO_some h).1.symm⟩
  · cases h
theorem fit_i64 {q : Rat} (h : fitQ q = true) : I64' q.num ∧ I64' q.den := by
  obtain ⟨a, b, c, d⟩ := fit_bounds h
  exact ⟨⟨by omega, by omega⟩, ⟨by omega, by omega⟩⟩

/-- Elements that may fail. -/
def tryM {α β : Type} (f : α → Option β) : List α → Option (List β)
  | [] => some []
  | x :: xs => match f x with
    | none => none
    | some y => match tryM f xs with
      | none => none
      | some ys => some (y :: ys)
theorem tryM_len {α β : Type} {f : α → Option β} : ∀ {xs : List α} {ys : List β}, tryM f xs = some ys → ys.length = xs.length
  | [], ys, h => by cases h; rfl
  | x :: xs, ys, h => by
    simp only [tryM] at h
    split at h
    · cases h
    · split at h
      · cases h
      · rename_i hz; cases h; rw [List.length_cons, List.length_cons, tryM_len hz]
theorem tryM_get {α β : Type} {f : α → Option β} : ∀ {xs : List α} {ys : List β}, tryM f xs = some ys → ∀ (i : Nat) (h : i < xs.length) (h' : i < ys.length), f xs[i] = some ys[i]
  | [], ys, _, i, h, _ => absurd h (Nat.not_lt_zero _)
  | x :: xs, ys, e, i, h, h' => by
    simp only [tryM] at e
    split at e
    · cases e
    · split at e
      · cases e
      · rename_i y hy _ zs hz
        cases e
        cases i with
        | zero => exact hy
        | succ i => exact tryM_get hz i (by simpa using h) (by simpa using h')
theorem tryM_congr {α β : Type} {f g : α → Option β} : ∀ {xs : List α}, (∀ x ∈ xs, f x = g x) → tryM f xs = tryM g xs
  | [], _ => rfl
  | x :: xs, h => by
    simp only [tryM]
    rw [h x (List.mem_cons_self ..), tryM_congr (fun y hy => h y (List.mem_cons_of_mem _ hy))]
theorem tryM_none {α β : Type} {f : α → Option β} : ∀ {xs : List α} {x : α}, x ∈ xs → f x = none → tryM f xs = none
  | y :: xs, x, h, e => by
    simp only [tryM]
    rcases List.mem_cons.1 h with rfl | h
    · rw [e]
    · rw [tryM_none h e]; split <;> rfl
theorem tryM_all {α β : Type} {f : α → Option β} {h : α → β} : ∀ {xs : List α}, (∀ x ∈ xs, f x = some (h x)) → tryM f xs = some (xs.map h)
  | [], _ => rfl
  | x :: xs, e => by
    simp only [tryM]
    rw [e x (List.mem_cons_self ..), tryM_all (fun y hy => e y (List.mem_cons_of_mem _ hy))]; rfl
/-- A loop that collects elements that may fail. -/
theorem try_loop {α : Type} {g : (List Sc → Option (List Sc)) → List Sc → Option (List Sc)} (L : List α) (f : α → Option Sc) (bad : Option (List Sc)) (fin : List Sc → Option (List Sc)) (hlen : L.length < 340282366920938463463374607431768211456)
    (h1 : ∀ (k : Nat) rec out y (h : k < L.length), out.length = k → f L[k] = some y → g rec [.l out, .i k] = rec [.l (out ++ [y]), .i ((k + 1 : Nat) : Int)])
    (h2 : ∀ (k : Nat) rec out (h : k < L.length), f L[k] = none → g rec [.l out, .i k] = bad)
    (h3 : ∀ rec out, out.length = L.length → g rec [.l out, .i (L.length : Int)] = fin out) : loopN g rounds [.l [], .i 0] = match tryM f L with | none => bad | some ys => fin ys := by
  refine (loop_rounds (S := Nat × List Sc) (fun s => [.l s.2, .i s.1]) (fun s => match tryM f (L.drop s.1) with | none => bad | some ys => fin (s.2 ++ ys)) (fun s => s.1 ≤ L.length ∧ s.2.length = s.1) (fun s => L.length - s.1) ?_ (0, []) ⟨by simp only; omega, rfl⟩ (by simp only; omega)).trans (by simp)
  rintro ⟨k, out⟩ rec ⟨hk, ho⟩ hrec
  simp only at hk ho ⊢
  by_cases h : k < L.length
  · rw [List.drop_eq_getElem_cons h]
    simp only [tryM]
    cases hf : f L[k] with
    | none => rw [h2 k rec out h hf]
    | some y =>
      rw [h1 k rec out y h ho hf]
      have := hrec (k + 1, out ++ [y]) ⟨by simp only; omega, by simp [ho]⟩ (by simp only; omega)
      simp only at this
      rw [this]
      cases tryM f (L.drop (k + 1)) with
      | none => rfl
      | some ys => simp
  · have e : k = L.length := by omega
    subst e
    rw [h3 rec out ho, List.drop_length]
    simp [tryM]

/-- The sum from the left. -/
def sumO (q : Rat) : List (Int × Int) → Option Rat
  | [] => some q
  | p :: ps => match addO (some q) (valP p) with
    | none => none
    | some r => sumO r ps
theorem sumO_fit : ∀ {ps : List (Int × Int)} {q s : Rat}, fitQ q = true → sumO q ps = some s → fitQ s = true
  | [], q, s, hq, h => by cases h; exact hq
  | p :: ps, q, s, hq, h => by
    simp only [sumO] at h
    split at h
    · cases h
    · rename_i r hr; exact sumO_fit (addO_fit hr) h
/-- The plain sum. -/
def sumR : List Rat → Rat
  | [] => 0
  | q :: qs => q + sumR qs
theorem sumO_val : ∀ {ps : List (Int × Int)} {q s : Rat}, sumO q ps = some s → ∃ qs : List Rat, ps = qs.map pr ∧ (∀ r ∈ qs, fitQ r = true) ∧ s = q + sumR qs
  | [], q, s, h => by cases h; exact ⟨[], rfl, fun _ h => (by cases h), by simp [sumR, Rat.add_zero]⟩
  | p :: ps, q, s, h => by
    simp only [sumO] at h
    split at h
    · cases h
    · rename_i r hr
      obtain ⟨x, y, hx, hy, e⟩ := addO_some hr
      cases hx
      obtain ⟨qs, h1, h2, h3⟩ := sumO_val h
      obtain ⟨v1, v2⟩ := valP_some hy
      refine ⟨y :: qs, by rw [v1, h1]; rfl, fun r hr => ?_, by rw [h3, e, sumR, Rat.add_assoc]⟩
      rcases List.mem_cons.1 hr with rfl | hr
      · exact v2
      · exact h2 r hr
theorem pt_pr (q : Rat) : pt (pr q) = .l [.i q.num, .i q.den] := rfl
/-- A loop that sums. -/
theorem fsum_loop {g : (List Sc → Option (List Sc)) → List Sc → Option (List Sc)} (ps : List (Int × Int)) (hlen : ps.length < 340282366920938463463374607431768211456)
    (h1 : ∀ (k : Nat) rec (q : Rat) (h : k < ps.length), fitQ q = true → ∀ r, addO (some q) (valP ps[k]) = some r → g rec [.i k, .i q.num, .i q.den] = rec [.i ((k + 1 : Nat) : Int), .i r.num, .i r.den])
    (h2 : ∀ (k : Nat) rec (q : Rat) (h : k < ps.length), fitQ q = true → addO (some q) (valP ps[k]) = none → g rec [.i k, .i q.num, .i q.den] = some (enc none))
    (h3 : ∀ rec (q : Rat), g rec [.i (ps.length : Int), .i q.num, .i q.den] = some (enc (some q))) : loopN g rounds [.i 0, .i 0, .i 1] = some (enc (sumO 0 ps)) := by
  refine (loop_rounds (S := Nat × Rat) (fun s => [.i s.1, .i s.2.num, .i s.2.den]) (fun s => some (enc (sumO s.2 (ps.drop s.1)))) (fun s => s.1 ≤ ps.length ∧ fitQ s.2 = true) (fun s => ps.length - s.1) ?_ (0, 0) ⟨by simp only; omega, fit_zero⟩ (by simp only; omega)).trans (by simp)
  rintro ⟨k, q⟩ rec ⟨hk, hq⟩ hrec
  simp only at hk hq ⊢
  by_cases h : k < ps.length
  · rw [List.drop_eq_getElem_cons h]
    simp only [sumO]
    cases hf : addO (some q) (valP ps[k]) with
    | none => rw [h2 k rec q h hq hf]
    | some r =>
      rw [h1 k rec q h hq r hf]
      exact hrec (k + 1, r) ⟨by simp only; omega, addO_fit hf⟩ (by simp only; omega)
  · have e : k = ps.length := by omega
    subst e
    rw [h3 rec q, List.drop_length]; rfl
end Go.Proofs.YtkjgcalkkfgmlaaDoor
