/-
  Sums and sums of squares: plain facts.
-/
import Derived.Test.YtkjgcalkkfgmlaaDoorQ
namespace Go.Proofs.YtkjgcalkkfgmlaaDoor
set_option linter.unusedSimpArgs false

def sumI : List Int → Int
  | [] => 0
  | x :: xs => x + sumI xs
def sumQ : List Int → Int
  | [] => 0
  | x :: xs => x * x + sumQ xs
/-- The sum of the squared distances from a number. -/
def sqD (x : Int) : List Int → Int
  | [] => 0
  | y :: ys => (y - x) * (y - x) + sqD x ys
def varN (xs : List Int) : Int := xs.length * sumQ xs - sumI xs * sumI xs
theorem sq_pos (a : Int) : 0 ≤ a * a := by
  rcases Int.le_total 0 a with h | h
  · exact Int.mul_nonneg h h
  · exact Int.mul_nonneg_of_nonpos_of_nonpos h h
theorem sq_zero {a : Int} (h : a * a = 0) : a = 0 := by
  rcases Int.mul_eq_zero.1 h with h | h <;> exact h
theorem sqD_eq (x : Int) : ∀ xs : List Int, sqD x xs = sumQ xs - 2 * x * sumI xs + xs.length * (x * x)
  | [] => by simp [sqD, sumQ, sumI]
  | y :: ys => by
    simp only [sqD, sumQ, sumI, sqD_eq x ys, List.length_cons, Int.natCast_add, Int.natCast_one]
    grind
theorem varN_cons (x : Int) (xs : List Int) : varN (x :: xs) = varN xs + sqD x xs := by
  simp only [varN, sumQ, sumI, sqD_eq, List.length_cons, Int.natCast_add, Int.natCast_one]
  grind
theorem sqD_nonneg (x : Int) : ∀ xs : List Int, 0 ≤ sqD x xs
  | [] => Int.le_refl _
  | y :: ys => by have := sq_pos (y - x); have := sqD_nonneg x ys; simp only [sqD]; omega
theorem sqD_zero (x : Int) : ∀ xs : List Int, sqD x xs = 0 ↔ ∀ y ∈ xs, y = x
  | [] => by simp [sqD]
  | y :: ys => by
    have h1 := sq_pos (y - x); have h2 := sqD_nonneg x ys
    simp only [sqD, List.mem_cons, forall_eq_or_imp]
    rw [← sqD_zero x ys]
    constructor
    · intro h
      have := sq_zero (a := y - x) (by omega)
      exact ⟨by omega, by omega⟩
    · rintro ⟨rfl, h⟩; rw [h, Int.sub_self]; rfl
theorem varN_nonneg : ∀ xs : List Int, 0 ≤ varN xs
  | [] => Int.le_refl _
  | x :: xs => by have := varN_nonneg xs; have := sqD_nonneg x xs; rw [varN_cons]; omega
theorem varN_same (x : Int) : ∀ xs : List Int, (∀ y ∈ xs, y = x) → varN xs = 0
  | [], _ => rfl
  | y :: ys, h => by
    have hy := h y (List.mem_cons_self ..)
    subst hy
    rw [varN_cons, varN_same y ys (fun z hz => h z (List.mem_cons_of_mem _ hz)), (sqD_zero y ys).2 (fun z hz => h z (List.mem_cons_of_mem _ hz))]; rfl
theorem varN_zero (x : Int) (xs : List Int) : varN (x :: xs) = 0 ↔ ∀ y ∈ xs, y = x := by
  rw [varN_cons]
  have h1 := varN_nonneg xs; have h2 := sqD_nonneg x xs
  constructor
  · intro h; exact (sqD_zero x xs).1 (by omega)
  · intro h; rw [(sqD_zero x xs).2 h, varN_same x xs h]; rfl
theorem sumI_append : ∀ (a b : List Int), sumI (a ++ b) = sumI a + sumI b
  | [], b => by simp [sumI]
  | x :: a, b => by simp only [List.cons_append, sumI, sumI_append a b]; omega
theorem sumQ_append : ∀ (a b : List Int), sumQ (a ++ b) = sumQ a + sumQ b
  | [], b => by simp [sumQ]
  | x :: a, b => by simp only [List.cons_append, sumQ, sumQ_append a b]; omega
theorem sumI_rep (x : Int) : ∀ n : Nat, sumI (List.replicate n x) = n * x
  | 0 => by simp [sumI]
  | n + 1 => by rw [List.replicate_succ, sumI, sumI_rep x n, Int.natCast_add, Int.natCast_one, Int.add_mul]; omega
theorem sumQ_rep (x : Int) : ∀ n : Nat, sumQ (List.replicate n x) = n * (x * x)
  | 0 => by simp [sumQ]
  | n + 1 => by rw [List.replicate_succ, sumQ, sumQ_rep x n, Int.natCast_add, Int.natCast_one, Int.add_mul]; omega
theorem sum_bound {B : Int} (hB : 0 ≤ B) : ∀ (xs : List Int), (∀ x ∈ xs, -B ≤ x ∧ x ≤ B) → -(xs.length * B) ≤ sumI xs ∧ sumI xs ≤ xs.length * B ∧ 0 ≤ sumQ xs ∧ sumQ xs ≤ xs.length * (B * B)
  | [], _ => by simp [sumI, sumQ]
  | x :: xs, h => by
    obtain ⟨i1, i2, i3, i4⟩ := sum_bound hB xs (fun y hy => h y (List.mem_cons_of_mem _ hy))
    obtain ⟨h1, h2⟩ := h x (List.mem_cons_self ..)
    have b : x * x ≤ B * B := by
      have h : (x * x).natAbs ≤ B.natAbs * B.natAbs := by rw [Int.natAbs_mul]; exact Nat.mul_le_mul (by omega) (by omega)
      have e : ((B.natAbs * B.natAbs : Nat) : Int) = B * B := by rw [Int.natCast_mul]; congr 1 <;> omega
      omega
    have := sq_pos x
    simp only [sumI, sumQ, List.length_cons, Int.natCast_add, Int.natCast_one, Int.add_mul, Int.one_mul]
    refine ⟨by omega, by omega, by omega, by omega⟩

theorem all_take_succ {α : Type} (p : α → Bool) (l : List α) (k : Nat) (h : k < l.length) : (l.take (k + 1)).all p = ((l.take k).all p && p l[k]) := by
  rw [List.take_add_one, List.getElem?_eq_getElem h, List.all_append]; simp

/- fractions -/
theorem fit_small {n d : Int} (h0 : d ≠ 0) (hn : n.natAbs ≤ maxN) (hd : d.natAbs ≤ maxD) : fitQ (Rat.divInt n d) = true := by
  obtain ⟨h1, h2⟩ := div_low n d h0
  rw [fitQ_iff, h1, h2]
  have a := Nat.div_le_self n.natAbs (n.natAbs.gcd d.natAbs)
  have b := Nat.div_le_self d.natAbs (n.natAbs.gcd d.natAbs)
  refine ⟨?_, by omega⟩
  generalize n.natAbs / n.natAbs.gcd d.natAbs = z at *
  split <;> omega
theorem ofQ_fit {n d : Int} (h0 : d ≠ 0) (hn : n.natAbs ≤ maxN) (hd : d.natAbs ≤ maxD) : ofQ n d = [.i (Rat.divInt n d).num, .i (Rat.divInt n d).den, .b true] := by
  rw [ofQ, if_neg h0, outQ, if_pos (fit_small h0 hn hd)]
theorem outQ_form (q : Rat) : ∃ a b c, outQ q = [.i a, .i b, .b c] := by
  unfold outQ noQ; split
  · exact ⟨_, _, _, rfl⟩
  · exact ⟨_, _, _, rfl⟩
theorem ofQ_form (n d : Int) : ∃ a b c, ofQ n d = [.i a, .i b, .b c] := by
  unfold ofQ; split
  · exact ⟨_, _, _, rfl⟩
  · exact outQ_form _
theorem usual_int {n : Int} (h : n.natAbs ≤ maxN) : usualQ n 1 = (n : Rat) := by
  have : fitQ (n : Rat) = true := by rw [fitQ_iff]; exact ⟨h, by show 1 ≤ maxD; unfold maxD; omega⟩
  exact usual_ok this
theorem cmpQ_le {q r : Rat} : cmpQ q r ≤ 0 ↔ q ≤ r := by
  unfold cmpQ
  by_cases h : q < r
  · rw [if_pos h]; exact ⟨fun _ => Rat.le_of_lt h, fun _ => by omega⟩
  · rw [if_neg h]
    by_cases h2 : q = r
    · rw [if_pos h2]; subst h2; exact ⟨fun _ => Rat.le_refl, fun _ => by omega⟩
    · rw [if_neg h2]; exact ⟨fun h => by omega, fun h3 => absurd (Rat.lt_iff_le_and_ne.2 ⟨h3, h2⟩) h⟩
theorem cmpQ_lt {q r : Rat} : cmpQ q r < 0 ↔ q < r := by
  unfold cmpQ
  by_cases h : q < r
  · rw [if_pos h]; exact ⟨fun _ => h, fun _ => by omega⟩
  · rw [if_neg h]
    exact ⟨fun x => by split at x <;> omega, fun x => absurd x h⟩
theorem cmpQ_eq {q r : Rat} : cmpQ q r = 0 ↔ q = r := by
  unfold cmpQ
  by_cases h : q < r
  · rw [if_pos h]; exact ⟨fun x => by omega, fun x => absurd x (Rat.ne_of_lt h)⟩
  · rw [if_neg h]
    by_cases h2 : q = r
    · rw [if_pos h2]; exact ⟨fun _ => h2, fun _ => rfl⟩
    · rw [if_neg h2]; exact ⟨fun x => by omega, fun x => absurd x h2⟩
theorem le_divInt {c S N : Int} (hN : 0 < N) : (c : Rat) ≤ Rat.divInt S N ↔ c * N ≤ S := by
  rw [← Rat.not_lt, Rat.divInt_eq_div, Rat.div_lt_iff (Rat.intCast_pos.2 hN), ← Rat.intCast_mul, Rat.intCast_lt_intCast]
  omega
theorem divInt_le {c S N : Int} (hN : 0 < N) : Rat.divInt S N ≤ (c : Rat) ↔ S ≤ c * N := by
  rw [← Rat.not_lt, Rat.divInt_eq_div, Rat.lt_div_iff (Rat.intCast_pos.2 hN), ← Rat.intCast_mul, Rat.intCast_lt_intCast]
  omega
theorem divInt_num_zero {n d : Int} (h0 : d ≠ 0) : (Rat.divInt n d).num = 0 ↔ n = 0 := by
  rw [Rat.num_eq_zero]
  constructor
  · intro h
    have := (Rat.divInt_eq_divInt_iff h0 (by omega : (1 : Int) ≠ 0)).1 (h.trans (Rat.zero_divInt 1).symm)
    omega
  · rintro rfl; exact Rat.zero_divInt _
theorem divInt_num_nonneg {n d : Int} (h0 : 0 < d) (hn : 0 ≤ n) : 0 ≤ (Rat.divInt n d).num := by
  rw [Rat.num_nonneg]; exact Rat.divInt_nonneg hn (by omega)
end Go.Proofs.YtkjgcalkkfgmlaaDoor
