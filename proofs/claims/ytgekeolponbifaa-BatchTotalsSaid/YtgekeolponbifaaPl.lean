/-
  Bounds, and loops that look for a first bad element, or sum: plain facts.
-/
import Derived.Test.YtgekeolponbifaaLp
import Derived.Test.YtgekeolponbifaaFq
namespace Go.Proofs.Ytgekeolponbifaa
set_option linter.unusedSimpArgs false

def val4 (B x : Int) : Bool := decide (-B ≤ x) && decide (x ≤ B)
theorem val4_true {B x : Int} : val4 B x = true ↔ -B ≤ x ∧ x ≤ B := by simp [val4]
/-- A loop that looks for a first bad element. -/
theorem find_loop {g : (List Sc → Option (List Sc)) → List Sc → Option (List Sc)} (xs : List Int) (p : Int → Bool) (bad good : Option (List Sc)) (hlen : xs.length < 340282366920938463463374607431768211456)
    (h1 : ∀ (k : Nat) rec (h : k < xs.length), p xs[k] = true → g rec [.i k] = rec [.i ((k + 1 : Nat) : Int)])
    (h2 : ∀ (k : Nat) rec (h : k < xs.length), p xs[k] = false → g rec [.i k] = bad)
    (h3 : ∀ rec, xs.all p = true → g rec [.i (xs.length : Int)] = good) : loopN g rounds [.i 0] = if xs.all p = true then good else bad := by
  refine (loop_rounds (S := Nat) (fun k => [.i k]) (fun k => if (xs.drop k).all p = true then good else bad) (fun k => k ≤ xs.length ∧ (xs.take k).all p = true) (fun k => xs.length - k) ?_ 0 ⟨by omega, rfl⟩ (by omega)).trans (by rw [List.drop_zero])
  rintro k rec ⟨hk, hall⟩ hrec
  by_cases h : k < xs.length
  · rw [List.drop_eq_getElem_cons h, List.all_cons]
    cases hp : p xs[k]
    · rw [h2 k rec h hp]; simp
    · have ha : (xs.take (k + 1)).all p = true := by rw [all_take_succ p xs k h, hall, hp]; rfl
      rw [h1 k rec h hp, hrec (k + 1) ⟨by omega, ha⟩ (by omega)]; simp
  · have e : k = xs.length := by omega
    subst e
    rw [List.take_length] at hall
    rw [h3 rec hall]; simp
theorem sumI_take {ys : List Int} {j : Nat} (h : j < ys.length) : sumI (ys.take (j + 1)) = sumI (ys.take j) + ys[j] := by
  rw [List.take_add_one, List.getElem?_eq_getElem h, sumI_append]; simp [sumI]
theorem sumQ_take {ys : List Int} {j : Nat} (h : j < ys.length) : sumQ (ys.take (j + 1)) = sumQ (ys.take j) + ys[j] * ys[j] := by
  rw [List.take_add_one, List.getElem?_eq_getElem h, sumQ_append]; simp [sumQ]
theorem sum_loop {g : (List Sc → Option (List Sc)) → List Sc → Option (List Sc)} (ys : List Int) (c : Nat) (R : Option (List Sc)) (hlen : ys.length < 340282366920938463463374607431768211456)
    (h1 : ∀ (j : Nat) rec (h : j < ys.length), g rec [.i (sumI (ys.take j)), .i (sumQ (ys.take j)), .i ((c + j : Nat) : Int)] = rec [.i (sumI (ys.take j) + ys[j]), .i (sumQ (ys.take j) + ys[j] * ys[j]), .i ((c + j + 1 : Nat) : Int)])
    (h2 : ∀ rec, g rec [.i (sumI ys), .i (sumQ ys), .i ((c + ys.length : Nat) : Int)] = R) : loopN g rounds [.i 0, .i 0, .i (c : Int)] = R := by
  have h := loop_rounds (g := g) (S := Nat) (fun j => [.i (sumI (ys.take j)), .i (sumQ (ys.take j)), .i ((c + j : Nat) : Int)]) (fun _ => R) (fun j => j ≤ ys.length) (fun j => ys.length - j) (by
    intro j rec hj hrec
    by_cases hl : j < ys.length
    · have := hrec (j + 1) (by omega) (by omega)
      try simp only at this ⊢
      rw [sumI_take hl, sumQ_take hl] at this
      rw [h1 j rec hl]; exact this
    · have e : j = ys.length := by omega
      subst e
      have := h2 rec
      simp only [List.take_length]
      exact this) 0 (by omega) (by omega)
  simpa [sumI, sumQ] using h
theorem all_mem {xs : List Int} {B : Int} (h : xs.all (val4 B) = true) : ∀ x ∈ xs, -B ≤ x ∧ x ≤ B := fun x hx => val4_true.1 (List.all_eq_true.1 h x hx)
/-- The sum of the first elements. -/
def pres (xs : List Int) (k : Nat) : Int := sumI (xs.take k)
theorem pres_succ {xs : List Int} {k : Nat} (h : k < xs.length) : pres xs (k + 1) = pres xs k + xs[k] := sumI_take h
theorem pres_zero (xs : List Int) : pres xs 0 = 0 := by simp [pres, sumI]
def grp (xs : List Int) (N j : Nat) : Int := pres xs (j * N + N) - pres xs (j * N)
def grpL (xs : List Int) (N : Nat) : List Int := (List.range (xs.length / N)).map (grp xs N)
theorem grpL_len (xs : List Int) (N : Nat) : (grpL xs N).length = xs.length / N := by simp [grpL]
theorem pres_grp (xs : List Int) (N : Nat) : ∀ k, k ≤ xs.length / N → pres (grpL xs N) k = pres xs (k * N)
  | 0, _ => by rw [pres_zero, Nat.zero_mul, pres_zero]
  | k + 1, h => by
    have hk : k < (grpL xs N).length := by rw [grpL_len]; omega
    rw [pres_succ hk, pres_grp xs N k (by omega)]
    simp only [grpL, List.getElem_map, List.getElem_range]
    unfold grp
    rw [Nat.succ_mul]; omega
theorem grp_grp (xs : List Int) (N M : Nat) (hM : 0 < M) : grpL (grpL xs N) M = grpL xs (N * M) := by
  refine List.ext_getElem (by rw [grpL_len, grpL_len, grpL_len, Nat.div_div_eq_div_mul]) fun j h1 h2 => ?_
  have hj : j < xs.length / N / M := by rw [grpL_len, grpL_len] at h1; exact h1
  have hle : (j + 1) * M ≤ xs.length / N := (Nat.le_div_iff_mul_le hM).1 hj
  rw [Nat.succ_mul] at hle
  conv => lhs; simp only [grpL, List.getElem_map, List.getElem_range]
  conv => rhs; simp only [grpL, List.getElem_map, List.getElem_range]
  have e : ∀ k, k ≤ xs.length / N → pres (List.map (grp xs N) (List.range (xs.length / N))) k = pres xs (k * N) := fun k hk => pres_grp xs N k hk
  unfold grp at e ⊢
  rw [e _ hle, e _ (by omega)]
  have i1 : (j * M + M) * N = j * (N * M) + N * M := by rw [Nat.add_mul, Nat.mul_assoc, Nat.mul_comm M N]
  have i2 : j * M * N = j * (N * M) := by rw [Nat.mul_assoc, Nat.mul_comm M N]
  rw [i1, i2]
def gout (xs : List Int) (N j : Nat) : List Sc := (List.range j).map fun i => Sc.i (grp xs N i)
theorem gout_succ (xs : List Int) (N j : Nat) : gout xs N (j + 1) = gout xs N j ++ [.i (grp xs N j)] := by
  unfold gout; rw [List.range_succ, List.map_append]; rfl
theorem gout_len (xs : List Int) (N j : Nat) : (gout xs N j).length = j := by simp [gout]
theorem gout_all (xs : List Int) (N : Nat) : gout xs N (xs.length / N) = (grpL xs N).map .i := by
  unfold gout grpL; rw [List.map_map]; rfl
end Go.Proofs.Ytgekeolponbifaa
