/-
  Trials: the plain law of the two roundings.
-/
import Derived.Test.YtmaocifplceopaaDoorDv04
namespace Go.Proofs.YtmaocifplceopaaDoor

theorem part_eq (t A : Nat) (hA : 1 ≤ A) : t * (A - 1) / A = t - (t / A + (if t % A = 0 then 0 else 1)) := by
  have e := Nat.div_add_mod t A
  have l := Nat.mod_lt t (show A > 0 by omega)
  obtain ⟨B, rfl⟩ : ∃ B, A = B + 1 := ⟨A - 1, by omega⟩
  simp only [Nat.add_sub_cancel]
  generalize t / (B + 1) = q at *
  generalize t % (B + 1) = r at *
  subst e
  split
  · rename_i h
    subst h
    have e1 : ((B + 1) * q + 0) * B = (B + 1) * (q * B) := by rw [Nat.add_zero, Nat.mul_assoc]
    rw [e1, Nat.mul_div_cancel_left _ (by omega)]
    have e2 : (B + 1) * q = q * B + q := by rw [Nat.add_mul, Nat.one_mul, Nat.mul_comm]
    omega
  · rename_i h
    have e2 : (B + 1) * q = q * B + q := by rw [Nat.add_mul, Nat.one_mul, Nat.mul_comm]
    have e3 : r * B = r * (B + 1) - r := by rw [Nat.mul_add, Nat.mul_one]; omega
    have hle : r ≤ r * (B + 1) := Nat.le_mul_of_pos_right _ (by omega)
    have e1 : ((B + 1) * q + r) * B = (B + 1 - r) + (B + 1) * (q * B + r - 1) := by
      rw [Nat.add_mul, Nat.mul_assoc, Nat.mul_sub, Nat.mul_add, Nat.mul_one, e3, Nat.mul_comm r (B + 1)]
      have : B + 1 ≤ (B + 1) * r := Nat.le_mul_of_pos_right _ (by omega)
      have c : r * (B + 1) = (B + 1) * r := Nat.mul_comm _ _
      omega
    rw [e1, Nat.add_mul_div_left _ _ (by omega), Nat.div_eq_of_lt (by omega)]
    omega
end Go.Proofs.YtmaocifplceopaaDoor
