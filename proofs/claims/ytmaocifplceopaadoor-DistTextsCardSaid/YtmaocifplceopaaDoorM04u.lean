/-
  The upper half of a product, both ways.
-/
import Derived.Test.YtmaocifplceopaaDoorM04s
import Derived.Test.YtmaocifplceopaaDoorQ
import Derived.Test.YtmaocifplceopaaDoorFrA
import Derived.Laws.MathBits
namespace Go.Proofs.YtmaocifplceopaaDoor
set_option linter.unusedSimpArgs false
set_option linter.unusedVariables false

theorem shr32 (z : Int) : Int.fdiv z (2 ^ (min (32 : Int).toNat IntKind.u64.bits)) = z / 4294967296 := by
  have e : (2 : Int) ^ (min (32 : Int).toNat IntKind.u64.bits) = 4294967296 := by decide
  rw [e, Int.fdiv_eq_ediv_of_nonneg _ (by omega)]
theorem band32 (z : Int) (h0 : 0 ≤ z) (h1 : z < 18446744073709551616) : IntKind.u64.wrap ((BitVec.ofInt IntKind.u64.bits z &&& BitVec.ofInt IntKind.u64.bits 4294967295).toNat : Int) = z % 4294967296 := by
  rw [← and_low32 z h0 h1]; rfl
theorem band32w (z : Int) : IntKind.u64.wrap ((BitVec.ofInt IntKind.u64.bits (IntKind.u64.wrap z) &&& BitVec.ofInt IntKind.u64.bits 4294967295).toNat : Int) = IntKind.u64.wrap z % 4294967296 := by
  have : 0 ≤ IntKind.u64.wrap z ∧ IntKind.u64.wrap z < 18446744073709551616 := by rw [IntKind.wrap_u64]; omega
  exact band32 _ this.1 this.2
theorem mul64_F (a b : Nat) (ha : a < 18446744073709551616) (hb : b < 18446744073709551616) : k_bits_Mul64.F [.i a, .i b] = some [.i (hiW (a * b)), .i (loW (a * b))] := by
  simp only [k_bits_Mul64_F, tk_bits_Mul64, Go.Proofs.YtmaocifplceopaaDoor.T.den, Ex.ev, U1.ev, U2.ev, U3.ev, gam, List.map, List.getD_cons_zero, List.getD_cons_succ, List.length, List.cons_append, List.nil_append, if_true, Sc.int_i, Sc.bool_b, Sc.list_l, Sc.str_s, Nat.reduceEqDiff, if_false, List.getElem?_cons_zero, List.getElem?_cons_succ]
  have e := mul64_arith a b (by omega) (by omega) (by omega) (by omega)
  simp only [shr32, band32 a (by omega) (by omega), band32 b (by omega) (by omega), band32w]
  simp only [IntKind.wrap_u64]
  rw [e]
  unfold hiW loW
  simp only [Option.some.injEq, List.cons.injEq, Sc.i.injEq, and_true]
  exact ⟨by rw [← Int.natCast_mul]; rfl, by rw [← Int.natCast_mul]; rfl⟩
theorem rupper_F (a b : Nat) (ha : a < 18446744073709551616) (hb : b < 18446744073709551616) : k_simulatorref04_Upper.F [.i a, .i b] = some [.i (hiW (a * b))] := by
  simp only [k_simulatorref04_Upper_F, tk_simulatorref04_Upper, Go.Proofs.YtmaocifplceopaaDoor.T.den, Ex.ev, U1.ev, U2.ev, U3.ev, gam, List.map, List.getD_cons_zero, List.getD_cons_succ, List.length, List.cons_append, List.nil_append, if_true, Sc.int_i, Sc.bool_b, Sc.list_l, Sc.str_s, Nat.reduceEqDiff, if_false, List.getElem?_cons_zero, List.getElem?_cons_succ]
  have e := mul64_arith a b (by omega) (by omega) (by omega) (by omega)
  simp only [shr32, band32 a (by omega) (by omega), band32 b (by omega) (by omega), band32w]
  have sw : ∀ z : Int, IntKind.u64.wrap ((a : Int) % 4294967296 * ((b : Int) / 4294967296)) + z = z + IntKind.u64.wrap ((a : Int) % 4294967296 * ((b : Int) / 4294967296)) := fun z => Int.add_comm _ _
  rw [sw]
  simp only [IntKind.wrap_u64]
  rw [e]
  unfold hiW
  simp only [Option.some.injEq, List.cons.injEq, Sc.i.injEq, and_true]
  rw [← Int.natCast_mul]; rfl
theorem fupper_F (a b : Nat) (ha : a < 18446744073709551616) (hb : b < 9223372036854775808) : k_dist_upper.F [.i a, .i b] = some [.i (hiW (a * b))] := by
  have w : IntKind.u64.wrap (b : Int) = b := by rw [IntKind.wrap_u64]; omega
  have m := mul64_F a b ha (by omega)
  have hlt : a * b < 18446744073709551616 * 9223372036854775808 := by
    rcases Nat.eq_zero_or_pos b with h | h
    · subst h; omega
    · exact Nat.lt_of_lt_of_le (Nat.mul_lt_mul_of_pos_right ha h) (Nat.mul_le_mul_left _ (by omega))
  have w2 : IntKind.i64.wrap (hiW (a * b)) = hiW (a * b) := by unfold hiW; exact wrJ (by omega) (by omega)
  simp only [k_dist_upper_F, tk_dist_upper, k_bits_Mul64_f, w, m, w2, Go.Proofs.YtmaocifplceopaaDoor.T.den, Ex.ev, U1.ev, U2.ev, U3.ev, gam, List.map, List.getD_cons_zero, List.getD_cons_succ, List.length, List.cons_append, List.nil_append, if_true, Sc.int_i, Sc.bool_b, Sc.list_l, Sc.str_s, Nat.reduceEqDiff, if_false, List.getElem?_cons_zero, List.getElem?_cons_succ]
end Go.Proofs.YtmaocifplceopaaDoor
