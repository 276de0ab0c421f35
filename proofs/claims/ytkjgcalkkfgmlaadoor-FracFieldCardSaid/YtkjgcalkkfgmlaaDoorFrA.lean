/-
  Fractions: what the parts of Of and its reference return.
-/
import Derived.Test.YtkjgcalkkfgmlaaDoorK02
import Derived.Test.YtkjgcalkkfgmlaaDoorQ
import Derived.IntWalk
namespace Go.Proofs.YtkjgcalkkfgmlaaDoor
set_option linter.unusedSimpArgs false

theorem wrU {z : Int} (h1 : 0 ≤ z) (h2 : z < 18446744073709551616) : IntKind.u64.wrap z = z := by rw [IntKind.wrap_u64]; omega
theorem wrI {z : Int} (h1 : -9223372036854775808 ≤ z) (h2 : z < 9223372036854775808) : IntKind.i64.wrap z = z := by rw [IntKind.wrap_i64]; omega
def I64 (n : Int) : Prop := -9223372036854775808 ≤ n ∧ n < 9223372036854775808

theorem size_F (n : Int) (h : I64 n) : k_frac_size.F [.i n] = some [.i (n.natAbs : Int)] := by
  simp only [k_frac_size_F, tk_frac_size, Go.Proofs.YtkjgcalkkfgmlaaDoor.T.den, Ex.ev, U1.ev, U2.ev, U3.ev, gam, List.map, List.getD_cons_zero, List.getD_cons_succ, List.length, List.cons_append, List.nil_append, if_true, Sc.int_i, Sc.bool_b, Sc.list_l, Sc.str_s, Nat.reduceEqDiff, if_false, List.getElem?_cons_zero, List.getElem?_cons_succ]
  obtain ⟨h1, h2⟩ := h
  simp only [decide_eq_true_eq]
  split
  · simp only [IntKind.wrap_u64, Option.some.injEq, List.cons.injEq, Sc.i.injEq, and_true]; omega
  · simp only [IntKind.wrap_u64, Option.some.injEq, List.cons.injEq, Sc.i.injEq, and_true]; omega
theorem gcd_step (a b : Nat) : Nat.gcd b (a % b) = Nat.gcd a b := by
  rw [Nat.gcd_comm a b, Nat.gcd_rec b a, Nat.gcd_comm]
theorem gcd_F (a b : Nat) (hb : b < 18446744073709551616) : k_frac_gcd.F [.i a, .i b] = some [.i (Nat.gcd a b : Nat)] := by
  simp only [k_frac_gcd_F, tk_frac_gcd, Go.Proofs.YtkjgcalkkfgmlaaDoor.T.den, Ex.ev, U1.ev, U2.ev, U3.ev, gam, List.map, List.getD_cons_zero, List.getD_cons_succ, List.length, List.cons_append, List.nil_append, if_true, Sc.int_i, Sc.bool_b, Sc.list_l, Sc.str_s, Nat.reduceEqDiff, if_false, List.getElem?_cons_zero, List.getElem?_cons_succ]
  refine loop_rounds (S := Nat × Nat) (fun s => [.i s.1, .i s.2]) (fun s => some [.i (Nat.gcd s.1 s.2 : Nat)]) (fun s => s.2 < 18446744073709551616) (fun s => s.2) ?_ (a, b) hb (by simp only; omega)
  rintro ⟨a, b⟩ rec hb hrec
  by_cases h : b = 0
  · subst h; simp
  · have := hrec (b, a % b) (by simp only at *; have := Nat.mod_lt a (Nat.pos_of_ne_zero h); omega) (Nat.mod_lt _ (Nat.pos_of_ne_zero h))
    simp only at this
    rw [gcd_step] at this
    have e : Int.tmod (a : Int) (b : Int) = ((a % b : Nat) : Int) := rfl
    have h2 : ¬ (b : Int) = 0 := by omega
    simp only [e, this, h2, Int.natCast_nonneg, bne_iff_ne, beq_iff_eq, ne_eq, decide_eq_true_eq, Bool.and_eq_true, Bool.or_eq_true, Bool.not_eq_true', decide_eq_false_iff_not, beq_eq_false_iff_ne, bne_eq_false_iff_eq, not_true_eq_false, not_false_eq_true, if_true, if_false, reduceIte, and_true, true_and, and_false, false_and, or_false, false_or, or_true, true_or, List.getD_cons_zero, List.getD_cons_succ, List.length_cons, List.length_nil, List.cons_append, List.nil_append, Nat.reduceAdd, Nat.reduceEqDiff, reduceCtorEq, Bool.not_true, Bool.not_false, Bool.true_and, Bool.and_true, Bool.false_and, Bool.and_false, Bool.or_true, Bool.true_or, Bool.or_false, Bool.false_or, Bool.false_eq_true, Bool.true_eq_false, Sc.int_i, Sc.bool_b, Sc.list_l, Sc.str_s, Int.reduceEq, Int.reduceLT, Int.reduceLE, Int.reduceNe, decide_true, decide_false, decide_not, eq_self, Classical.not_not, List.getElem?_cons_zero, List.getElem?_cons_succ, beq_self_eq_true, bne_self_eq_false]
def madeQ (neg : Bool) (n d : Nat) : List Sc := if n ≤ maxN ∧ d ≤ maxD then [.i (if neg = true then -(n : Int) else n), .i d, .b true] else noQ
theorem made_F (neg : Bool) (n d : Nat) : k_frac_made.F [.b neg, .i n, .i d] = some (madeQ neg n d) := by
  simp only [k_frac_made_F, tk_frac_made, Go.Proofs.YtkjgcalkkfgmlaaDoor.T.den, Ex.ev, U1.ev, U2.ev, U3.ev, gam, List.map, List.getD_cons_zero, List.getD_cons_succ, List.length, List.cons_append, List.nil_append, if_true, Sc.int_i, Sc.bool_b, Sc.list_l, Sc.str_s, Nat.reduceEqDiff, if_false, List.getElem?_cons_zero, List.getElem?_cons_succ]
  unfold madeQ maxN maxD noQ
  simp only [decide_eq_true_eq]
  by_cases h1 : n ≤ 4611686018427387904
  · by_cases h2 : d ≤ 1000000000000000
    · rw [if_neg (by omega), if_neg (by omega), wrI (z := (n : Int)) (by omega) (by omega), wrI (z := (d : Int)) (by omega) (by omega), wrI (z := 0 - (n : Int)) (by omega) (by omega)]
      cases neg <;> simp [h1, h2]
    · rw [if_neg (by omega), if_pos (by omega), if_neg (by omega)]
  · rw [if_pos (by omega), if_neg (by omega)]
theorem made_div (n d : Int) (hd : d ≠ 0) : madeQ (decide (n < 0) != decide (d < 0)) (n.natAbs / n.natAbs.gcd d.natAbs) (d.natAbs / n.natAbs.gcd d.natAbs) = outQ (Rat.divInt n d) := by
  obtain ⟨h1, h2⟩ := div_low n d hd
  unfold madeQ outQ
  rw [h1, h2]
  have e : fitQ (Rat.divInt n d) = true ↔ n.natAbs / n.natAbs.gcd d.natAbs ≤ maxN ∧ d.natAbs / n.natAbs.gcd d.natAbs ≤ maxD := by
    rw [fitQ_iff, h1, h2]
    generalize n.natAbs / n.natAbs.gcd d.natAbs = z
    split <;> simp
  by_cases h : fitQ (Rat.divInt n d) = true
  · rw [if_pos h, if_pos (e.1 h)]
  · rw [if_neg h, if_neg (fun x => h (e.2 x))]
theorem quo_nat {a b : Nat} (h : a < 18446744073709551616) : IntKind.u64.wrap ((a : Int).tdiv (b : Int)) = ((a / b : Nat) : Int) := by
  have e : (a : Int).tdiv (b : Int) = ((a / b : Nat) : Int) := rfl
  have := Nat.div_le_self a b
  generalize a / b = c at *
  rw [e, wrU (by omega) (by omega)]
/- the reference -/
theorem refSize_F (n : Int) (h : I64 n) : k_simulatorref02_Size.F [.i n] = some [.i (n.natAbs : Int)] := by
  simp only [k_simulatorref02_Size_F, tk_simulatorref02_Size, Go.Proofs.YtkjgcalkkfgmlaaDoor.T.den, Ex.ev, U1.ev, U2.ev, U3.ev, gam, List.map, List.getD_cons_zero, List.getD_cons_succ, List.length, List.cons_append, List.nil_append, if_true, Sc.int_i, Sc.bool_b, Sc.list_l, Sc.str_s, Nat.reduceEqDiff, if_false, List.getElem?_cons_zero, List.getElem?_cons_succ]
  obtain ⟨h1, h2⟩ := h
  simp only [decide_eq_true_eq]
  split
  · simp only [IntKind.wrap_u64, IntKind.wrap_i64, Option.some.injEq, List.cons.injEq, Sc.i.injEq, and_true]; omega
  · simp only [IntKind.wrap_u64, Option.some.injEq, List.cons.injEq, Sc.i.injEq, and_true]; omega
theorem plus_F (x y : Nat) (h : x + y < 340282366920938463463374607431768211456) : k_simulatorref02_Plus.F [.i (hiW x), .i (loW x), .i (hiW y), .i (loW y)] = some [.i (hiW (x + y)), .i (loW (x + y))] := by
  simp only [k_simulatorref02_Plus_F, tk_simulatorref02_Plus, Go.Proofs.YtkjgcalkkfgmlaaDoor.T.den, Ex.ev, U1.ev, U2.ev, U3.ev, gam, List.map, List.getD_cons_zero, List.getD_cons_succ, List.length, List.cons_append, List.nil_append, if_true, Sc.int_i, Sc.bool_b, Sc.list_l, Sc.str_s, Nat.reduceEqDiff, if_false, List.getElem?_cons_zero, List.getElem?_cons_succ]
  simp only [decide_eq_true_eq, IntKind.wrap_u64]
  have a := hi_lo x; have b := hi_lo y; have c := hi_lo (x + y)
  have a1 := lo_range x; have b1 := lo_range y; have c1 := lo_range (x + y)
  have a2 := hi_nonneg x; have b2 := hi_nonneg y; have c2 := hi_nonneg (x + y)
  have c3 := hi_lt h
  rw [Int.natCast_add] at c
  split <;> simp only [Option.some.injEq, List.cons.injEq, Sc.i.injEq, and_true] <;> omega
theorem less_F (x y : Nat) : k_simulatorref02_Less.F [.i (hiW x), .i (loW x), .i (hiW y), .i (loW y)] = some [.b (decide (x < y))] := by
  simp only [k_simulatorref02_Less_F, tk_simulatorref02_Less, Go.Proofs.YtkjgcalkkfgmlaaDoor.T.den, Ex.ev, U1.ev, U2.ev, U3.ev, gam, List.map, List.getD_cons_zero, List.getD_cons_succ, List.length, List.cons_append, List.nil_append, if_true, Sc.int_i, Sc.bool_b, Sc.list_l, Sc.str_s, Nat.reduceEqDiff, if_false, List.getElem?_cons_zero, List.getElem?_cons_succ]
  have := w_lt (x := x) (y := y)
  by_cases h1 : hiW x < hiW y
  · have : x < y := this.2 (.inl h1)
    simp [h1, this]
  · by_cases h2 : hiW x = hiW y
    · by_cases h3 : loW x < loW y
      · have : x < y := this.2 (.inr ⟨h2, h3⟩)
        simp [h2, h3, this]
      · have : ¬ x < y := fun h => by rcases this.1 h with h | h <;> omega
        simp [h2, h3, this]
    · have : ¬ x < y := fun h => by rcases this.1 h with h | h <;> omega
      simp [h1, h2, this]
theorem minus_F (x y : Nat) (h : y ≤ x) (hx : x < 340282366920938463463374607431768211456) : k_simulatorref02_Minus.F [.i (hiW x), .i (loW x), .i (hiW y), .i (loW y)] = some [.i (hiW (x - y)), .i (loW (x - y))] := by
  simp only [k_simulatorref02_Minus_F, tk_simulatorref02_Minus, Go.Proofs.YtkjgcalkkfgmlaaDoor.T.den, Ex.ev, U1.ev, U2.ev, U3.ev, gam, List.map, List.getD_cons_zero, List.getD_cons_succ, List.length, List.cons_append, List.nil_append, if_true, Sc.int_i, Sc.bool_b, Sc.list_l, Sc.str_s, Nat.reduceEqDiff, if_false, List.getElem?_cons_zero, List.getElem?_cons_succ]
  simp only [decide_eq_true_eq, IntKind.wrap_u64]
  have a := hi_lo x; have b := hi_lo y; have c := hi_lo (x - y)
  have a1 := lo_range x; have b1 := lo_range y; have c1 := lo_range (x - y)
  have a2 := hi_nonneg x; have b2 := hi_nonneg y; have c2 := hi_nonneg (x - y)
  have a3 := hi_lt hx
  rw [Int.natCast_sub h] at c
  split <;> simp only [Option.some.injEq, List.cons.injEq, Sc.i.injEq, and_true] <;> omega
theorem shr_nat (a i : Nat) : Int.fdiv (a : Int) (2 ^ i) = ((a / 2 ^ i : Nat) : Int) := by
  rw [Int.fdiv_eq_ediv_of_nonneg _ (by have := Int.pow_nonneg (n := 2) (m := i) (by omega); exact this)]
  simp
theorem bit_F (x i : Nat) (hi : i < 128) : k_simulatorref02_bit.F [.i (hiW x), .i (loW x), .i i] = some [.i ((x / 2 ^ i % 2 : Nat) : Int)] := by
  simp only [k_simulatorref02_bit_F, tk_simulatorref02_bit, Go.Proofs.YtkjgcalkkfgmlaaDoor.T.den, Ex.ev, U1.ev, U2.ev, U3.ev, gam, List.map, List.getD_cons_zero, List.getD_cons_succ, List.length, List.cons_append, List.nil_append, if_true, Sc.int_i, Sc.bool_b, Sc.list_l, Sc.str_s, Nat.reduceEqDiff, if_false, List.getElem?_cons_zero, List.getElem?_cons_succ]
  by_cases h : 64 ≤ i
  · have e1 : IntKind.i64.wrap ((i : Int) - 64) = ((i - 64 : Nat) : Int) := by rw [wrI (by omega) (by omega)]; omega
    have e2 : IntKind.u64.wrap (((i - 64 : Nat)) : Int) = ((i - 64 : Nat) : Int) := wrU (by omega) (by omega)
    have e3 : min (i - 64) 64 = i - 64 := by omega
    have e4 : x / 18446744073709551616 / 2 ^ (i - 64) = x / 2 ^ i := by
      rw [Nat.div_div_eq_div_mul, show (18446744073709551616 : Nat) = 2 ^ 64 from rfl, ← Nat.pow_add]; congr 2; omega
    simp only [e1, e2, hiW]
    have e5 : IntKind.u64.bits = 64 := rfl
    simp only [e5, Int.toNat_natCast, e3, shr_nat, e4]
    have : ((x / 2 ^ i : Nat) : Int).tmod 2 = ((x / 2 ^ i % 2 : Nat) : Int) := rfl
    rw [this]
    simp [show (64 : Int) ≤ i by omega]
  · have e2 : IntKind.u64.wrap (i : Int) = i := wrU (by omega) (by omega)
    have e3 : min i 64 = i := by omega
    have e5 : IntKind.u64.bits = 64 := rfl
    have e4 : x % 18446744073709551616 / 2 ^ i % 2 = x / 2 ^ i % 2 := by
      have : (18446744073709551616 : Nat) = 2 ^ i * 2 ^ (64 - i) := by rw [← Nat.pow_add, show i + (64 - i) = 64 by omega]
      rw [this, Nat.mod_mul_right_div_self, Nat.mod_mod_of_dvd]
      exact ⟨2 ^ (63 - i), by rw [Nat.mul_comm, ← Nat.pow_succ]; congr 1; omega⟩
    simp only [e2, loW, e5, Int.toNat_natCast, e3, shr_nat]
    have : ((x % 18446744073709551616 / 2 ^ i : Nat) : Int).tmod 2 = ((x % 18446744073709551616 / 2 ^ i % 2 : Nat) : Int) := rfl
    rw [this, e4]
    simp [show ¬ (64 : Int) ≤ i by omega]
theorem bit_le (x i : Nat) : x / 2 ^ i % 2 = 0 ∨ x / 2 ^ i % 2 = 1 := by omega
theorem div_pow (x k : Nat) : x / 2 ^ k = 2 * (x / 2 ^ (k + 1)) + x / 2 ^ k % 2 := by
  rw [Nat.pow_succ, ← Nat.div_div_eq_div_mul]; omega
theorem two_div (p y b : Nat) (hy : 0 < y) (hb : b ≤ 1) : (2 * p + b) / y = 2 * (p / y) + (if 2 * (p % y) + b < y then 0 else 1) ∧ (2 * p + b) % y = (if 2 * (p % y) + b < y then 2 * (p % y) + b else 2 * (p % y) + b - y) := by
  have h := Nat.div_add_mod p y
  have h2 := Nat.mod_lt p hy
  generalize p / y = q at *
  generalize p % y = r at *
  have e : 2 * p + b = 2 * r + b + y * (2 * q) := by rw [← h, Nat.mul_add, Nat.mul_left_comm]; omega
  by_cases hc : 2 * r + b < y
  · rw [if_pos hc, if_pos hc, e, Nat.add_mul_div_left _ _ hy, Nat.add_mul_mod_self_left, Nat.div_eq_of_lt hc, Nat.mod_eq_of_lt hc]; omega
  · have e2 : 2 * r + b + y * (2 * q) = (2 * r + b - y) + y * (2 * q + 1) := by rw [Nat.mul_add]; omega
    rw [if_neg hc, if_neg hc, e, e2, Nat.add_mul_div_left _ _ hy, Nat.add_mul_mod_self_left, Nat.div_eq_of_lt (by omega), Nat.mod_eq_of_lt (by omega)]; omega
theorem odd_w (q : Nat) : hiW (2 * q + 1) = hiW (2 * q) ∧ loW (2 * q + 1) = loW (2 * q) + 1 := by unfold hiW loW; omega
def divInv (x y k : Nat) : List Sc := [.i ((k : Int) - 1), .i (hiW (x / 2 ^ k / y)), .i (loW (x / 2 ^ k / y)), .i (hiW (x / 2 ^ k % y)), .i (loW (x / 2 ^ k % y))]
theorem divide_F (x y : Nat) (hx : x < 340282366920938463463374607431768211456) (hy : 0 < y) (hy2 : y < 170141183460469231731687303715884105728) :
    k_simulatorref02_Divide.F [.i (hiW x), .i (loW x), .i (hiW y), .i (loW y)] = some [.i (hiW (x / y)), .i (loW (x / y)), .i (hiW (x % y)), .i (loW (x % y))] := by
  simp only [k_simulatorref02_Divide_F, tk_simulatorref02_Divide, k_simulatorref02_Plus_f, k_simulatorref02_bit_f, k_simulatorref02_Less_f, k_simulatorref02_Minus_f, Go.Proofs.YtkjgcalkkfgmlaaDoor.T.den, Ex.ev, U1.ev, U2.ev, U3.ev, gam, List.map, List.getD_cons_zero, List.getD_cons_succ, List.length, List.cons_append, List.nil_append, if_true, Sc.int_i, Sc.bool_b, Sc.list_l, Sc.str_s, Nat.reduceEqDiff, if_false, List.getElem?_cons_zero, List.getElem?_cons_succ]
  have h0 : x / 2 ^ 128 = 0 := Nat.div_eq_of_lt hx
  have conv : ([.i 127, .i 0, .i 0, .i 0, .i 0] : List Sc) = divInv x y 128 := by
    unfold divInv
    rw [h0, Nat.zero_div, Nat.zero_mod]; rfl
  rw [conv]
  refine loop_rounds (S := Nat) (divInv x y) (fun _ => some [.i (hiW (x / y)), .i (loW (x / y)), .i (hiW (x % y)), .i (loW (x % y))]) (fun k => k ≤ 128) (fun k => k) ?_ 128 (by omega) (by omega)
  · intro k rec hk hrec
    cases k with
    | zero => simp [divInv]
    | succ k =>
      have := hrec k (by omega) (by omega)
      simp only [divInv] at this ⊢
      have ek : ((k + 1 : Nat) : Int) - 1 = k := by omega
      have eb := bit_F x k (by omega)
      have ek0 : (0 : Int) ≤ k := by omega
      have hp := div_pow x k
      have hb : x / 2 ^ k % 2 ≤ 1 := by omega
      obtain ⟨d1, d2⟩ := two_div (x / 2 ^ (k + 1)) y _ hy hb
      rw [← hp] at d1 d2
      have hlt : x / 2 ^ (k + 1) < 170141183460469231731687303715884105728 := by
        rw [Nat.pow_succ, ← Nat.div_div_eq_div_mul]
        have := Nat.div_le_self x (2 ^ k); omega
      generalize x / 2 ^ (k + 1) = p at *
      generalize x / 2 ^ k % 2 = b at *
      generalize x / 2 ^ k = p' at *
      have hr := Nat.mod_lt p hy
      have hq := Nat.div_le_self p y
      generalize p / y = q at *
      generalize p % y = r at *
      have e1 := plus_F q q (by omega)
      have e2 := plus_F r r (by omega)
      have e3 := plus_F (r + r) b (by omega)
      rw [hi_small (x := b) (by omega), lo_small (x := b) (by omega)] at e3
      have e4 := less_F (r + r + b) y
      have ew : IntKind.i64.wrap ((k : Int) - 1) = (k : Int) - 1 := wrI (by omega) (by omega)
      rw [← Nat.two_mul] at e1
      simp only [ek, ek0, eb, e1, e2, e3, e4, ew, Int.natCast_nonneg, bne_iff_ne, beq_iff_eq, ne_eq, decide_eq_true_eq, Bool.and_eq_true, Bool.or_eq_true, Bool.not_eq_true', decide_eq_false_iff_not, beq_eq_false_iff_ne, bne_eq_false_iff_eq, not_true_eq_false, not_false_eq_true, if_true, if_false, reduceIte, and_true, true_and, and_false, false_and, or_false, false_or, or_true, true_or, List.getD_cons_zero, List.getD_cons_succ, List.length_cons, List.length_nil, List.cons_append, List.nil_append, Nat.reduceAdd, Nat.reduceEqDiff, reduceCtorEq, Bool.not_true, Bool.not_false, Bool.true_and, Bool.and_true, Bool.false_and, Bool.and_false, Bool.or_true, Bool.true_or, Bool.or_false, Bool.false_or, Bool.false_eq_true, Bool.true_eq_false, Sc.int_i, Sc.bool_b, Sc.list_l, Sc.str_s, Int.reduceEq, Int.reduceLT, Int.reduceLE, Int.reduceNe, decide_true, decide_false, decide_not, eq_self, Classical.not_not, List.getElem?_cons_zero, List.getElem?_cons_succ, beq_self_eq_true, bne_self_eq_false]
      have er : r + r + b = 2 * r + b := by omega
      rw [er] at *
      by_cases hc : 2 * r + b < y
      · rw [if_pos hc] at d1 d2
        rw [Nat.add_zero] at d1
        rw [d1, d2] at this
        simp only [hc, this, Int.natCast_nonneg, Int.natCast_nonneg, bne_iff_ne, beq_iff_eq, ne_eq, decide_eq_true_eq, Bool.and_eq_true, Bool.or_eq_true, Bool.not_eq_true', decide_eq_false_iff_not, beq_eq_false_iff_ne, bne_eq_false_iff_eq, not_true_eq_false, not_false_eq_true, if_true, if_false, reduceIte, and_true, true_and, and_false, false_and, or_false, false_or, or_true, true_or, List.getD_cons_zero, List.getD_cons_succ, List.length_cons, List.length_nil, List.cons_append, List.nil_append, Nat.reduceAdd, Nat.reduceEqDiff, reduceCtorEq, Bool.not_true, Bool.not_false, Bool.true_and, Bool.and_true, Bool.false_and, Bool.and_false, Bool.or_true, Bool.true_or, Bool.or_false, Bool.false_or, Bool.false_eq_true, Bool.true_eq_false, Sc.int_i, Sc.bool_b, Sc.list_l, Sc.str_s, Int.reduceEq, Int.reduceLT, Int.reduceLE, Int.reduceNe, decide_true, decide_false, decide_not, eq_self, Classical.not_not, List.getElem?_cons_zero, List.getElem?_cons_succ, beq_self_eq_true, bne_self_eq_false]
      · rw [if_neg hc] at d1 d2
        have e5 := minus_F (2 * r + b) y (by omega) (by omega)
        obtain ⟨o1, o2⟩ := odd_w q
        have ow : IntKind.u64.wrap (loW (2 * q) + 1) = loW (2 * q + 1) := by rw [o2]; have := lo_range (2 * q + 1); exact wrU (by omega) (by omega)
        rw [d1, d2] at this
        simp only [e5, ow]
        rw [← o1]
        simp only [hc, this, Int.natCast_nonneg, Int.natCast_nonneg, bne_iff_ne, beq_iff_eq, ne_eq, decide_eq_true_eq, Bool.and_eq_true, Bool.or_eq_true, Bool.not_eq_true', decide_eq_false_iff_not, beq_eq_false_iff_ne, bne_eq_false_iff_eq, not_true_eq_false, not_false_eq_true, if_true, if_false, reduceIte, and_true, true_and, and_false, false_and, or_false, false_or, or_true, true_or, List.getD_cons_zero, List.getD_cons_succ, List.length_cons, List.length_nil, List.cons_append, List.nil_append, Nat.reduceAdd, Nat.reduceEqDiff, reduceCtorEq, Bool.not_true, Bool.not_false, Bool.true_and, Bool.and_true, Bool.false_and, Bool.and_false, Bool.or_true, Bool.true_or, Bool.or_false, Bool.false_or, Bool.false_eq_true, Bool.true_eq_false, Sc.int_i, Sc.bool_b, Sc.list_l, Sc.str_s, Int.reduceEq, Int.reduceLT, Int.reduceLE, Int.reduceNe, decide_true, decide_false, decide_not, eq_self, Classical.not_not, List.getElem?_cons_zero, List.getElem?_cons_succ, beq_self_eq_true, bne_self_eq_false]
theorem common_F (a b : Nat) (ha : a < 340282366920938463463374607431768211456) (hb : b < 170141183460469231731687303715884105728) :
    k_simulatorref02_common.F [.i (hiW a), .i (loW a), .i (hiW b), .i (loW b)] = some [.i (hiW (Nat.gcd a b)), .i (loW (Nat.gcd a b))] := by
  simp only [k_simulatorref02_common_F, tk_simulatorref02_common, k_simulatorref02_Divide_f, Go.Proofs.YtkjgcalkkfgmlaaDoor.T.den, Ex.ev, U1.ev, U2.ev, U3.ev, gam, List.map, List.getD_cons_zero, List.getD_cons_succ, List.length, List.cons_append, List.nil_append, if_true, Sc.int_i, Sc.bool_b, Sc.list_l, Sc.str_s, Nat.reduceEqDiff, if_false, List.getElem?_cons_zero, List.getElem?_cons_succ]
  refine loop_rounds (S := Nat × Nat) (fun s => [.i (hiW s.1), .i (loW s.1), .i (hiW s.2), .i (loW s.2)]) (fun s => some [.i (hiW (Nat.gcd s.1 s.2)), .i (loW (Nat.gcd s.1 s.2))]) (fun s => s.1 < 340282366920938463463374607431768211456 ∧ s.2 < 170141183460469231731687303715884105728) (fun s => s.2) ?_ (a, b) ⟨ha, hb⟩ ?_
  · rintro ⟨a, b⟩ rec ⟨ha, hb⟩ hrec
    simp only at ha hb
    by_cases h : b = 0
    · subst h
      have z1 : hiW 0 = 0 := rfl
      have z2 : loW 0 = 0 := rfl
      simp [z1, z2]
    · have hp : 0 < b := Nat.pos_of_ne_zero h
      have hm := Nat.mod_lt a hp
      have := hrec (b, a % b) ⟨by simp only; omega, by simp only; omega⟩ hm
      simp only at this
      rw [gcd_step] at this
      have hz : ¬ (hiW b = 0 ∧ loW b = 0) := fun e => h (w_zero.1 e)
      have hz2 : (!((hiW b == 0) && ((loW b == 0) && true))) = true := by
        simp only [Bool.and_true, Bool.not_eq_true', Bool.and_eq_false_iff, beq_eq_false_iff_ne]
        by_cases h1 : hiW b = 0
        · exact .inr fun h2 => hz ⟨h1, h2⟩
        · exact .inl h1
      rw [Bool.not_eq_true', Bool.and_true] at hz2
      simp only [this, hz2, divide_F a b ha hp hb, Int.natCast_nonneg, bne_iff_ne, beq_iff_eq, ne_eq, decide_eq_true_eq, Bool.and_eq_true, Bool.or_eq_true, Bool.not_eq_true', decide_eq_false_iff_not, beq_eq_false_iff_ne, bne_eq_false_iff_eq, not_true_eq_false, not_false_eq_true, if_true, if_false, reduceIte, and_true, true_and, and_false, false_and, or_false, false_or, or_true, true_or, List.getD_cons_zero, List.getD_cons_succ, List.length_cons, List.length_nil, List.cons_append, List.nil_append, Nat.reduceAdd, Nat.reduceEqDiff, reduceCtorEq, Bool.not_true, Bool.not_false, Bool.true_and, Bool.and_true, Bool.false_and, Bool.and_false, Bool.or_true, Bool.true_or, Bool.or_false, Bool.false_or, Bool.false_eq_true, Bool.true_eq_false, Sc.int_i, Sc.bool_b, Sc.list_l, Sc.str_s, Int.reduceEq, Int.reduceLT, Int.reduceLE, Int.reduceNe, decide_true, decide_false, decide_not, eq_self, Classical.not_not, List.getElem?_cons_zero, List.getElem?_cons_succ, beq_self_eq_true, bne_self_eq_false]
  · simp only; omega
theorem refMade_F (neg : Bool) (n d : Nat) (hn : n < 340282366920938463463374607431768211456) (h0 : 0 < d) (hd : d < 170141183460469231731687303715884105728) :
    k_simulatorref02_Made.F [.b neg, .i (hiW n), .i (loW n), .i (hiW d), .i (loW d)] = some (madeQ neg (n / n.gcd d) (d / n.gcd d)) := by
  have g0 : 0 < n.gcd d := Nat.gcd_pos_of_pos_right _ h0
  have g1 : n.gcd d ≤ d := Nat.le_of_dvd h0 (Nat.gcd_dvd_right ..)
  simp only [k_simulatorref02_Made_F, tk_simulatorref02_Made, k_simulatorref02_common_f, k_simulatorref02_Divide_f, common_F n d hn hd, divide_F n (n.gcd d) hn g0 (by omega), divide_F d (n.gcd d) (by omega) g0 (by omega), Go.Proofs.YtkjgcalkkfgmlaaDoor.T.den, Ex.ev, U1.ev, U2.ev, U3.ev, gam, List.map, List.getD_cons_zero, List.getD_cons_succ, List.length, List.cons_append, List.nil_append, if_true, Sc.int_i, Sc.bool_b, Sc.list_l, Sc.str_s, Nat.reduceEqDiff, if_false, List.getElem?_cons_zero, List.getElem?_cons_succ]
  have k1 := Nat.div_le_self n (n.gcd d)
  have k2 := Nat.div_le_self d (n.gcd d)
  generalize n / n.gcd d = a at *
  generalize d / n.gcd d = b at *
  unfold madeQ maxN maxD noQ
  have a1 := hi_lo a; have b1 := hi_lo b; have a2 := lo_range a; have b2 := lo_range b; have a3 := hi_nonneg a; have b3 := hi_nonneg b
  simp only [bne_iff_ne, decide_eq_true_eq, List.length]
  by_cases h1 : a ≤ 4611686018427387904
  · have z1 : hiW a = 0 := hi_small (by omega)
    have z2 : loW a = a := lo_small (by omega)
    by_cases h2 : b ≤ 1000000000000000
    · have z3 : hiW b = 0 := hi_small (by omega)
      have z4 : loW b = b := lo_small (by omega)
      rw [z1, z2, z3, z4, wrI (z := (a : Int)) (by omega) (by omega), wrI (z := (b : Int)) (by omega) (by omega), wrI (z := 0 - (a : Int)) (by omega) (by omega)]
      cases neg <;> simp [h1, h2, show ¬ (4611686018427387904 : Int) < a by omega, show ¬ (1000000000000000 : Int) < b by omega]
    · rw [z1, z2]
      by_cases h3 : hiW b = 0
      · have : (1000000000000000 : Int) < loW b := by omega
        simp [h2, h3, this, show ¬ (4611686018427387904 : Int) < a by omega]
      · simp [h2, h3, show ¬ (4611686018427387904 : Int) < a by omega]
  · skip
    by_cases h3 : hiW a = 0
    · have : (4611686018427387904 : Int) < loW a := by omega
      simp [h1, h3, this]
    · simp [h1, h3]
theorem made_abs (neg : Bool) (n d : Nat) (hd : 0 < d) : madeQ neg (n / n.gcd d) (d / n.gcd d) = outQ (Rat.divInt (if neg = true then -(n : Int) else n) d) := by
  have h := made_div (if neg = true then -(n : Int) else n) d (by omega)
  have e1 : (if neg = true then -(n : Int) else n).natAbs = n := by cases neg <;> simp
  have e2 : (d : Int).natAbs = d := rfl
  rw [e1, e2] at h
  rw [← h]
  have e3 : decide ((d : Int) < 0) = false := by simp
  rw [e3, Bool.bne_false]
  cases neg with
  | false => have : decide ((n : Int) < 0) = false := by simp
             simp [this]
  | true =>
    by_cases h0 : n = 0
    · subst h0; simp [madeQ]
    · have : decide (-(n : Int) < 0) = true := by simp; omega
      rw [if_pos rfl, this]
end Go.Proofs.YtkjgcalkkfgmlaaDoor
