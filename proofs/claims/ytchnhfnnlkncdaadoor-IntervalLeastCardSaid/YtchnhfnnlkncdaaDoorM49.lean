/-
  Chapter 49: what half, least, Quantile and Of return.
-/
import Derived.Test.YtchnhfnnlkncdaaDoorFlM
import Derived.Test.YtchnhfnnlkncdaaDoorFrO
import Derived.Test.YtchnhfnnlkncdaaDoorSq
namespace Go.Proofs.YtchnhfnnlkncdaaDoor
set_option linter.unusedSimpArgs false
set_option linter.unusedVariables false

/-- The least number whose square is at least m, up to N. -/
def lea (m : Nat) : Nat → Nat
  | 0 => 0
  | N + 1 => if lea m N < N then lea m N else if m ≤ N * N then N else N + 1
theorem lea_spec (m : Nat) : ∀ N, lea m N ≤ N ∧ (∀ x, x < lea m N → x * x < m) ∧ (lea m N < N → m ≤ lea m N * lea m N)
  | 0 => ⟨Nat.le_refl _, fun x h => absurd h (Nat.not_lt_zero _), fun h => absurd h (Nat.lt_irrefl _)⟩
  | N + 1 => by
    obtain ⟨h1, h2, h3⟩ := lea_spec m N
    simp only [lea]
    by_cases c1 : lea m N < N
    · rw [if_pos c1]; exact ⟨by omega, h2, fun _ => h3 c1⟩
    · have e : lea m N = N := by omega
      rw [if_neg c1]
      rw [e] at h2
      by_cases c2 : m ≤ N * N
      · rw [if_pos c2]; exact ⟨by omega, h2, fun _ => c2⟩
      · rw [if_neg c2]
        refine ⟨Nat.le_refl _, fun x hx => ?_, fun h => absurd h (Nat.lt_irrefl _)⟩
        by_cases hxn : x = N
        · subst hxn; omega
        · exact h2 x (by omega)
def IsL (m h : Nat) : Prop := h ≤ 1000000000001 ∧ (∀ x, x < h → x * x < m) ∧ (h < 1000000000001 → m ≤ h * h)
theorem IsL_ex' (m N : Nat) : ∃ h, h ≤ N ∧ (∀ x, x < h → x * x < m) ∧ (h < N → m ≤ h * h) := ⟨lea m N, lea_spec m N⟩
theorem IsL_ex (m : Nat) : ∃ h, IsL m h := IsL_ex' m 1000000000001
/-- The least number whose square is at least m; one more than the greatest if there is none. -/
noncomputable def hN (m : Nat) : Nat := Classical.choose (IsL_ex m)
theorem hN_spec (m : Nat) : IsL m (hN m) := Classical.choose_spec (IsL_ex m)
theorem hN_uniq {m h : Nat} (h1 : h ≤ 1000000000001) (h2 : ∀ x, x < h → x * x < m) (h3 : h < 1000000000001 → m ≤ h * h) : hN m = h := by
  obtain ⟨s1, s2, s3⟩ := hN_spec m
  generalize hN m = k at *
  rcases Nat.lt_trichotomy k h with hl | hl | hl
  · have := h2 _ hl
    have := s3 (by omega)
    omega
  · exact hl
  · have := s2 _ hl
    have := h3 (by omega)
    omega
theorem sq_lt {x y : Nat} (h : x < y) : x * x < y * y := Nat.mul_self_lt_mul_self h
theorem sq_le {x y : Nat} (h : x ≤ y) : x * x ≤ y * y := Nat.mul_self_le_mul_self h
/-- The quotient, rounded up. -/
def ceilD (w d : Nat) : Nat := if w % d = 0 then w / d else w / d + 1
def cm (n q : Nat) (v : Rat) : Nat := ceilD (q * q * v.num.toNat) (n * v.den)
/-- The search. -/
theorem search_loop {g : (List Sc → Option (List Sc)) → List Sc → Option (List Sc)} (m : Nat) (R : List Sc)
    (h1 : ∀ (lo hi : Nat) rec, lo < hi → hi ≤ 1000000000001 → ((lo : Int) < hi) → g rec [.i lo, .i hi] = if m ≤ (lo + hi) / 2 * ((lo + hi) / 2) then rec [.i lo, .i (((lo + hi) / 2 : Nat) : Int)] else rec [.i (((lo + hi) / 2 + 1 : Nat) : Int), .i hi])
    (h2 : ∀ rec, g rec [.i (hN m : Nat), .i (hN m : Nat)] = some R) : loopN g rounds [.i 0, .i 1000000000001] = some R := by
  have h := loop_rounds (g := g) (S := Nat × Nat) (fun s => [.i (s.1 : Int), .i (s.2 : Int)]) (fun _ => some R) (fun s => s.1 ≤ s.2 ∧ s.2 ≤ 1000000000001 ∧ (∀ x, x < s.1 → x * x < m) ∧ (s.2 < 1000000000001 → m ≤ s.2 * s.2)) (fun s => s.2 - s.1) (by
    rintro ⟨lo, hi⟩ rec ⟨i1, i2, i3, i4⟩ hrec
    simp only at i1 i2 i3 i4 ⊢
    by_cases hlt : lo < hi
    · rw [h1 lo hi rec hlt i2 (by omega)]
      have a1 : lo ≤ (lo + hi) / 2 := by omega
      have a2 : (lo + hi) / 2 < hi := by omega
      generalize (lo + hi) / 2 = mid at *
      by_cases c : m ≤ mid * mid
      · rw [if_pos c]
        exact hrec (lo, mid) ⟨a1, by simp only; omega, i3, fun _ => c⟩ (by simp only; omega)
      · rw [if_neg c]
        exact hrec (mid + 1, hi) ⟨by simp only; omega, i2, fun x hx => by
          have := sq_le (show x ≤ mid by simp only at hx; omega)
          omega, i4⟩ (by simp only; omega)
    · have e : lo = hi := by omega
      subst e
      have := hN_uniq i2 i3 i4
      rw [← this]; exact h2 rec) (0, 1000000000001) ⟨by omega, Nat.le_refl _, fun x h => absurd h (Nat.not_lt_zero _), fun h => absurd h (Nat.lt_irrefl _)⟩ (by simp only; omega)
  exact h
theorem shr_half (lo hi : Nat) (h : hi ≤ 1000000000001) (hl : lo ≤ hi) : IntKind.u64.wrap (IntKind.i64.wrap (Int.fdiv (IntKind.u64.wrap (IntKind.i64.wrap ((lo : Int) + hi))) (2 ^ Min.min (Int.toNat 1) IntKind.u64.bits))) = (((lo + hi) / 2 : Nat) : Int) ∧ IntKind.i64.wrap (Int.fdiv (IntKind.u64.wrap (IntKind.i64.wrap ((lo : Int) + hi))) (2 ^ Min.min (Int.toNat 1) IntKind.u64.bits)) = (((lo + hi) / 2 : Nat) : Int) := by
  have e1 : IntKind.i64.wrap ((lo : Int) + hi) = ((lo + hi : Nat) : Int) := by rw [wrI (by omega) (by omega)]; omega
  have e2 : IntKind.u64.wrap ((lo + hi : Nat) : Int) = ((lo + hi : Nat) : Int) := wrU (by omega) (by omega)
  have e3 : Int.fdiv ((lo + hi : Nat) : Int) (2 ^ Min.min (Int.toNat 1) IntKind.u64.bits) = (((lo + hi) / 2 : Nat) : Int) := by
    have : (2 : Int) ^ Min.min (Int.toNat 1) IntKind.u64.bits = 2 := rfl
    rw [this, Int.fdiv_eq_ediv_of_nonneg _ (by omega)]; omega
  have e4 : IntKind.i64.wrap (((lo + hi) / 2 : Nat) : Int) = (((lo + hi) / 2 : Nat) : Int) := wrI (by omega) (by omega)
  have e5 : IntKind.u64.wrap (((lo + hi) / 2 : Nat) : Int) = (((lo + hi) / 2 : Nat) : Int) := wrU (by omega) (by omega)
  rw [e1, e2, e3, e4, e5]; exact ⟨rfl, rfl⟩
theorem split_nat {A Q K : Nat} (e : A = Q + K * 18446744073709551616) (q : Q < 18446744073709551616) : Q = A % 18446744073709551616 ∧ K = A / 18446744073709551616 := by omega
def carry (z : Nat) : Int := if loW z + 1 < 18446744073709551616 then 0 else 1
theorem lo_one (z : Nat) : (loW z + 1 + 0) % 18446744073709551616 = loW (z + 1) := by unfold loW; omega
theorem lo_carry (z : Nat) : (loW z + 1 + 0) / 18446744073709551616 = carry z := by
  have := lo_range z
  unfold carry; split <;> omega
theorem hi_carry (z : Nat) (hz : z < 170141183460469231731687303715884105728) : IntKind.u64.wrap (hiW z + carry z) = hiW (z + 1) := by
  have e : hiW z + carry z = hiW (z + 1) := by
    unfold carry hiW loW; split <;> omega
  rw [e]
  exact wrU (hi_nonneg _) (hi_lt (by omega))
theorem add_one (z : Nat) : k_bits_Add64.F [.i (loW z), .i 1, .i 0] = some [.i (loW (z + 1)), .i (carry z)] := by
  have lr := lo_range z
  rw [k_bits_Add64_F, ← lo_one, ← lo_carry]
  show (if 0 ≤ loW z ∧ (0 : Int) ≤ 1 ∧ (0 : Int) ≤ 0 ∧ (0 : Int) ≤ 1 then some [Sc.i ((loW z + 1 + 0) % 18446744073709551616), Sc.i ((loW z + 1 + 0) / 18446744073709551616)] else none) = _
  exact if_pos ⟨lr.1, by omega, by omega, by omega⟩
theorem w_split (w d : Nat) (hd : 0 < d) (hw : w < 340282366920938463463374607431768211456) (hd2 : d < 18446744073709551616) :
    let H := w / 18446744073709551616; let L := w % 18446744073709551616
    (H % d * 18446744073709551616 + L) / d = w / d % 18446744073709551616 ∧ (H % d * 18446744073709551616 + L) % d = w % d ∧ H / d = w / d / 18446744073709551616 := by
  intro H L
  have hw1 : w = H * 18446744073709551616 + L := by omega
  have hL : L < 18446744073709551616 := Nat.mod_lt _ (by omega)
  have hr : H % d < d := Nat.mod_lt _ hd
  have hH : H = d * (H / d) + H % d := (Nat.div_add_mod H d).symm
  have e : w = (H % d * 18446744073709551616 + L) + d * (H / d * 18446744073709551616) := by
    rw [hw1]
    have : H * 18446744073709551616 = (d * (H / d) + H % d) * 18446744073709551616 := by rw [← hH]
    rw [this, Nat.add_mul, Nat.mul_assoc]; omega
  have q1 : (H % d * 18446744073709551616 + L) / d < 18446744073709551616 := by
    rw [Nat.div_lt_iff_lt_mul hd]
    have : (H % d + 1) * 18446744073709551616 ≤ d * 18446744073709551616 := Nat.mul_le_mul_right _ hr
    rw [Nat.mul_comm 18446744073709551616 d]; omega
  have e2 : w / d = (H % d * 18446744073709551616 + L) / d + H / d * 18446744073709551616 := by
    have := Nat.add_mul_div_left (H % d * 18446744073709551616 + L) (H / d * 18446744073709551616) hd
    rw [← e] at this; exact this
  obtain ⟨g1, g2⟩ := split_nat e2 q1
  refine ⟨g1, ?_, g2⟩
  have := Nat.add_mul_mod_self_left (H % d * 18446744073709551616 + L) d (H / d * 18446744073709551616)
  rw [← e] at this; exact this.symm
theorem half_step {X : Option (List Sc) → Prop} (m mid : Nat) (A B : Option (List Sc)) : (if hiW m < hiW (mid * mid) then A else if hiW (mid * mid) = hiW m then (if ¬ loW m ≤ loW (mid * mid) then B else A) else B) = if m ≤ mid * mid then A else B := by
  have l := @w_lt m (mid * mid)
  have l2 := @w_lt (mid * mid) m
  by_cases h1 : hiW m < hiW (mid * mid)
  · rw [if_pos h1, if_pos (Nat.le_of_lt (l.2 (.inl h1)))]
  · rw [if_neg h1]
    by_cases h2 : hiW (mid * mid) = hiW m
    · rw [if_pos h2]
      by_cases h3 : loW m ≤ loW (mid * mid)
      · rw [if_neg (by omega)]
        have : ¬ mid * mid < m := fun h => by rcases l2.1 h with h | h <;> omega
        rw [if_pos (by omega)]
      · rw [if_pos h3]
        have : mid * mid < m := l2.2 (.inr ⟨h2, by omega⟩)
        rw [if_neg (by omega)]
    · rw [if_neg h2]
      have : mid * mid < m := l2.2 (.inl (by omega))
      rw [if_neg (by omega)]
theorem int_n (z : Int) : (Sc.i z).int = z := id rfl
theorem bool_n (z : Bool) : (Sc.b z).bool = z := id rfl
theorem fhalf_F (n q : Nat) (v : Rat) (hn : 1 ≤ n ∧ n ≤ 50) (hq : q ≤ 20000) (hv : fitQ v = true) (h0 : 0 ≤ v.num) :
    k_interval_half.F [.i n, .i q, .i v.num, .i v.den] = some [.i (hN (cm n q v) : Nat), .b (decide ((hN (cm n q v) : Int) ≤ 1000000000000))] := by
  obtain ⟨b1, b2, b3, b4⟩ := fit_bounds hv
  obtain ⟨V, hV⟩ : ∃ V : Nat, v.num = V := ⟨v.num.toNat, by omega⟩
  have hcm : cm n q v = ceilD (q * q * V) (n * v.den) := by unfold cm; rw [hV, Int.toNat_natCast]
  rw [hcm, hV]
  have q2 : q * q ≤ 20000 * 20000 := Nat.mul_le_mul hq hq
  have d1 : 0 < n * v.den := Nat.mul_pos (by omega) v.den_pos
  have d2 : n * v.den ≤ 50 * 1000000000000000 := Nat.mul_le_mul hn.2 (by omega)
  have qv : q * q * V ≤ 400000000 * 4611686018427387904 := Nat.mul_le_mul q2 (by omega)
  have wq : IntKind.u64.wrap (IntKind.i64.wrap ((q : Int) * q)) = ((q * q : Nat) : Int) := by
    rw [← Int.natCast_mul, wrI (by omega) (by omega), wrU (by omega) (by omega)]
  have wv : IntKind.u64.wrap (V : Int) = V := wrU (by omega) (by omega)
  have wd : IntKind.u64.wrap (IntKind.i64.wrap ((n : Int) * v.den)) = ((n * v.den : Nat) : Int) := by
    rw [← Int.natCast_mul, wrI (by omega) (by omega), wrU (by omega) (by omega)]
  have mu := mul64_F (q * q) V (by omega) (by omega)
  generalize hw : q * q * V = w at *
  generalize hd : n * v.den = d at *
  have hdz : ¬ ((d : Nat) : Int) = 0 := by omega
  have sp := w_split w d d1 (by omega) (by omega)
  simp only at sp
  obtain ⟨s1, s2, s3⟩ := sp
  have eH : hiW w = ((w / 18446744073709551616 : Nat) : Int) := rfl
  have eL : loW w = ((w % 18446744073709551616 : Nat) : Int) := rfl
  have er : Int.tmod (hiW w) (d : Int) = ((w / 18446744073709551616 % d : Nat) : Int) := rfl
  have hHd : w / 18446744073709551616 / d < 18446744073709551616 := by
    have := Nat.div_le_self (w / 18446744073709551616) d
    omega
  have eq : IntKind.u64.wrap (Int.tdiv (hiW w) (d : Int)) = hiW (w / d) := by
    have e : Int.tdiv (hiW w) (d : Int) = ((w / 18446744073709551616 / d : Nat) : Int) := rfl
    rw [e]
    generalize hz : w / 18446744073709551616 / d = z at *
    rw [wrU (by omega) (by omega), s3]; rfl
  have dv := div64_F (w / 18446744073709551616 % d) (w % 18446744073709551616) d (Nat.mod_lt _ d1) (Nat.mod_lt _ (by omega)) (by omega)
  rw [s1, s2, ← er, ← eL] at dv
  have eqL : ((w / d % 18446744073709551616 : Nat) : Int) = loW (w / d) := rfl
  rw [eqL] at dv
  have hwd : w / d ≤ w := Nat.div_le_self _ _
  have mid_mul : ∀ lo hi : Nat, lo < hi → hi ≤ 1000000000001 → k_bits_Mul64.F [.i (((lo + hi) / 2 : Nat) : Int), .i (((lo + hi) / 2 : Nat) : Int)] = some [.i (hiW ((lo + hi) / 2 * ((lo + hi) / 2))), .i (loW ((lo + hi) / 2 * ((lo + hi) / 2)))] := fun lo hi h1 h2 => mul64_F _ _ (by omega) (by omega)
  simp only [k_interval_half_F, tk_interval_half, k_bits_Mul64_f, k_bits_Div64_f, k_bits_Add64_f, Go.Proofs.YtchnhfnnlkncdaaDoor.T.den, Ex.ev, U1.ev, U2.ev, U3.ev, gam, List.map, List.getD_cons_zero, List.getD_cons_succ, List.length, List.cons_append, List.nil_append, if_true, Sc.int_i, Sc.bool_b, Sc.list_l, Sc.str_s, Nat.reduceEqDiff, if_false, List.getElem?_cons_zero, List.getElem?_cons_succ]
  simp only [wq, wv, mu, wd, hdz, dv, Int.natCast_nonneg, bne_iff_ne, beq_iff_eq, ne_eq, decide_eq_true_eq, Bool.and_eq_true, Bool.or_eq_true, Bool.not_eq_true', decide_eq_false_iff_not, beq_eq_false_iff_ne, bne_eq_false_iff_eq, not_true_eq_false, not_false_eq_true, if_true, if_false, reduceIte, and_true, true_and, and_false, false_and, or_false, false_or, or_true, true_or, List.getD_cons_zero, List.getD_cons_succ, List.length_cons, List.length_nil, List.cons_append, List.nil_append, Nat.reduceAdd, Nat.reduceEqDiff, reduceCtorEq, Bool.not_true, Bool.not_false, Bool.true_and, Bool.and_true, Bool.false_and, Bool.and_false, Bool.or_true, Bool.true_or, Bool.or_false, Bool.false_or, Bool.false_eq_true, Bool.true_eq_false, Sc.int_i, Sc.bool_b, Sc.list_l, Sc.str_s, Int.reduceEq, Int.reduceLT, Int.reduceLE, Int.reduceNe, decide_true, decide_false, decide_not, eq_self, Classical.not_not, List.getElem?_cons_zero, List.getElem?_cons_succ, beq_self_eq_true, bne_self_eq_false]
  by_cases hr : w % d = 0
  · have hr' : ¬ (0 : Int) < ((w % d : Nat) : Int) := by omega
    have ec : ceilD w d = w / d := if_pos hr
    rw [ec]
    refine (if_neg hr').trans ?_
    refine search_loop (w / d) _ ?_ ?_
    · intro lo hi rec hlt hhi hlt'
      obtain ⟨sh1, sh2⟩ := shr_half lo hi hhi (by omega)
      have mm := mid_mul lo hi hlt hhi
      have w0 : IntKind.u64.wrap (((lo + hi) / 2 : Nat) : Int) = (((lo + hi) / 2 : Nat) : Int) := wrU (by omega) (by omega)
      have w1 : IntKind.i64.wrap ((((lo + hi) / 2 : Nat) : Int) + 1) = (((lo + hi) / 2 + 1 : Nat) : Int) := by rw [wrI (by omega) (by omega)]; omega
      have st := half_step (X := fun _ => True) (w / d) ((lo + hi) / 2) (rec [.i lo, .i (((lo + hi) / 2 : Nat) : Int)]) (rec [.i (((lo + hi) / 2 + 1 : Nat) : Int), .i hi])
      simp only [hlt', sh1, sh2, w0, mm, eq, w1, Int.natCast_nonneg, bne_iff_ne, beq_iff_eq, ne_eq, decide_eq_true_eq, Bool.and_eq_true, Bool.or_eq_true, Bool.not_eq_true', decide_eq_false_iff_not, beq_eq_false_iff_ne, bne_eq_false_iff_eq, not_true_eq_false, not_false_eq_true, if_true, if_false, reduceIte, and_true, true_and, and_false, false_and, or_false, false_or, or_true, true_or, List.getD_cons_zero, List.getD_cons_succ, List.length_cons, List.length_nil, List.cons_append, List.nil_append, Nat.reduceAdd, Nat.reduceEqDiff, reduceCtorEq, Bool.not_true, Bool.not_false, Bool.true_and, Bool.and_true, Bool.false_and, Bool.and_false, Bool.or_true, Bool.true_or, Bool.or_false, Bool.false_or, Bool.false_eq_true, Bool.true_eq_false, Sc.int_i, Sc.bool_b, Sc.list_l, Sc.str_s, Int.reduceEq, Int.reduceLT, Int.reduceLE, Int.reduceNe, decide_true, decide_false, decide_not, eq_self, Classical.not_not, List.getElem?_cons_zero, List.getElem?_cons_succ, beq_self_eq_true, bne_self_eq_false]
      exact st
    · intro rec
      simp only [Int.lt_irrefl, Int.natCast_nonneg, bne_iff_ne, beq_iff_eq, ne_eq, decide_eq_true_eq, Bool.and_eq_true, Bool.or_eq_true, Bool.not_eq_true', decide_eq_false_iff_not, beq_eq_false_iff_ne, bne_eq_false_iff_eq, not_true_eq_false, not_false_eq_true, if_true, if_false, reduceIte, and_true, true_and, and_false, false_and, or_false, false_or, or_true, true_or, List.getD_cons_zero, List.getD_cons_succ, List.length_cons, List.length_nil, List.cons_append, List.nil_append, Nat.reduceAdd, Nat.reduceEqDiff, reduceCtorEq, Bool.not_true, Bool.not_false, Bool.true_and, Bool.and_true, Bool.false_and, Bool.and_false, Bool.or_true, Bool.true_or, Bool.or_false, Bool.false_or, Bool.false_eq_true, Bool.true_eq_false, Sc.int_i, Sc.bool_b, Sc.list_l, Sc.str_s, Int.reduceEq, Int.reduceLT, Int.reduceLE, Int.reduceNe, decide_true, decide_false, decide_not, eq_self, Classical.not_not, List.getElem?_cons_zero, List.getElem?_cons_succ, beq_self_eq_true, bne_self_eq_false]
  · have hr' : (0 : Int) < ((w % d : Nat) : Int) := by omega
    have ec : ceilD w d = w / d + 1 := if_neg hr
    rw [ec]
    have ad := add_one (w / d)
    have eq2 := hi_carry (w / d) (by omega)
    have hst := fun mid A B => half_step (X := fun _ => True) (w / d + 1) mid A B
    generalize carry (w / d) = CC at ad eq2
    generalize loW (w / d + 1) = LL at ad hst
    refine (if_pos hr').trans ?_
    rw [ad]
    refine (if_pos rfl).trans ?_
    refine search_loop (w / d + 1) _ ?_ ?_
    · intro lo hi rec hlt hhi hlt'
      obtain ⟨sh1, sh2⟩ := shr_half lo hi hhi (by omega)
      have mm := mid_mul lo hi hlt hhi
      have w0 : IntKind.u64.wrap (((lo + hi) / 2 : Nat) : Int) = (((lo + hi) / 2 : Nat) : Int) := wrU (by omega) (by omega)
      have w1 : IntKind.i64.wrap ((((lo + hi) / 2 : Nat) : Int) + 1) = (((lo + hi) / 2 + 1 : Nat) : Int) := by rw [wrI (by omega) (by omega)]; omega
      have st := hst ((lo + hi) / 2) (rec [.i lo, .i (((lo + hi) / 2 : Nat) : Int)]) (rec [.i (((lo + hi) / 2 + 1 : Nat) : Int), .i hi])
      refine (if_pos hlt').trans ?_
      simp only [List.cons_append, List.nil_append, List.getD_cons_succ, List.getD_cons_zero]
      simp only [int_n, sh1, sh2, w0, mm, List.length_cons, List.length_nil, Nat.reduceAdd, if_true, eq, eq2, w1, List.cons_append, List.nil_append, List.getD_cons_succ, List.getD_cons_zero]
      exact st
    · intro rec
      exact if_neg (Int.lt_irrefl _)
end Go.Proofs.YtchnhfnnlkncdaaDoor
