/-
  Fractions as rational numbers: plain facts, no program in sight.
-/
import Derived.Test.YtkjgcalkkfgmlaaDoorSymA
namespace Go.Proofs.YtkjgcalkkfgmlaaDoor
set_option linter.unusedSimpArgs false

def maxN : Nat := 4611686018427387904
def maxD : Nat := 1000000000000000
/-- Within the limits. -/
def fitQ (q : Rat) : Bool := decide (q.num.natAbs ≤ maxN) && decide (q.den ≤ maxD)
/-- A valid fraction. -/
def okF (n d : Int) : Bool := decide (1 ≤ d) && decide (d ≤ (maxD : Int)) && decide (n.natAbs ≤ maxN) && decide (Nat.gcd n.natAbs d.natAbs = 1)
def noQ : List Sc := [.i 0, .i 0, .b false]
def outQ (q : Rat) : List Sc := if fitQ q = true then [.i q.num, .i q.den, .b true] else noQ

theorem fitQ_iff {q : Rat} : fitQ q = true ↔ q.num.natAbs ≤ maxN ∧ q.den ≤ maxD := by
  simp [fitQ]
theorem okF_q {n d : Int} (h : okF n d = true) : ∃ q : Rat, n = q.num ∧ d = q.den ∧ fitQ q = true := by
  simp only [okF, Bool.and_eq_true, decide_eq_true_eq] at h
  obtain ⟨⟨⟨h1, h2⟩, h3⟩, h4⟩ := h
  refine ⟨⟨n, d.natAbs, by omega, h4⟩, rfl, by simp only; omega, fitQ_iff.2 ⟨h3, by simp only; omega⟩⟩
theorem okF_of {q : Rat} (h : fitQ q = true) : okF q.num q.den = true := by
  obtain ⟨h1, h2⟩ := fitQ_iff.1 h
  have := q.den_pos
  simp only [okF, Bool.and_eq_true, decide_eq_true_eq]
  refine ⟨⟨⟨by omega, by omega⟩, h1⟩, ?_⟩
  have := q.reduced
  simpa [Nat.Coprime] using this
theorem num_inj {p q : Rat} (h : p.num = q.num) (h' : (p.den : Int) = q.den) : p = q := Rat.ext h (by omega)
theorem fit_bounds {q : Rat} (h : fitQ q = true) : -4611686018427387904 ≤ q.num ∧ q.num ≤ 4611686018427387904 ∧ 1 ≤ (q.den : Int) ∧ (q.den : Int) ≤ 1000000000000000 := by
  obtain ⟨h1, h2⟩ := fitQ_iff.1 h
  have := q.den_pos
  unfold maxN at h1; unfold maxD at h2
  omega
theorem fit_neg {q : Rat} : fitQ (-q) = fitQ q := by simp [fitQ]
theorem fit_zero : fitQ 0 = true := by decide

/-- The sum in lowest terms, as it is reckoned. -/
theorem add_low (q r : Rat) : let g := q.den.gcd r.den; let w := q.num * ((r.den / g : Nat) : Int) + r.num * ((q.den / g : Nat) : Int); let t := w.natAbs.gcd g
    (q + r).num = w / (t : Int) ∧ (q + r).den = (q.den / g) * (r.den / t) := by
  intro g w t
  have hg0 : 0 < g := Nat.gcd_pos_of_pos_left _ q.den_pos
  have hq : q.den / g * g = q.den := Nat.div_mul_cancel (Nat.gcd_dvd_left ..)
  have hr : r.den / g * g = r.den := Nat.div_mul_cancel (Nat.gcd_dvd_right ..)
  have haux : t = w.natAbs.gcd (q.den / g * r.den) := Rat.add.aux q r (g := g) rfl rfl rfl
  have htg : t ∣ g := Nat.gcd_dvd_right ..
  have htr : t ∣ r.den := Nat.dvd_trans htg (Nat.gcd_dvd_right ..)
  have e : q + r = mkRat w (q.den / g * r.den) := by
    rw [Rat.add_def']
    have e1 : q.num * (r.den : Int) + r.num * (q.den : Int) = w * (g : Int) := by
      show _ = (q.num * ((r.den / g : Nat) : Int) + r.num * ((q.den / g : Nat) : Int)) * (g : Int)
      rw [Int.add_mul, Int.mul_assoc, Int.mul_assoc, ← Int.natCast_mul, ← Int.natCast_mul, hq, hr]
    have e2 : q.den * r.den = q.den / g * r.den * g := by
      rw [Nat.mul_right_comm, hq]
    rw [e1, e2, Rat.mkRat_mul_right (by omega)]
  have hd : q.den / g * r.den ≠ 0 := by
    have h1 : 0 < q.den / g := Nat.div_pos (Nat.le_of_dvd q.den_pos (Nat.gcd_dvd_left ..)) hg0
    exact Nat.ne_of_gt (Nat.mul_pos h1 r.den_pos)
  rw [e, Rat.num_mkRat, Rat.den_mkRat, if_neg hd, if_neg hd, Nat.gcd_comm _ w.natAbs, ← haux]
  exact ⟨rfl, Nat.mul_div_assoc _ htr⟩

theorem mul_low (q r : Rat) : let x := q.num.natAbs.gcd r.den; let y := r.num.natAbs.gcd q.den
    (q * r).num = (q.num / (x : Int)) * (r.num / (y : Int)) ∧ (q * r).den = (q.den / y) * (r.den / x) := by
  intro x y
  have hx0 : 0 < x := Nat.gcd_pos_of_pos_right _ r.den_pos
  have hy0 : 0 < y := Nat.gcd_pos_of_pos_right _ q.den_pos
  have hqx : (x : Int) ∣ q.num := Int.ofNat_dvd_left.2 (Nat.gcd_dvd_left ..)
  have hry : (y : Int) ∣ r.num := Int.ofNat_dvd_left.2 (Nat.gcd_dvd_left ..)
  have hqy : y ∣ q.den := Nat.gcd_dvd_right ..
  have hrx : x ∣ r.den := Nat.gcd_dvd_right ..
  have a1 : (q.num / (x : Int)).natAbs = q.num.natAbs / x := by rw [Int.natAbs_ediv_of_dvd hqx]; rfl
  have a2 : (r.num / (y : Int)).natAbs = r.num.natAbs / y := by rw [Int.natAbs_ediv_of_dvd hry]; rfl
  have hd1 : 0 < q.den / y := Nat.div_pos (Nat.le_of_dvd q.den_pos hqy) hy0
  have hd2 : 0 < r.den / x := Nat.div_pos (Nat.le_of_dvd r.den_pos hrx) hx0
  have cop : ((q.num / (x : Int)) * (r.num / (y : Int))).natAbs.Coprime ((q.den / y) * (r.den / x)) := by
    rw [Int.natAbs_mul, a1, a2, Nat.coprime_mul_iff_left]
    refine ⟨Nat.coprime_mul_iff_right.2 ⟨?_, ?_⟩, Nat.coprime_mul_iff_right.2 ⟨?_, ?_⟩⟩
    · exact (q.reduced.coprime_div_left (Nat.gcd_dvd_left ..)).coprime_div_right (Nat.gcd_dvd_right ..)
    · exact Nat.coprime_div_gcd_div_gcd (Nat.gcd_pos_of_pos_right _ r.den_pos)
    · exact Nat.coprime_div_gcd_div_gcd (Nat.gcd_pos_of_pos_right _ q.den_pos)
    · exact (r.reduced.coprime_div_left (Nat.gcd_dvd_left ..)).coprime_div_right (Nat.gcd_dvd_right ..)
  have hd : (q.den / y) * (r.den / x) ≠ 0 := Nat.ne_of_gt (Nat.mul_pos hd1 hd2)
  have e : q * r = ⟨(q.num / (x : Int)) * (r.num / (y : Int)), (q.den / y) * (r.den / x), hd, cop⟩ := by
    rw [Rat.mul_def', Rat.mk_eq_mkRat, Rat.mkRat_eq_iff (Nat.ne_of_gt (Nat.mul_pos q.den_pos r.den_pos)) hd]
    have q1 : q.num / (x : Int) * x = q.num := Int.ediv_mul_cancel hqx
    have q2 : r.num / (y : Int) * y = r.num := Int.ediv_mul_cancel hry
    have q3 : q.den / y * y = q.den := Nat.div_mul_cancel hqy
    have q4 : r.den / x * x = r.den := Nat.div_mul_cancel hrx
    generalize q.num / (x : Int) = A at *
    generalize r.num / (y : Int) = B at *
    generalize q.den / y = C at *
    generalize r.den / x = D at *
    rw [← q1, ← q2, ← q3, ← q4]
    simp only [Int.natCast_mul]
    grind
  rw [e]
  exact ⟨rfl, rfl⟩

/-- The quotient of two integers in lowest terms. -/
theorem div_low (n d : Int) (hd : d ≠ 0) : let g := n.natAbs.gcd d.natAbs
    (Rat.divInt n d).num = (if (decide (n < 0)) != (decide (d < 0)) then -((n.natAbs / g : Nat) : Int) else ((n.natAbs / g : Nat) : Int)) ∧ (Rat.divInt n d).den = d.natAbs / g := by
  intro g
  have hg : d.gcd n = g := by simp only [g, Int.gcd]; exact Nat.gcd_comm _ _
  rw [Rat.num_divInt, Rat.den_divInt, if_neg hd, hg]
  refine ⟨?_, rfl⟩
  have hdvd : (g : Int) ∣ n := Int.ofNat_dvd_left.2 (Nat.gcd_dvd_left ..)
  obtain ⟨k, hk⟩ := hdvd
  have hg0 : 0 < g := Nat.gcd_pos_of_pos_right _ (by omega)
  have hg1 : (g : Int) ≠ 0 := by omega
  have e1 : n.natAbs / g = k.natAbs := by
    rw [hk, Int.natAbs_mul, Int.natAbs_natCast, Nat.mul_div_cancel_left _ hg0]
  rw [e1]
  have e2 : d.sign * n / (g : Int) = d.sign * k := by
    rw [hk, Int.mul_left_comm, Int.mul_ediv_cancel_left _ hg1]
  rw [e2]
  have hs : (n < 0) ↔ k < 0 := by
    rw [hk]
    constructor
    · intro h
      rcases (by omega : k < 0 ∨ 0 ≤ k) with h' | h'
      · exact h'
      · have := Int.mul_nonneg (a := (g : Int)) (b := k) (by omega) h'; omega
    · intro h
      exact Int.mul_neg_of_pos_of_neg (by omega) h
  by_cases h1 : d < 0
  · rw [Int.sign_eq_neg_one_of_neg h1]
    by_cases h2 : k < 0
    · have := hs.2 h2; simp [this, h1]; omega
    · have : ¬ n < 0 := fun h => h2 (hs.1 h)
      simp [this, h1]; omega
  · rw [Int.sign_eq_one_of_pos (by omega)]
    by_cases h2 : k < 0
    · have := hs.2 h2; simp [this, h1]; omega
    · have : ¬ n < 0 := fun h => h2 (hs.1 h)
      simp [this, h1]; omega

/-- The sign of the difference. -/
def cmpQ (q r : Rat) : Int := if q < r then -1 else if q = r then 0 else 1
def usualQ (n d : Int) : Rat := if okF n d = true then Rat.divInt n d else 0
theorem usual_ok {q : Rat} (h : fitQ q = true) : usualQ q.num q.den = q := by
  rw [usualQ, if_pos (okF_of h), Rat.num_divInt_den]
theorem divInt_q (q : Rat) : Rat.divInt q.num q.den = q := Rat.num_divInt_den q

/-- A fraction's value, if the result exists. -/
def addQ (a b c d : Int) : List Sc := if okF a b = true ∧ okF c d = true then outQ (Rat.divInt a b + Rat.divInt c d) else noQ
def subQ (a b c d : Int) : List Sc := if okF a b = true ∧ okF c d = true then outQ (Rat.divInt a b - Rat.divInt c d) else noQ
def mulQ (a b c d : Int) : List Sc := if okF a b = true ∧ okF c d = true then outQ (Rat.divInt a b * Rat.divInt c d) else noQ
def divQ (a b c d : Int) : List Sc := if okF a b = true ∧ okF c d = true ∧ c ≠ 0 then outQ (Rat.divInt a b / Rat.divInt c d) else noQ
def ofQ (n d : Int) : List Sc := if d = 0 then noQ else outQ (Rat.divInt n d)

/-- A number of 128 bits: its halves. -/
def hiW (x : Nat) : Int := ((x / 18446744073709551616 : Nat) : Int)
def loW (x : Nat) : Int := ((x % 18446744073709551616 : Nat) : Int)
theorem hi_small {x : Nat} (h : x < 18446744073709551616) : hiW x = 0 := by unfold hiW; omega
theorem lo_small {x : Nat} (h : x < 18446744073709551616) : loW x = x := by unfold loW; omega
theorem hi_lo (x : Nat) : hiW x * 18446744073709551616 + loW x = x := by unfold hiW loW; omega
theorem hi_nonneg (x : Nat) : 0 ≤ hiW x := by unfold hiW; omega
theorem lo_range (x : Nat) : 0 ≤ loW x ∧ loW x < 18446744073709551616 := by unfold loW; omega
theorem hi_lt {x : Nat} (h : x < 340282366920938463463374607431768211456) : hiW x < 18446744073709551616 := by unfold hiW; omega
theorem w_eq {x y : Nat} : (hiW x = hiW y ∧ loW x = loW y) ↔ x = y := by
  constructor
  · intro ⟨h1, h2⟩; have a := hi_lo x; have b := hi_lo y; rw [h1, h2] at a; omega
  · rintro rfl; exact ⟨rfl, rfl⟩
theorem w_zero {x : Nat} : (hiW x = 0 ∧ loW x = 0) ↔ x = 0 := by
  have := hi_lo x; have h1 := hi_nonneg x; have h2 := lo_range x
  constructor
  · intro ⟨a, b⟩; rw [a, b] at this; omega
  · rintro rfl; exact ⟨rfl, rfl⟩
theorem w_lt {x y : Nat} : x < y ↔ (hiW x < hiW y ∨ hiW x = hiW y ∧ loW x < loW y) := by
  have a := hi_lo x; have b := hi_lo y; have h1 := lo_range x; have h2 := lo_range y
  omega
end Go.Proofs.YtkjgcalkkfgmlaaDoor
