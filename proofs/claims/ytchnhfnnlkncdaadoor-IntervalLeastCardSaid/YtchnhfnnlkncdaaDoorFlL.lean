/-
  Lists of fractions: means, variances and lags: what they are, and what holds of them.
-/
import Derived.Test.YtchnhfnnlkncdaaDoorFlV
namespace Go.Proofs.YtchnhfnnlkncdaaDoor
set_option linter.unusedSimpArgs false

def mean50O (ps : List (Int × Int)) : Option Rat := if 50 < ps.length then none else meanO ps
theorem mean50O_fit {ps : List (Int × Int)} {m : Rat} (h : mean50O ps = some m) : fitQ m = true := by
  unfold mean50O at h; split at h
  · cases h
  · exact meanO_fit h
theorem mean50O_val {ps : List (Int × Int)} {m : Rat} (h : mean50O ps = some m) : ∃ qs : List Rat, ps = qs.map pr ∧ (∀ r ∈ qs, fitQ r = true) ∧ qs.length ≠ 0 ∧ m = meanR qs := by
  unfold mean50O at h; split at h
  · cases h
  · exact meanO_val h
def lagO (ps : List (Int × Int)) : Option Rat := if ps.length < 2 ∨ 1000 < ps.length then none else match devO ps with
  | none => none
  | some ds => match prodO ((ds.take (ps.length - 1)).zip (ds.drop 1)) with
    | none => none
    | some a => match prodO (ds.zip ds) with
      | none => none
      | some b => if b = 0 then some 0 else divO (some a) (some b)
theorem lagO_out {ps : List (Int × Int)} (h : ps.length < 2 ∨ 1000 < ps.length) : lagO ps = none := if_pos h
theorem lagO_in {ps : List (Int × Int)} (h : ¬ (ps.length < 2 ∨ 1000 < ps.length)) : lagO ps = match devO ps with
  | none => none
  | some ds => match prodO ((ds.take (ps.length - 1)).zip (ds.drop 1)) with
    | none => none
    | some a => match prodO (ds.zip ds) with
      | none => none
      | some b => if b = 0 then some 0 else divO (some a) (some b) := if_neg h
theorem lagO_fit {ps : List (Int × Int)} {g : Rat} (h : lagO ps = some g) : fitQ g = true := by
  unfold lagO at h; split at h
  · cases h
  · split at h
    · cases h
    · split at h
      · cases h
      · split at h
        · cases h
        · split at h
          · cases h; exact fit_zero
          · exact divO_fit h
/-- The sum of the products of neighbors. -/
def crR : List Rat → Rat
  | [] => 0
  | [_] => 0
  | x :: y :: l => x * y + crR (y :: l)
/-- The sum of the squares. -/
def sqS : List Rat → Rat
  | [] => 0
  | x :: l => x * x + sqS l
theorem take_zip : ∀ (l : List Rat) (x : Rat), ((x :: l).take l.length).zip l = (x :: l).zip l
  | [], _ => rfl
  | y :: l, x => by
    show (x :: (y :: l).take l.length).zip (y :: l) = _
    rw [List.zip_cons_cons, List.zip_cons_cons, take_zip l y]
theorem crR_zip : ∀ l : List Rat, sumR (((l.take (l.length - 1)).zip (l.drop 1)).map fun z => z.1 * z.2) = crR l
  | [] => rfl
  | [x] => rfl
  | x :: y :: l => by
    have ih := crR_zip (y :: l)
    have e1 := take_zip (y :: l) x
    have e2 := take_zip l y
    simp only [List.length_cons, Nat.add_sub_cancel, List.drop_succ_cons, List.drop_zero] at ih e1 e2 ⊢
    rw [e1, List.zip_cons_cons, List.map_cons]
    rw [e2] at ih
    simp only [sumR, crR, ih]
theorem sqS_zip : ∀ l : List Rat, sumR ((l.zip l).map fun z => z.1 * z.2) = sqS l
  | [] => rfl
  | x :: l => by simp only [List.zip_cons_cons, List.map_cons, sumR, sqS, sqS_zip l]
theorem sqS_dev (a : Rat) : ∀ qs : List Rat, sqS (qs.map fun q => q - a) = sqR a qs
  | [] => rfl
  | q :: qs => by simp only [List.map_cons, sqS, sqR, sqS_dev a qs]
theorem cr_le : ∀ (l : List Rat) (x : Rat), 2 * crR (x :: l) + x * x ≤ 2 * sqS (x :: l)
  | [], x => by simp only [crR, sqS]; have := rat_sq x; grind
  | y :: l, x => by
    have ih := cr_le l y
    simp only [crR, sqS] at ih ⊢
    have h := rat_sq (x - y)
    grind
theorem cr_ge : ∀ (l : List Rat) (x : Rat), -(2 * crR (x :: l)) + x * x ≤ 2 * sqS (x :: l)
  | [], x => by simp only [crR, sqS]; have := rat_sq x; grind
  | y :: l, x => by
    have ih := cr_ge l y
    simp only [crR, sqS] at ih ⊢
    have h := rat_sq (x + y)
    grind
theorem cr_bound (l : List Rat) : crR l ≤ sqS l ∧ -(sqS l) ≤ crR l := by
  cases l with
  | nil => simp only [crR, sqS]; constructor <;> grind
  | cons x l =>
    have h1 := cr_le l x
    have h2 := cr_ge l x
    have := rat_sq x
    constructor <;> grind
theorem lagO_val {ps : List (Int × Int)} {g : Rat} (h : lagO ps = some g) : -1 ≤ g ∧ g ≤ 1 := by
  unfold lagO at h; split at h
  · cases h
  · split at h
    · cases h
    · rename_i ds hd
      split at h
      · cases h
      · rename_i a ha
        split at h
        · cases h
        · rename_i b hb
          split at h
          · cases h; constructor <;> decide
          · rename_i h0
            obtain ⟨x, y, e1, e2, _, e4⟩ := divO_some h
            cases e1; cases e2
            obtain ⟨qs, q1, _, _, q4⟩ := devO_val hd
            have hl : ds.length = ps.length := by rw [q4, q1, List.length_map, List.length_map]
            have va := prodO_val ha
            rw [← hl, crR_zip] at va
            have vb := prodO_val hb
            rw [sqS_zip] at vb
            obtain ⟨b1, b2⟩ := cr_bound ds
            rw [← va, ← vb] at b1 b2
            have hb0 : 0 ≤ b := by rw [vb, q4, sqS_dev]; exact sqR_nonneg _ _
            have hbp : 0 < b := by
              rcases Rat.le_iff_lt_or_eq.1 hb0 with h | h
              · exact h
              · exact absurd h.symm h0
            have hi : 0 < b⁻¹ := Rat.inv_pos.2 hbp
            have f1 := Rat.mul_le_mul_of_nonneg_right b1 (Rat.le_of_lt hi)
            have f2 := Rat.mul_le_mul_of_nonneg_right b2 (Rat.le_of_lt hi)
            have f3 : b * b⁻¹ = 1 := Rat.mul_inv_cancel b h0
            rw [e4, Rat.div_def]
            constructor <;> grind
theorem sumR_le {c : Rat} : ∀ {qs : List Rat}, (∀ q ∈ qs, q ≤ c) → sumR qs ≤ (qs.length : Rat) * c
  | [], _ => by simp only [sumR, List.length_nil]; have : ((0 : Nat) : Rat) = 0 := rfl; grind
  | q :: qs, h => by
    have ih := sumR_le (fun x hx => h x (List.mem_cons_of_mem _ hx))
    have h1 := h q (List.mem_cons_self ..)
    simp only [sumR, List.length_cons]
    have e : ((qs.length + 1 : Nat) : Rat) = (qs.length : Rat) + 1 := Rat.natCast_add _ _
    rw [e]; grind
theorem sumR_lt {c : Rat} {qs : List Rat} (h0 : qs ≠ []) (h : ∀ q ∈ qs, q < c) : sumR qs < (qs.length : Rat) * c := by
  cases qs with
  | nil => exact absurd rfl h0
  | cons q qs =>
    have h1 := h q (List.mem_cons_self ..)
    have ih := sumR_le (qs := qs) (c := c) (fun x hx => Rat.le_of_lt (h x (List.mem_cons_of_mem _ hx)))
    simp only [sumR, List.length_cons]
    have e : ((qs.length + 1 : Nat) : Rat) = (qs.length : Rat) + 1 := Rat.natCast_add _ _
    rw [e]; grind
theorem sumR_neg : ∀ qs : List Rat, sumR (qs.map (- ·)) = - sumR qs
  | [] => by simp only [List.map_nil, sumR]; grind
  | q :: qs => by simp only [List.map_cons, sumR, sumR_neg qs]; grind
theorem meanR_mul {qs : List Rat} (h : qs.length ≠ 0) : (qs.length : Rat) * meanR qs = sumR qs := by
  have : (qs.length : Rat) ≠ 0 := fun e => by have := nat_pos_rat (n := qs.length) (by omega); rw [e] at this; exact absurd this Rat.lt_irrefl
  unfold meanR; grind
theorem mean_above {qs : List Rat} (h : qs.length ≠ 0) : ∃ q ∈ qs, meanR qs ≤ q := by
  refine Classical.byContradiction fun hn => ?_
  have := sumR_lt (qs := qs) (c := meanR qs) (fun e => h (by rw [e]; rfl)) (fun q hq => Rat.not_le.1 fun hle => hn ⟨q, hq, hle⟩)
  rw [meanR_mul h] at this
  exact absurd this Rat.lt_irrefl
theorem mean_below {qs : List Rat} (h : qs.length ≠ 0) : ∃ q ∈ qs, q ≤ meanR qs := by
  refine Classical.byContradiction fun hn => ?_
  have := sumR_lt (qs := qs.map (- ·)) (c := -meanR qs) (fun e => h (by have := congrArg List.length e; simpa using this)) (fun q hq => by
    obtain ⟨r, hr, rfl⟩ := List.mem_map.1 hq
    have : meanR qs < r := Rat.not_le.1 fun hle => hn ⟨r, hr, hle⟩
    grind)
  rw [sumR_neg, List.length_map] at this
  have e : (qs.length : Rat) * -meanR qs = - sumR qs := by have := meanR_mul h; grind
  rw [e] at this
  exact absurd this Rat.lt_irrefl
theorem sqR_zero (a : Rat) : ∀ qs : List Rat, sqR a qs = 0 ↔ ∀ q ∈ qs, q = a
  | [] => by simp [sqR]
  | q :: qs => by
    have h1 := rat_sq (q - a)
    have h2 := sqR_nonneg a qs
    have ih := sqR_zero a qs
    simp only [sqR, List.mem_cons, forall_eq_or_imp]
    constructor
    · intro h
      have e1 : (q - a) * (q - a) = 0 := by grind
      have e2 : sqR a qs = 0 := by grind
      refine ⟨?_, ih.1 e2⟩
      rcases Rat.mul_eq_zero.1 e1 with h | h <;> grind
    · rintro ⟨rfl, h⟩
      rw [ih.2 h]; grind
theorem sumR_const {c : Rat} : ∀ {qs : List Rat}, (∀ q ∈ qs, q = c) → sumR qs = (qs.length : Rat) * c
  | [], _ => by simp only [sumR, List.length_nil]; have : ((0 : Nat) : Rat) = 0 := rfl; grind
  | q :: qs, h => by
    have ih := sumR_const (fun x hx => h x (List.mem_cons_of_mem _ hx))
    have h1 := h q (List.mem_cons_self ..)
    simp only [sumR, List.length_cons]
    have e : ((qs.length + 1 : Nat) : Rat) = (qs.length : Rat) + 1 := Rat.natCast_add _ _
    rw [e, ih, h1]; grind
theorem meanR_const {c : Rat} {qs : List Rat} (h : qs.length ≠ 0) (hc : ∀ q ∈ qs, q = c) : meanR qs = c := by
  have h0 : (0 : Rat) < (qs.length : Rat) := nat_pos_rat (by omega)
  unfold meanR
  rw [sumR_const hc]
  grind
theorem varO_zero {ps : List (Int × Int)} {v : Rat} (h : varO ps = some v) : v = 0 ↔ ∀ p ∈ ps, p = ps.getD 0 (0, 0) := by
  obtain ⟨qs, q1, q2, q3, _, q5⟩ := varO_val h
  have hn : (0 : Rat) < ((qs.length - 1 : Nat) : Rat) := nat_pos_rat (by omega)
  have e1 : v = 0 ↔ sqR (meanR qs) qs = 0 := by
    rw [q5]
    generalize ((qs.length - 1 : Nat) : Rat) = n at *
    constructor
    · intro h
      have : n ≠ 0 := fun e => by rw [e] at hn; exact absurd hn Rat.lt_irrefl
      grind
    · intro h; rw [h, Rat.div_def, Rat.zero_mul]
  rw [e1, sqR_zero]
  obtain ⟨q0, l, rfl⟩ : ∃ q l, qs = q :: l := by
    cases qs with
    | nil => simp at q3
    | cons q l => exact ⟨q, l, rfl⟩
  have e2 : ps.getD 0 (0, 0) = pr q0 := by rw [q1]; rfl
  rw [e2]
  constructor
  · intro hm p hp
    rw [q1] at hp
    obtain ⟨q, hq, rfl⟩ := List.mem_map.1 hp
    rw [(hm q hq).trans (hm q0 (List.mem_cons_self ..)).symm]
  · intro hp
    have hc : ∀ q ∈ q0 :: l, q = q0 := fun q hq => pr_inj (hp (pr q) (by rw [q1]; exact List.mem_map_of_mem hq))
    rw [meanR_const (by simp) hc]
    exact hc
end Go.Proofs.YtchnhfnnlkncdaaDoor
