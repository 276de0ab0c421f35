/-
  Lists of integers as fractions: their mean, variance and lag exist.
-/
import Derived.Test.YtchnhfnnlkncdaaDoorFlL
import Derived.Test.YtchnhfnnlkncdaaDoorSq
namespace Go.Proofs.YtchnhfnnlkncdaaDoor
set_option linter.unusedSimpArgs false

def wh (xs : List Int) : List (Int × Int) := xs.map fun x => (x, 1)
theorem divInt_one (x : Int) : Rat.divInt x 1 = (x : Rat) := by
  rw [Rat.divInt_eq_div]; have : ((1 : Int) : Rat) = 1 := rfl; grind
theorem wh_div (xs : List Int) : wh xs = (xs.map fun x => Rat.divInt x 1).map pr := by
  unfold wh; rw [List.map_map]
  refine List.map_congr_left fun x _ => ?_
  show _ = pr (Rat.divInt x 1)
  rw [divInt_one, whole_pr]
theorem fitO_div {n d : Int} (h0 : d ≠ 0) (hn : n.natAbs ≤ maxN) (hd : d.natAbs ≤ maxD) : fitO (Rat.divInt n d) = some (Rat.divInt n d) := fitO_yes (fit_small h0 hn hd)
theorem sumO_div {d : Int} (hd : 0 < d) (hd2 : d ≤ 1000000000000000) {C : Int} (hC : 0 ≤ C) : ∀ (cs : List Int) (acc B : Int), (∀ c ∈ cs, -C ≤ c ∧ c ≤ C) → -B ≤ acc → acc ≤ B → B + cs.length * C ≤ 4611686018427387904 →
    sumO (Rat.divInt acc d) ((cs.map fun c => Rat.divInt c d).map pr) = some (Rat.divInt (acc + sumI cs) d)
  | [], acc, B, _, _, _, _ => by simp [sumO, sumI]
  | c :: cs, acc, B, hc, h1, h2, h3 => by
    have hc0 := hc c (List.mem_cons_self ..)
    have e : ((c :: cs).length : Int) * C = cs.length * C + C := by
      rw [List.length_cons]; have : ((cs.length + 1 : Nat) : Int) = cs.length + 1 := by omega
      rw [this, Int.add_mul, Int.one_mul]
    rw [e] at h3
    have hpos : 0 ≤ (cs.length : Int) * C := Int.mul_nonneg (by omega) hC
    simp only [List.map_cons, sumO]
    have f1 : fitQ (Rat.divInt c d) = true := fit_small (by omega) (by unfold maxN; omega) (by unfold maxD; omega)
    rw [valP_pr f1]
    simp only [addO]
    rw [divInt_add_same, fitO_div (by omega) (by unfold maxN; omega) (by unfold maxD; omega)]
    simp only
    rw [sumO_div hd hd2 hC cs (acc + c) (B + C) (fun x hx => hc x (List.mem_cons_of_mem _ hx)) (by omega) (by omega) (by omega)]
    simp only [sumI]; rw [Int.add_assoc]
theorem zero_div (d : Int) : Rat.divInt 0 d = 0 := Rat.zero_divInt d
/-- The scaled deviations. -/
def cI (xs : List Int) : List Int := xs.map fun x => xs.length * x - sumI xs
theorem cI_len (xs : List Int) : (cI xs).length = xs.length := by simp [cI]
section
variable {xs : List Int} (hn : 1 ≤ xs.length) (hn2 : xs.length ≤ 50) (hx : ∀ x ∈ xs, -40000 ≤ x ∧ x ≤ 40000)
include hx hn2 in
theorem sum_in50 : -2000000 ≤ sumI xs ∧ sumI xs ≤ 2000000 := by
  obtain ⟨a, b, _, _⟩ := sum_bound (B := 40000) (by omega) xs hx
  omega
include hx hn2 in
theorem cI_in : ∀ c ∈ cI xs, -4000000 ≤ c ∧ c ≤ 4000000 := by
  intro c hc
  obtain ⟨x, hm, rfl⟩ := List.mem_map.1 hc
  have h1 := hx x hm
  have h2 := sum_in50 hn2 hx
  have a1 : (xs.length : Int) * x ≤ 50 * 40000 := by
    have : ((xs.length : Int) * x).natAbs ≤ 50 * 40000 := by rw [Int.natAbs_mul]; exact Nat.mul_le_mul (by omega) (by omega)
    omega
  have a2 : -(50 * 40000) ≤ (xs.length : Int) * x := by
    have : ((xs.length : Int) * x).natAbs ≤ 50 * 40000 := by rw [Int.natAbs_mul]; exact Nat.mul_le_mul (by omega) (by omega)
    omega
  omega
include hn hn2 hx in
theorem meanO_int : meanO (wh xs) = some (Rat.divInt (sumI xs) xs.length) := by
  have hs := sumO_div (d := 1) (by omega) (by omega) (C := 40000) (by omega) xs 0 0 hx (by omega) (by omega) (by omega)
  rw [zero_div, ← wh_div, Int.zero_add] at hs
  have hl : (wh xs).length = xs.length := by simp [wh]
  unfold meanO
  rw [hs]
  simp only
  rw [hl, if_neg (by omega)]
  have h0 : ((xs.length : Nat) : Rat) ≠ 0 := fun e => by have := nat_pos_rat (n := xs.length) (by omega); rw [e] at this; exact absurd this Rat.lt_irrefl
  have e : Rat.divInt (sumI xs) 1 / ((xs.length : Nat) : Rat) = Rat.divInt (sumI xs) xs.length := by
    rw [divInt_one, Rat.divInt_eq_div]; rfl
  have hb := sum_in50 hn2 hx
  simp only [divO]
  rw [if_neg h0, e, fitO_div (by omega) (by unfold maxN; omega) (by unfold maxD; omega)]
include hn hn2 hx in
theorem devO_int : devO (wh xs) = some ((cI xs).map fun c => Rat.divInt c xs.length) := by
  unfold devO
  rw [meanO_int hn hn2 hx]
  simp only
  unfold wh
  rw [tryM_map, tryM_all (h := fun x : Int => Rat.divInt (xs.length * x - sumI xs) xs.length) ?_]
  · rw [cI, List.map_map]; rfl
  · intro x hm
    have h1 := hx x hm
    have hc := cI_in hn2 hx _ (List.mem_map_of_mem (f := fun x => xs.length * x - sumI xs) hm)
    rw [whole_val (by unfold maxN; omega)]
    simp only [subO]
    have e : (x : Rat) - Rat.divInt (sumI xs) xs.length = Rat.divInt (xs.length * x - sumI xs) xs.length := by
      rw [← divInt_sub_same]; congr 1
      rw [Rat.divInt_eq_div, Rat.intCast_mul]
      have h0 : ((xs.length : Int) : Rat) ≠ 0 := fun e => by have := nat_pos_rat (n := xs.length) (by omega); rw [← nat_rat, e] at this; exact absurd this Rat.lt_irrefl
      grind
    rw [e, fitO_div (by omega) (by unfold maxN; omega) (by unfold maxD; omega)]
end
theorem divInt_mul_same (a b d : Int) (hd : 0 < d) : Rat.divInt a d * Rat.divInt b d = Rat.divInt (a * b) (d * d) := by
  rw [Rat.divInt_eq_div, Rat.divInt_eq_div, Rat.divInt_eq_div, Rat.intCast_mul, Rat.intCast_mul]
  have h0 : (d : Rat) ≠ 0 := fun e => by have : d = 0 := by exact_mod_cast e
                                         omega
  grind
theorem prodO_div {d : Int} (hd : 0 < d) (hd2 : d ≤ 50) : ∀ (zs : List (Int × Int)), zs.length ≤ 50 → (∀ z ∈ zs, (-4000000 ≤ z.1 ∧ z.1 ≤ 4000000) ∧ (-4000000 ≤ z.2 ∧ z.2 ≤ 4000000)) →
    prodO (zs.map fun z => (Rat.divInt z.1 d, Rat.divInt z.2 d)) = some (Rat.divInt (sumI (zs.map fun z => z.1 * z.2)) (d * d)) := by
  intro zs hl hz
  have dd : 0 < d * d := Int.mul_pos hd hd
  have dd2 : d * d ≤ 50 * 50 := Int.mul_le_mul hd2 hd2 (by omega) (by omega)
  have hb : ∀ z ∈ zs, -16000000000000 ≤ z.1 * z.2 ∧ z.1 * z.2 ≤ 16000000000000 := by
    intro z hm
    obtain ⟨h1, h2⟩ := hz z hm
    have : (z.1 * z.2).natAbs ≤ 4000000 * 4000000 := by rw [Int.natAbs_mul]; exact Nat.mul_le_mul (by omega) (by omega)
    omega
  have ht : tryM (fun z : Rat × Rat => mulO (some z.1) (some z.2)) (zs.map fun z => (Rat.divInt z.1 d, Rat.divInt z.2 d)) = some ((zs.map fun z => z.1 * z.2).map fun c => Rat.divInt c (d * d)) := by
    rw [tryM_map, tryM_all (h := fun z : Int × Int => Rat.divInt (z.1 * z.2) (d * d)) ?_]
    · rw [List.map_map]; rfl
    · intro z hm
      have h1 := hb z hm
      simp only [mulO]
      rw [divInt_mul_same _ _ _ hd, fitO_div (by omega) (by unfold maxN; omega) (by unfold maxD; omega)]
  unfold prodO
  rw [ht]
  simp only
  have hs := sumO_div dd (by omega) (C := 16000000000000) (by omega) (zs.map fun z => z.1 * z.2) 0 0 (fun c hc => by
    obtain ⟨z, hm, rfl⟩ := List.mem_map.1 hc; exact hb z hm) (by omega) (by omega) (by rw [List.length_map]; omega)
  rw [zero_div, Int.zero_add] at hs
  exact hs
theorem sumQ_zip : ∀ cs : List Int, sumI ((cs.zip cs).map fun z => z.1 * z.2) = sumQ cs
  | [] => rfl
  | c :: cs => by simp only [List.zip_cons_cons, List.map_cons, sumI, sumQ, sumQ_zip cs]
theorem zip_div (d : Int) (a b : List Int) : ((a.map fun c => Rat.divInt c d).zip (b.map fun c => Rat.divInt c d)) = (a.zip b).map fun z => (Rat.divInt z.1 d, Rat.divInt z.2 d) := by
  rw [List.zip_map]; rfl
def crI (cs : List Int) : Int := sumI (((cs.take (cs.length - 1)).zip (cs.drop 1)).map fun z => z.1 * z.2)
theorem sumI_bound {C : Int} (hC : 0 ≤ C) : ∀ (cs : List Int), (∀ c ∈ cs, -C ≤ c ∧ c ≤ C) → -(cs.length * C) ≤ sumI cs ∧ sumI cs ≤ cs.length * C := fun cs h => by
  obtain ⟨a, b, _, _⟩ := sum_bound hC cs h
  exact ⟨a, b⟩
section
variable {xs : List Int} (hn : 2 ≤ xs.length) (hn2 : xs.length ≤ 50) (hx : ∀ x ∈ xs, -40000 ≤ x ∧ x ≤ 40000)
include hn2 hx in
theorem sqI_in : 0 ≤ sumQ (cI xs) ∧ sumQ (cI xs) ≤ 800000000000000 := by
  obtain ⟨_, _, c, d⟩ := sum_bound (B := 4000000) (by omega) (cI xs) (cI_in hn2 hx)
  rw [cI_len] at d
  exact ⟨c, by omega⟩
include hn2 hx in
theorem crI_in : -800000000000000 ≤ crI (cI xs) ∧ crI (cI xs) ≤ 800000000000000 := by
  have h := sumI_bound (C := 16000000000000) (by omega) ((((cI xs).take ((cI xs).length - 1)).zip ((cI xs).drop 1)).map fun z => z.1 * z.2) (fun c hc => by
    obtain ⟨z, hm, rfl⟩ := List.mem_map.1 hc
    have h1 := cI_in hn2 hx z.1 (List.mem_of_mem_take (List.of_mem_zip hm).1)
    have h2 := cI_in hn2 hx z.2 (List.mem_of_mem_drop (List.of_mem_zip hm).2)
    have : (z.1 * z.2).natAbs ≤ 4000000 * 4000000 := by rw [Int.natAbs_mul]; exact Nat.mul_le_mul (by omega) (by omega)
    omega)
  have hl : ((((cI xs).take ((cI xs).length - 1)).zip ((cI xs).drop 1)).map fun z => z.1 * z.2).length ≤ 50 := by
    rw [List.length_map, List.length_zip, List.length_take, cI_len]; omega
  unfold crI
  omega
include hn hn2 hx in
theorem sq_int : prodO (((cI xs).map fun c => Rat.divInt c xs.length).zip ((cI xs).map fun c => Rat.divInt c xs.length)) = some (Rat.divInt (sumQ (cI xs)) (xs.length * xs.length)) := by
  rw [zip_div, prodO_div (by omega) (by omega) _ (by rw [List.length_zip, cI_len]; omega) (fun z hz => ⟨cI_in hn2 hx _ (List.of_mem_zip hz).1, cI_in hn2 hx _ (List.of_mem_zip hz).2⟩), sumQ_zip]
include hn hn2 hx in
theorem varO_int : varO (wh xs) = some (Rat.divInt (sumQ (cI xs)) (xs.length * xs.length * (xs.length - 1))) := by
  have hl : (wh xs).length = xs.length := by simp [wh]
  rw [varO_in (by omega), devO_int (by omega) hn2 hx]
  simp only
  rw [sq_int hn hn2 hx]
  simp only
  rw [hl]
  have h0 : ((xs.length - 1 : Nat) : Rat) ≠ 0 := fun e => by have := nat_pos_rat (n := xs.length - 1) (by omega); rw [e] at this; exact absurd this Rat.lt_irrefl
  have q := sqI_in hn2 hx
  have d1 : (0 : Int) < xs.length * xs.length := Int.mul_pos (by omega) (by omega)
  have d2 : (xs.length : Int) * xs.length ≤ 50 * 50 := Int.mul_le_mul (by omega) (by omega) (by omega) (by omega)
  have d3 : (0 : Int) < xs.length * xs.length * (xs.length - 1) := Int.mul_pos d1 (by omega)
  have d4 : (xs.length : Int) * xs.length * (xs.length - 1) ≤ 50 * 50 * 50 := Int.mul_le_mul d2 (by omega) (by omega) (by omega)
  have e : Rat.divInt (sumQ (cI xs)) (xs.length * xs.length) / ((xs.length - 1 : Nat) : Rat) = Rat.divInt (sumQ (cI xs)) (xs.length * xs.length * (xs.length - 1)) := by
    have c : ((xs.length - 1 : Nat) : Rat) = (((xs.length : Int) - 1 : Int) : Rat) := by
      rw [← nat_rat]; congr 1; omega
    rw [c] at h0 ⊢
    rw [Rat.divInt_eq_div, Rat.divInt_eq_div, Rat.intCast_mul _ ((xs.length : Int) - 1)]
    have h1 : (((xs.length : Int) * xs.length : Int) : Rat) ≠ 0 := fun e => by have : (xs.length : Int) * xs.length = 0 := by exact_mod_cast e
                                                                               omega
    grind
  simp only [divO]
  rw [if_neg h0, e, fitO_div (by omega) (by unfold maxN; omega) (by unfold maxD; omega)]
def lagI (xs : List Int) : Rat := if sumQ (cI xs) = 0 then 0 else Rat.divInt (crI (cI xs)) (sumQ (cI xs))
include hn hn2 hx in
theorem lagO_int : lagO (wh xs) = some (lagI xs) := by
  have hl : (wh xs).length = xs.length := by simp [wh]
  rw [lagO_in (by omega), devO_int (by omega) hn2 hx]
  simp only
  rw [sq_int hn hn2 hx, hl, ← List.map_take, ← List.map_drop, zip_div, prodO_div (by omega) (by omega) _ (by rw [List.length_zip, List.length_take, cI_len]; omega) (fun z hz => ⟨cI_in hn2 hx _ (List.mem_of_mem_take (List.of_mem_zip hz).1), cI_in hn2 hx _ (List.mem_of_mem_drop (List.of_mem_zip hz).2)⟩)]
  simp only
  have ec : sumI ((((cI xs).take (xs.length - 1)).zip ((cI xs).drop 1)).map fun z => z.1 * z.2) = crI (cI xs) := by unfold crI; rw [cI_len]
  rw [ec]
  have q := sqI_in hn2 hx
  have c := crI_in hn2 hx
  have d1 : (0 : Int) < xs.length * xs.length := Int.mul_pos (by omega) (by omega)
  unfold lagI
  generalize (xs.length : Int) * xs.length = d at *
  generalize sumQ (cI xs) = Q at *
  generalize crI (cI xs) = A at *
  have hd0 : (d : Rat) ≠ 0 := fun e => by have : d = 0 := by exact_mod_cast e
                                          omega
  have z : Rat.divInt Q d = 0 ↔ Q = 0 := by
    rw [Rat.divInt_eq_div]
    constructor
    · intro h
      have : (Q : Rat) = 0 := by grind
      exact_mod_cast this
    · rintro rfl
      have : ((0 : Int) : Rat) = 0 := rfl
      rw [this, Rat.div_def, Rat.zero_mul]
  by_cases hq : Q = 0
  · rw [if_pos (z.2 hq), if_pos hq]
  · rw [if_neg (fun h => hq (z.1 h)), if_neg hq]
    simp only [divO]
    rw [if_neg (fun h => hq (z.1 h))]
    have e : Rat.divInt A d / Rat.divInt Q d = Rat.divInt A Q := by
      rw [Rat.divInt_eq_div, Rat.divInt_eq_div, Rat.divInt_eq_div]
      have hq0 : (Q : Rat) ≠ 0 := fun e => by have : Q = 0 := by exact_mod_cast e
                                              omega
      grind
    rw [e, fitO_div hq (by unfold maxN; omega) (by unfold maxD; omega)]
end
theorem cI_shift (k : Int) (xs : List Int) : cI (xs.map (· + k)) = cI xs := by
  have hs : ∀ ys : List Int, sumI (ys.map (· + k)) = sumI ys + ys.length * k := by
    intro ys
    induction ys with
    | nil => simp [sumI]
    | cons y ys ih => simp only [List.map_cons, sumI, ih, List.length_cons]; grind
  unfold cI
  rw [List.map_map, hs, List.length_map]
  refine List.map_congr_left fun x _ => ?_
  simp only [Function.comp]
  grind
theorem sumQ_scale (n s : Int) : ∀ ys : List Int, sumQ (ys.map fun x => n * x - s) = n * n * sumQ ys - 2 * n * s * sumI ys + ys.length * (s * s)
  | [] => by simp [sumQ, sumI]
  | y :: ys => by simp only [List.map_cons, sumQ, sumI, sumQ_scale n s ys, List.length_cons]; grind
theorem sq_varN (xs : List Int) : sumQ (cI xs) = xs.length * varN xs := by
  unfold cI varN; rw [sumQ_scale]; grind
end Go.Proofs.YtchnhfnnlkncdaaDoor
