/-
  Lists of fractions: the values of sums, means and variances, where they exist.
-/
import Derived.Test.YtchnhfnnlkncdaaDoorFlB
namespace Go.Proofs.YtchnhfnnlkncdaaDoor
set_option linter.unusedSimpArgs false

theorem pr_inj {p q : Rat} (h : pr p = pr q) : p = q := by
  unfold pr at h; injection h with h1 h2; exact num_den_inj h1 h2
theorem map_pr_inj : ∀ {a b : List Rat}, a.map pr = b.map pr → a = b
  | [], [], _ => rfl
  | [], _ :: _, h => by cases h
  | _ :: _, [], h => by cases h
  | x :: a, y :: b, h => by
    simp only [List.map_cons, List.cons.injEq] at h
    rw [pr_inj h.1, map_pr_inj h.2]
def meanR (qs : List Rat) : Rat := sumR qs / (qs.length : Rat)
theorem meanO_val {ps : List (Int × Int)} {m : Rat} (h : meanO ps = some m) : ∃ qs : List Rat, ps = qs.map pr ∧ (∀ r ∈ qs, fitQ r = true) ∧ qs.length ≠ 0 ∧ m = meanR qs := by
  unfold meanO at h; split at h
  · cases h
  · rename_i s hs
    split at h
    · cases h
    · rename_i hl
      obtain ⟨qs, h1, h2, h3⟩ := sumO_val hs
      obtain ⟨x, y, e1, e2, _, e4⟩ := divO_some h
      cases e1; cases e2
      rw [h1, List.length_map] at hl
      refine ⟨qs, h1, h2, hl, ?_⟩
      rw [e4, h3, Rat.zero_add, h1, List.length_map]; rfl
theorem tryM_vals {α β : Type} {f : α → Option β} {g : α → β} {xs : List α} {ys : List β} (h : tryM f xs = some ys) (hv : ∀ x ∈ xs, ∀ y, f x = some y → y = g x) : ys = xs.map g := by
  have hl := tryM_len h
  refine List.ext_getElem (by rw [hl, List.length_map]) fun i h1 h2 => ?_
  rw [List.length_map] at h2
  rw [List.getElem_map]
  exact hv _ (List.getElem_mem h2) _ (tryM_get h i h2 h1)
theorem devO_val {ps : List (Int × Int)} {ds : List Rat} (h : devO ps = some ds) : ∃ qs : List Rat, ps = qs.map pr ∧ (∀ r ∈ qs, fitQ r = true) ∧ qs.length ≠ 0 ∧ ds = qs.map (fun q => q - meanR qs) := by
  unfold devO at h; split at h
  · cases h
  · rename_i m hm
    obtain ⟨qs, h1, h2, h3, h4⟩ := meanO_val hm
    refine ⟨qs, h1, h2, h3, ?_⟩
    have e := tryM_vals (g := fun p => Rat.divInt p.1 p.2 - m) h fun x hx y hy => by
      obtain ⟨a, b, e1, e2, e3⟩ := subO_some hy
      cases e2
      obtain ⟨v1, _⟩ := valP_some e1
      rw [v1]; show y = Rat.divInt a.num a.den - m
      rw [divInt_q, e3]
    rw [e, h1, List.map_map, h4]
    refine List.map_congr_left fun q _ => ?_
    show Rat.divInt q.num q.den - _ = _
    rw [divInt_q]
theorem sumO_pr {ms : List Rat} {q s : Rat} (h : sumO q (ms.map pr) = some s) : s = q + sumR ms := by
  obtain ⟨qs, h1, _, h3⟩ := sumO_val h
  rw [h3, map_pr_inj h1]
theorem prodO_val {zs : List (Rat × Rat)} {s : Rat} (h : prodO zs = some s) : s = sumR (zs.map fun z => z.1 * z.2) := by
  unfold prodO at h; split at h
  · cases h
  · rename_i ms hm
    have e := tryM_vals (g := fun z : Rat × Rat => z.1 * z.2) hm fun z _ y hy => by
      obtain ⟨a, b, e1, e2, e3⟩ := mulO_some hy
      cases e1; cases e2; exact e3
    rw [sumO_pr h, Rat.zero_add, e]
/-- The sum of the squared distances from a. -/
def sqR (a : Rat) : List Rat → Rat
  | [] => 0
  | q :: qs => (q - a) * (q - a) + sqR a qs
theorem sqR_sum (a : Rat) : ∀ qs : List Rat, sumR (((qs.map fun q => q - a).zip (qs.map fun q => q - a)).map fun z => z.1 * z.2) = sqR a qs
  | [] => rfl
  | q :: qs => by
    simp only [List.map_cons, List.zip_cons_cons, sumR, sqR, sqR_sum a qs]
theorem rat_sq (a : Rat) : 0 ≤ a * a := by
  rcases Rat.le_total (a := 0) (b := a) with h | h
  · exact Rat.mul_nonneg h h
  · have : 0 ≤ (-a) * (-a) := Rat.mul_nonneg (by grind) (by grind)
    grind
theorem sqR_nonneg (a : Rat) : ∀ qs : List Rat, 0 ≤ sqR a qs
  | [] => by simp only [sqR]; exact Rat.le_refl
  | q :: qs => by
    have h1 := rat_sq (q - a)
    have h2 := sqR_nonneg a qs
    simp only [sqR]; grind
theorem varO_val {ps : List (Int × Int)} {v : Rat} (h : varO ps = some v) :
    ∃ qs : List Rat, ps = qs.map pr ∧ (∀ r ∈ qs, fitQ r = true) ∧ 2 ≤ qs.length ∧ qs.length ≤ 50 ∧ v = sqR (meanR qs) qs / ((qs.length - 1 : Nat) : Rat) := by
  unfold varO at h; split at h
  · cases h
  · rename_i hn
    split at h
    · cases h
    · rename_i ds hd
      split at h
      · cases h
      · rename_i s hs
        obtain ⟨qs, h1, h2, h3, h4⟩ := devO_val hd
        obtain ⟨x, y, e1, e2, _, e4⟩ := divO_some h
        cases e1; cases e2
        have hl : ps.length = qs.length := by rw [h1, List.length_map]
        refine ⟨qs, h1, h2, by omega, by omega, ?_⟩
        rw [e4, prodO_val hs, h4, sqR_sum, hl]
theorem nat_pos_rat {n : Nat} (h : 0 < n) : (0 : Rat) < (n : Rat) := by
  have : ((0 : Nat) : Rat) < (n : Rat) := Rat.natCast_lt_natCast.2 h
  simpa using this
theorem div_nonneg' {a b : Rat} (ha : 0 ≤ a) (hb : 0 < b) : 0 ≤ a / b := by
  rw [Rat.div_def]
  exact Rat.mul_nonneg ha (Rat.le_of_lt (Rat.inv_pos.2 hb))
theorem varO_nonneg {ps : List (Int × Int)} {v : Rat} (h : varO ps = some v) : 0 ≤ v := by
  obtain ⟨qs, _, _, h2, _, e⟩ := varO_val h
  rw [e]
  exact div_nonneg' (sqR_nonneg _ _) (nat_pos_rat (by omega))

/- Signs. -/
theorem fitO_neg (q : Rat) : fitO (-q) = (fitO q).map (- ·) := by
  unfold fitO; rw [fit_neg]; split <;> rfl
theorem subO_neg (a b : Option Rat) : subO b a = (subO a b).map (- ·) := by
  cases a <;> cases b <;> simp only [subO, Option.map_none]
  rename_i a b
  rw [← fitO_neg]; congr 1; grind
theorem tryM_opt {α β : Type} {f f' : α → Option β} {h : β → β} : ∀ {xs : List α}, (∀ x ∈ xs, f' x = (f x).map h) → tryM f' xs = (tryM f xs).map (List.map h)
  | [], _ => rfl
  | x :: xs, e => by
    simp only [tryM]
    rw [e x (List.mem_cons_self ..), tryM_opt (fun y hy => e y (List.mem_cons_of_mem _ hy))]
    cases f x with
    | none => rfl
    | some y => cases tryM f xs <;> rfl
theorem tryM_map {α β γ : Type} (f : β → Option γ) (g : α → β) : ∀ xs : List α, tryM f (xs.map g) = tryM (fun x => f (g x)) xs
  | [] => rfl
  | x :: xs => by simp only [List.map_cons, tryM, tryM_map f g xs]
theorem sumO_neg : ∀ (ds : List Rat) (q : Rat), (∀ d ∈ ds, fitQ d = true) → sumO (-q) ((ds.map (- ·)).map pr) = (sumO q (ds.map pr)).map (- ·)
  | [], q, _ => rfl
  | d :: ds, q, hf => by
    have hd := hf d (List.mem_cons_self ..)
    simp only [List.map_cons, sumO]
    rw [valP_pr hd, valP_pr (by rw [fit_neg]; exact hd)]
    have e : addO (some (-q)) (some (-d)) = (addO (some q) (some d)).map (- ·) := by
      simp only [addO]; rw [← fitO_neg]; congr 1; grind
    rw [e]
    cases addO (some q) (some d) with
    | none => rfl
    | some r => exact sumO_neg ds r (fun x hx => hf x (List.mem_cons_of_mem _ hx))
theorem divO_neg (a : Rat) (b : Option Rat) : divO (some (-a)) b = (divO (some a) b).map (- ·) := by
  cases b with
  | none => rfl
  | some b =>
    simp only [divO]
    split
    · rfl
    · rw [← fitO_neg]; congr 1; grind
theorem meanO_neg (ds : List Rat) (hf : ∀ d ∈ ds, fitQ d = true) : meanO ((ds.map (- ·)).map pr) = (meanO (ds.map pr)).map (- ·) := by
  unfold meanO
  have h := sumO_neg ds 0 hf
  rw [Rat.neg_zero] at h
  rw [h]
  cases sumO 0 (ds.map pr) with
  | none => rfl
  | some s =>
    simp only [Option.map_some, List.length_map]
    split
    · rfl
    · exact divO_neg _ _
theorem devO_neg (ds : List Rat) (hf : ∀ d ∈ ds, fitQ d = true) : devO ((ds.map (- ·)).map pr) = (devO (ds.map pr)).map (List.map (- ·)) := by
  unfold devO
  rw [meanO_neg ds hf]
  cases meanO (ds.map pr) with
  | none => rfl
  | some m =>
    simp only [Option.map_some]
    rw [tryM_map, tryM_map, tryM_map]
    refine tryM_opt fun d hd => ?_
    rw [valP_pr (hf d hd), valP_pr (by rw [fit_neg]; exact hf d hd)]
    simp only [subO]; rw [← fitO_neg]; congr 1; grind
theorem prodO_neg (us ws : List Rat) : prodO ((us.map (- ·)).zip (ws.map (- ·))) = prodO (us.zip ws) := by
  unfold prodO
  rw [List.zip_map, tryM_map]
  have e : (fun z : Rat × Rat => mulO (some (Prod.map (- ·) (- ·) z).1) (some (Prod.map (- ·) (- ·) z).2)) = fun z => mulO (some z.1) (some z.2) := by
    funext z
    simp only [mulO, Prod.map]; congr 1; grind
  rw [e]
theorem varO_neg (ds : List Rat) (hf : ∀ d ∈ ds, fitQ d = true) : varO ((ds.map (- ·)).map pr) = varO (ds.map pr) := by
  unfold varO
  rw [devO_neg ds hf]
  simp only [List.length_map]
  split
  · rfl
  · cases devO (ds.map pr) with
    | none => rfl
    | some es =>
      simp only [Option.map_some]
      rw [prodO_neg]
end Go.Proofs.YtchnhfnnlkncdaaDoor
