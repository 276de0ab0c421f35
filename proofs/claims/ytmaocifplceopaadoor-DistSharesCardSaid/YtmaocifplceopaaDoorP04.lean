/-
  Distributions grow with the random number: plain facts.
-/
import Derived.Test.YtmaocifplceopaaDoorT04e
namespace Go.Proofs.YtmaocifplceopaaDoor
set_option linter.unusedSimpArgs false
set_option linter.unusedVariables false

theorem xor_all (u : Nat) (h : u < 18446744073709551616) : xorU 18446744073709551615 u = ((18446744073709551615 - u : Nat) : Int) := by
  unfold xorU
  have e1 : BitVec.ofInt IntKind.u64.bits 18446744073709551615 = BitVec.allOnes IntKind.u64.bits := by decide
  rw [e1, BitVec.allOnes_xor, BitVec.toNat_not, BitVec.toNat_ofInt]
  have e2 : (2 : Nat) ^ IntKind.u64.bits = 18446744073709551616 := by decide
  have e3 : ((2 : Int) ^ IntKind.u64.bits) = 18446744073709551616 := by decide
  have e4 : ((u : Int) % ((2 ^ IntKind.u64.bits : Nat) : Int)).toNat = u := by rw [e2]; omega
  rw [e4, e2, IntKind.wrap_u64]
  omega
theorem trV_mono {W W' : Int} {A B : Nat} (h : W' ≤ W) : ∀ (f t k : Nat), k + f = B → trV W A B f t k ≤ trV W' A B f t k
  | 0, t, k, _ => by unfold trV; exact Nat.le_refl _
  | f + 1, t, k, hk => by
    unfold trV
    by_cases h1 : ((t * (A - 1) / A : Nat) : Int) ≤ W'
    · rw [if_pos h1, if_pos (by omega)]; exact Nat.le_refl _
    · rw [if_neg h1]
      by_cases h2 : ((t * (A - 1) / A : Nat) : Int) ≤ W
      · rw [if_pos h2]
        have := trV_in (W := W') (A := A) (B := B) f (t * (A - 1) / A) (k + 1) (by omega)
        omega
      · rw [if_neg h2]; exact trV_mono h f _ _ (by omega)
theorem uniV_mono (a b : Int) {u v : Nat} (h : u ≤ v) : uniV a b u ≤ uniV a b v := by
  unfold uniV hiW
  have : u * (b - a + 1).toNat / 18446744073709551616 ≤ v * (b - a + 1).toNat / 18446744073709551616 := Nat.div_le_div_right (Nat.mul_le_mul_right _ h)
  omega
theorem pick_mem {vs ws : List Int} : ∀ (L : List Nat) (k : Int), k < wsum ws L → L ≠ [] → ∃ i ∈ L, pickS vs ws L k = vs.getD i 0
  | [], k, _, h => absurd rfl h
  | i :: r, k, hk, _ => by
    unfold pickS
    by_cases c : k < ws.getD i 0
    · rw [if_pos c]; exact ⟨i, List.mem_cons_self .., rfl⟩
    · rw [if_neg c]
      unfold wsum at hk
      by_cases hr : r = []
      · subst hr; simp only [wsum] at hk; omega
      · obtain ⟨j, hj, e⟩ := pick_mem (vs := vs) (ws := ws) r (k - ws.getD i 0) (by omega) hr
        exact ⟨j, List.mem_cons_of_mem _ hj, e⟩
theorem pick_mono {vs ws : List Int} : ∀ (L : List Nat) (k k' : Int), L.Pairwise (fun i j => vs.getD i 0 ≤ vs.getD j 0) → k ≤ k' → k' < wsum ws L → pickS vs ws L k ≤ pickS vs ws L k'
  | [], k, k', _, _, _ => by unfold pickS; exact Int.le_refl _
  | i :: r, k, k', hp, h, hk => by
    obtain ⟨p1, p2⟩ := List.pairwise_cons.1 hp
    unfold pickS
    unfold wsum at hk
    by_cases c : k < ws.getD i 0
    · rw [if_pos c]
      by_cases c' : k' < ws.getD i 0
      · rw [if_pos c']; exact Int.le_refl _
      · rw [if_neg c']
        by_cases hr : r = []
        · subst hr; simp only [wsum] at hk; omega
        · obtain ⟨j, hj, e⟩ := pick_mem (vs := vs) (ws := ws) r (k' - ws.getD i 0) (by omega) hr
          rw [e]; exact p1 j hj
    · rw [if_neg c, if_neg (by omega)]
      exact pick_mono r _ _ p2 (by omega) (by omega)
theorem srt_vals (vs : List Int) (n : Nat) : (srt (vat vs) n).Pairwise (fun i j => vs.getD i 0 ≤ vs.getD j 0) := by
  refine (srt_sorted (vat vs) n).imp ?_
  intro i j h
  unfold ltI vat at h; omega
theorem tot_S {vs ws : List Int} (hl : vs.length = ws.length) : wsum ws (srt (vat vs) vs.length) = sumI ws := by rw [wsum_perm ws (srt_perm _ _), hl, wsum_range]
theorem sum_pos {ws : List Int} (h : 1 ≤ ws.length) (hw : ∀ x ∈ ws, 1 ≤ x ∧ x ≤ 1000) : 0 < sumI ws := by
  cases ws with
  | nil => simp at h
  | cons x r =>
    have := sum_nn r fun y hy => by have := hw y (List.mem_cons_of_mem _ hy); omega
    have := hw x (List.mem_cons_self ..)
    simp only [sumI]; omega
theorem tabV_mono {vs ws : List Int} (hl : vs.length = ws.length) (h1 : 1 ≤ vs.length) (hw : ∀ x ∈ ws, 1 ≤ x ∧ x ≤ 1000) {u v : Nat} (h : u ≤ v) (hv : v < 18446744073709551616) : tabV vs ws u ≤ tabV vs ws v := by
  unfold tabV
  have sp := sum_pos (ws := ws) (by omega) hw
  obtain ⟨S, hS⟩ : ∃ S : Nat, sumI ws = S := ⟨(sumI ws).toNat, by omega⟩
  refine pick_mono _ _ _ (srt_vals vs _) ?_ ?_
  · unfold hiW
    have : u * (sumI ws).toNat / 18446744073709551616 ≤ v * (sumI ws).toNat / 18446744073709551616 := Nat.div_le_div_right (Nat.mul_le_mul_right _ h)
    omega
  · rw [tot_S hl, hS, Int.toNat_natCast]
    have : v * S / 18446744073709551616 < S := by
      rw [Nat.div_lt_iff_lt_mul (by omega), Nat.mul_comm v S]
      exact Nat.mul_lt_mul_of_pos_left hv (by omega)
    unfold hiW; omega
theorem atV_ok {op a b n : Int} {vs ws : List Int} (h0 : chkD op a b n vs ws = 0) (u : Nat) : atV op a b n vs ws u = if op = 1 then (a, true) else if op = 2 then (uniV a b u, true) else if op = 3 then (tabV vs ws u, true) else
    if op = 5 then ((trV (xorU 18446744073709551615 u) a.toNat b.toNat (b.toNat - 1) 18446744073709551615 1 : Nat), true) else (0, false) := by
  unfold atV; rw [if_neg (fun h => h h0)]
theorem at_snd (d : DD) (u : Nat) : (d.at u).2 = (decide (d.chk = 0) && decide (d.op ≠ 4)) := by
  unfold DD.at DD.chk
  by_cases h0 : chkD d.op d.a d.b d.n d.vs d.ws = 0
  · rw [atV_ok h0, h0]
    rcases chk_op h0 with h | h | h | h | h <;> rw [h] <;> rfl
  · unfold atV; rw [if_pos h0]; simp [h0]
theorem at_mono (d : DD) {u v : Nat} (h : u ≤ v) (hv : v < 18446744073709551616) : (d.at u).1 ≤ (d.at v).1 := by
  unfold DD.at
  by_cases h0 : chkD d.op d.a d.b d.n d.vs d.ws = 0
  · rw [atV_ok h0, atV_ok h0]
    obtain ⟨op, a, b, n, vs, ws⟩ := d
    simp only at h0 ⊢
    rcases chk_op h0 with rfl | rfl | rfl | rfl | rfl
    · exact Int.le_refl _
    · exact uniV_mono a b h
    · obtain ⟨l1, l2, l3, l4, l5⟩ := chk3 h0
      exact tabV_mono l1 l2 l5 h hv
    · exact Int.le_refl _
    · obtain ⟨i1, i2⟩ := chk5 h0
      have := trV_mono (W := xorU 18446744073709551615 u) (W' := xorU 18446744073709551615 v) (A := a.toNat) (B := b.toNat) (by rw [xor_all u (by omega), xor_all v hv]; omega) (b.toNat - 1) 18446744073709551615 1 (by omega)
      exact Int.ofNat_le.2 this
  · unfold atV; rw [if_pos h0, if_pos h0]; exact Int.le_refl _
/-- What is drawn lies between the least and the most. -/
theorem draw_between (d : DD) (k p : Int) (m : Bool) (h : (drawT d k p m).e = 0) : d.least ≤ (drawT d k p m).x ∧ (drawT d k p m).x ≤ d.most := by
  by_cases h0 : d.chk = 0
  rotate_left
  · have e : drawT d k p m = .bad d.chk := by unfold drawT; rw [if_pos h0]
    rw [e] at h; exact absurd h h0
  by_cases hs : scheck p = 0
  rotate_left
  · have e : drawT d k p m = .bad (scheck p) := by unfold drawT; rw [if_neg (fun z => z h0), if_pos hs]
    rw [e] at h; exact absurd h hs
  have e : drawT d k p m = if d.op = 4 then (if 1000000000000 - d.n < p then .bad 2 else ⟨drwS d.a d.b k p m d.n.toNat, k, p + d.n, m, 0⟩)
      else if 999999999999 < p then .bad 2 else ⟨(atV d.op d.a d.b d.n d.vs d.ws (numN k (p + 1) m)).1, k, p + 1, m, 0⟩ := by
    unfold drawT; rw [if_neg (fun z => z h0), if_neg (fun z => z hs)]
  rw [e] at h ⊢
  by_cases h4 : d.op = 4
  · rw [if_pos h4] at h ⊢
    by_cases c : 1000000000000 - d.n < p
    · rw [if_pos c] at h; cases h
    · rw [if_neg c]
      have h0' := h0
      unfold DD.chk at h0'
      rw [h4] at h0'
      obtain ⟨hn, hab⟩ := chk4 h0'
      have := drwS_in hab.1 hab.2.1 k p m d.n.toNat
      have e : ((d.n.toNat : Nat) : Int) = d.n := by omega
      rw [e] at this
      unfold DD.least DD.most
      rw [if_pos ⟨h0, h4⟩, if_pos ⟨h0, h4⟩]
      exact this
  · rw [if_neg h4] at h ⊢
    have n4 : ¬ (d.chk = 0 ∧ d.op = 4) := fun z => h4 z.2
    have l0 : d.least = (d.at 0).1 := if_neg n4
    have l1 : d.most = (d.at 18446744073709551615).1 := if_neg n4
    rw [l0, l1]
    by_cases c : 999999999999 < p
    · rw [if_pos c] at h; cases h
    · rw [if_neg c]
      have hu := numN_lt k (p + 1) m
      exact ⟨at_mono d (Nat.zero_le _) hu, at_mono d (by omega) (by omega)⟩
/-- How often something holds below n. -/
def countB (f : Nat → Bool) : Nat → Nat
  | 0 => 0
  | n + 1 => countB f n + (if f n = true then 1 else 0)
theorem countB_le (f : Nat → Bool) : ∀ n, countB f n ≤ n
  | 0 => Nat.le_refl _
  | n + 1 => by have := countB_le f n; unfold countB; split <;> omega
theorem countB_add (f : Nat → Bool) (a : Nat) : ∀ b, countB f (a + b) = countB f a + countB (fun i => f (a + i)) b
  | 0 => rfl
  | b + 1 => by
    rw [show a + (b + 1) = (a + b) + 1 by omega]
    simp only [countB, countB_add f a b]; omega
theorem countB_congr {f g : Nat → Bool} : ∀ n, (∀ i, i < n → f i = g i) → countB f n = countB g n
  | 0, _ => rfl
  | n + 1, h => by
    simp only [countB, countB_congr n (fun i hi => h i (by omega)), h n (by omega)]
theorem countB_const (b : Bool) : ∀ n, countB (fun _ => b) n = if b = true then n else 0
  | 0 => by simp [countB]
  | n + 1 => by simp only [countB, countB_const b n]; split <;> omega
/-- The weights of one value, together. -/
def shareL (vs ws : List Int) (x : Int) : List Nat → Int
  | [] => 0
  | i :: r => (if vs.getD i 0 = x then ws.getD i 0 else 0) + shareL vs ws x r
theorem shareL_perm (vs ws : List Int) (x : Int) {a b : List Nat} (h : a.Perm b) : shareL vs ws x a = shareL vs ws x b := by
  induction h with
  | nil => rfl
  | cons y _ ih => simp only [shareL, ih]
  | swap y z l => simp only [shareL]; omega
  | trans _ _ h1 h2 => exact h1.trans h2
theorem shareL_app (vs ws : List Int) (x : Int) : ∀ (a b : List Nat), shareL vs ws x (a ++ b) = shareL vs ws x a + shareL vs ws x b
  | [], b => by simp [shareL]
  | y :: a, b => by simp only [List.cons_append, shareL, shareL_app vs ws x a b]; omega
theorem count_share (vs ws : List Int) (x : Int) : ∀ (L : List Nat), (∀ i ∈ L, 1 ≤ ws.getD i 0) → (countB (fun i => decide (pickS vs ws L (i : Int) = x)) (wsum ws L).toNat : Int) = shareL vs ws x L ∧ 0 ≤ wsum ws L
  | [], _ => ⟨rfl, Int.le_refl _⟩
  | j :: r, h => by
    obtain ⟨ih, hs⟩ := count_share vs ws x r (fun i hi => h i (List.mem_cons_of_mem _ hi))
    have hj := h j (List.mem_cons_self ..)
    unfold wsum
    refine ⟨?_, by omega⟩
    have e : (ws.getD j 0 + wsum ws r).toNat = (ws.getD j 0).toNat + (wsum ws r).toNat := by omega
    rw [e, countB_add]
    have c1 : countB (fun i => decide (pickS vs ws (j :: r) (i : Int) = x)) (ws.getD j 0).toNat = countB (fun _ => decide (vs.getD j 0 = x)) (ws.getD j 0).toNat := countB_congr _ fun i hi => by
      unfold pickS; rw [if_pos (by omega)]
    have c2 : countB (fun i => decide (pickS vs ws (j :: r) (((ws.getD j 0).toNat + i : Nat) : Int) = x)) (wsum ws r).toNat = countB (fun i => decide (pickS vs ws r (i : Int) = x)) (wsum ws r).toNat := countB_congr _ fun i hi => by
      have : pickS vs ws (j :: r) (((ws.getD j 0).toNat + i : Nat) : Int) = pickS vs ws r (i : Int) := by
        conv => lhs; unfold pickS
        rw [if_neg (by omega)]; congr 1; omega
      simp only [this]
    have c3 : countB (fun _ => decide (vs.getD j 0 = x)) (ws.getD j 0).toNat = if vs.getD j 0 = x then (ws.getD j 0).toNat else 0 := by
      rw [countB_const]; simp
    rw [c1, c2, c3]
    unfold shareL
    rw [Int.natCast_add, ih]
    split <;> omega
/-- Equal distances: the i-th number falls into place i. -/
theorem step_hi {n : Nat} (h1 : 1 ≤ n) (h2 : n ≤ 20000) {i : Nat} (hi : i < n) : i * (18446744073709551615 / n + 1) < 18446744073709551616 ∧ i * (18446744073709551615 / n + 1) * n / 18446744073709551616 = i := by
  have hd := Nat.div_add_mod 18446744073709551615 n
  have hm := Nat.mod_lt 18446744073709551615 (show n > 0 by omega)
  generalize 18446744073709551615 / n = q at *
  generalize 18446744073709551615 % n = m at *
  obtain ⟨r, hr⟩ : ∃ r, (q + 1) * n = 18446744073709551616 + r ∧ r < n := ⟨n - 1 - m, by rw [Nat.add_mul, Nat.one_mul, Nat.mul_comm q n]; omega, by omega⟩
  have hq : 900000000000000 ≤ q + 1 := by
    rcases Nat.lt_or_ge (q + 1) 900000000000000 with h | h
    · have : (q + 1) * n ≤ 900000000000000 * 20000 := Nat.mul_le_mul (by omega) h2
      omega
    · exact h
  have hir : i * r ≤ 20000 * 20000 := Nat.mul_le_mul (by omega) (by omega)
  constructor
  · have : (i + 1) * (q + 1) ≤ n * (q + 1) := Nat.mul_le_mul_right _ (by omega)
    rw [Nat.mul_comm n, hr.1, Nat.add_mul, Nat.one_mul] at this
    omega
  · rw [Nat.mul_assoc, hr.1, Nat.mul_add]
    omega
theorem count_one (f : Nat → Bool) (c : Nat) (h : ∀ i, f i = decide (i = c)) : ∀ n, countB f n = if c < n then 1 else 0
  | 0 => by simp [countB]
  | n + 1 => by
    simp only [countB, count_one f c h n, h n]
    by_cases e : n = c
    · subst e; simp
    · by_cases l : c < n
      · simp [e, l]; omega
      · have : ¬ c < n + 1 := by omega
        simp [e, l, this]
end Go.Proofs.YtmaocifplceopaaDoor
