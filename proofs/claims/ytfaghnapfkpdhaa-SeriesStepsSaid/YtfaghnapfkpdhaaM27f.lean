/-
  Chapter 27: tallies of joined lists.
-/
import Derived.Test.YtfaghnapfkpdhaaM27e
import Derived.Test.YtfaghnapfkpdhaaSq
namespace Go.Proofs.Ytfaghnapfkpdhaa
set_option linter.unusedSimpArgs false

theorem puts_spec : ∀ (xs : List Int) (t : Tl), 0 ≤ t.n → (t.n = 0 → t.s = 0 ∧ t.q = 0) → (puts t xs).n = t.n + xs.length ∧ (puts t xs).s = t.s + sumI xs ∧ (puts t xs).q = t.q + sumQ xs ∧
    (t.n ≠ 0 → (puts t xs).lo ≤ t.lo ∧ t.hi ≤ (puts t xs).hi) ∧ ∀ y ∈ xs, (puts t xs).lo ≤ y ∧ y ≤ (puts t xs).hi
  | [], t, _, _ => ⟨by simp [puts], by simp [puts, sumI], by simp [puts, sumQ], fun _ => ⟨Int.le_refl _, Int.le_refl _⟩, fun y hy => by cases hy⟩
  | x :: xs, t, hn, hz => by
    have hp : (t.put x).n = t.n + 1 ∧ (t.put x).s = t.s + x ∧ (t.put x).q = t.q + x * x ∧ (t.n ≠ 0 → (t.put x).lo ≤ t.lo ∧ t.hi ≤ (t.put x).hi) ∧ (t.put x).lo ≤ x ∧ x ≤ (t.put x).hi := by
      unfold Tl.put
      by_cases h : t.n = 0
      · obtain ⟨z1, z2⟩ := hz h
        rw [if_pos h]
        exact ⟨by simp [h], by simp [z1], by simp [z2], fun h2 => absurd h h2, Int.le_refl _, Int.le_refl _⟩
      · rw [if_neg h]
        exact ⟨rfl, rfl, rfl, fun _ => ⟨Int.min_le_left _ _, Int.le_max_left _ _⟩, Int.min_le_right _ _, Int.le_max_right _ _⟩
    obtain ⟨p1, p2, p3, p4, p5, p6⟩ := hp
    obtain ⟨i1, i2, i3, i4, i5⟩ := puts_spec xs (t.put x) (by omega) (fun h => by omega)
    have e : puts t (x :: xs) = puts (t.put x) xs := rfl
    obtain ⟨j1, j2⟩ := i4 (by omega)
    rw [e]
    refine ⟨by rw [i1, p1]; simp; omega, by rw [i2, p2]; simp [sumI]; omega, by rw [i3, p3]; simp [sumQ]; omega, fun h => ?_, fun y hy => ?_⟩
    · have := p4 h; omega
    · rcases List.mem_cons.1 hy with rfl | hy
      · omega
      · exact i5 y hy

def jn (t u : Tl) : Tl := if t.n = 0 then u else if u.n = 0 then t else ⟨t.n + u.n, t.s + u.s, t.q + u.q, min t.lo u.lo, max t.hi u.hi⟩
theorem put_jn {t u : Tl} (h1 : 0 ≤ t.n) (h2 : 0 ≤ u.n) (x : Int) : (jn t u).put x = jn t (u.put x) := by
  by_cases a : t.n = 0
  · simp only [jn, if_pos a]
  · by_cases b : u.n = 0
    · simp [jn, a, b, Tl.put]
    · have : ¬ t.n + u.n = 0 := by omega
      have h3 : ¬ u.n + 1 = 0 := by omega
      simp only [jn, a, b, Tl.put, if_false, this, h3, Tl.mk.injEq]
      exact ⟨by omega, by omega, by omega, by omega, by omega⟩
theorem puts_jn : ∀ (xs : List Int) (t u : Tl), 0 ≤ t.n → 0 ≤ u.n → puts (jn t u) xs = jn t (puts u xs)
  | [], _, _, _, _ => rfl
  | x :: xs, t, u, h1, h2 => by
    show puts ((jn t u).put x) xs = _
    rw [put_jn h1 h2, puts_jn xs t (u.put x) h1 (by unfold Tl.put; split <;> simp only <;> omega)]
    rfl
theorem puts_append (t : Tl) (xs ys : List Int) : puts t (xs ++ ys) = puts (puts t xs) ys := List.foldl_append
theorem mrg_jn {t u : Tl} (h1 : t.chk = 0) (h2 : u.chk = 0) (hn : t.n + u.n ≤ 2000) : mrg t.n t.s t.q t.lo t.hi u.n u.s u.q u.lo u.hi = (jn t u).l ++ [.i 0] := by
  have h1 : chk t.n t.s t.q t.lo t.hi = 0 := h1
  have h2 : chk u.n u.s u.q u.lo u.hi = 0 := h2
  unfold mrg jn
  rw [if_neg (by simp [h1]), if_neg (by simp [h2]), if_neg (by omega)]
  split
  · rfl
  · split <;> rfl
theorem sum_bounds : ∀ (xs : List Int), xs.all valB = true → -(xs.length * 1000000 : Int) ≤ sumI xs ∧ sumI xs ≤ xs.length * 1000000 ∧ 0 ≤ sumQ xs ∧ sumQ xs ≤ xs.length * 1000000000000
  | [], _ => by simp [sumI, sumQ]
  | x :: xs, h => by
    simp only [List.all_cons, Bool.and_eq_true] at h
    obtain ⟨i1, i2, i3, i4⟩ := sum_bounds xs h.2
    have hv := h.1
    simp only [valB, Bool.and_eq_true, decide_eq_true_eq] at hv
    have b := mulB (a := x) (b := x) (A := 1000000) (B := 1000000) (by omega) (by omega) (by omega) (by omega) (by omega) (by omega)
    have := sq_nonneg x
    simp only [sumI, sumQ, List.length_cons]
    refine ⟨by omega, by omega, by omega, by omega⟩
end Go.Proofs.Ytfaghnapfkpdhaa
