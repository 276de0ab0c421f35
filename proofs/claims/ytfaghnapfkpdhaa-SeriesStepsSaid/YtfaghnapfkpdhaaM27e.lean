/-
  Chapter 27: tallies of lists.
-/
import Derived.Test.YtfaghnapfkpdhaaM27d
namespace Go.Proofs.Ytfaghnapfkpdhaa
set_option linter.unusedSimpArgs false

def puts (t : Tl) (xs : List Int) : Tl := xs.foldl Tl.put t
theorem one_okay {v : Int} (h : valB v = true) : Okay 1 v (v * v) v v := by
  have f := fine_one h
  simp only [valB, Bool.and_eq_true, decide_eq_true_eq] at h
  exact ⟨by omega, by omega, by omega, by omega, by omega, by omega, by omega, fun _ => rfl, fun e => absurd rfl e, by omega, by omega, by omega⟩
theorem zero_of {t : Tl} (h : t.chk = 0) (hn : t.n = 0) : t = Tl.zero := by
  obtain ⟨n, s, q, lo, hi⟩ := t
  simp only at hn
  subst hn
  unfold Tl.chk chk at h
  simp only at h
  split at h
  · rename_i e; obtain ⟨_, rfl, rfl, rfl, rfl⟩ := e; rfl
  · rw [if_pos (.inl (by omega))] at h; cases h
theorem put_chk {t : Tl} {v : Int} (ht : t.chk = 0) (hv : valB v = true) (hn : t.n < 2000) : (t.put v).chk = 0 ∧ (t.put v).n = t.n + 1 := by
  unfold Tl.put
  split
  · rename_i h0
    exact ⟨okay_chk (one_okay hv), by simp [h0]⟩
  · rename_i h0
    refine ⟨?_, rfl⟩
    exact okay_chk (okay_merge (chk_okay ht h0) (one_okay hv) (by omega))
def errL (e : Int) : List Sc := [.i 0, .i 0, .i 0, .i 0, .i 0, .i e]
theorem ofR_good : ∀ (xs : List Int) (t : Tl), t.chk = 0 → xs.all valB = true → t.n + xs.length ≤ 2000 → ofR t xs = (puts t xs).l ++ [.i 0] ∧ (puts t xs).chk = 0 ∧ (puts t xs).n = t.n + xs.length
  | [], t, ht, _, _ => ⟨rfl, ht, by simp [puts]⟩
  | x :: xs, t, ht, hv, hn => by
    simp only [List.all_cons, Bool.and_eq_true, List.length_cons] at hv hn
    have he : addE t x = 0 := by unfold addE; rw [if_neg (by simp [ht]), if_neg (by simp [hv.1]), if_neg (by omega)]
    obtain ⟨p1, p2⟩ := put_chk ht hv.1 (by omega)
    obtain ⟨i1, i2, i3⟩ := ofR_good xs (t.put x) p1 hv.2 (by omega)
    exact ⟨by rw [ofR, if_pos he]; exact i1, i2, by show (puts (t.put x) xs).n = _; rw [i3, p2]; simp; omega⟩
theorem ofR_bad : ∀ (xs : List Int) (t : Tl), t.chk = 0 → ¬ (xs.all valB = true ∧ t.n + xs.length ≤ 2000) → ∃ e, e ≠ 0 ∧ ofR t xs = errL e ∧ (xs.all valB = true → e = 13)
  | [], t, ht, h => by
    exfalso
    have := (chk_fine ht).n1
    exact h ⟨rfl, by simp; omega⟩
  | x :: xs, t, ht, h => by
    rw [ofR]
    by_cases he : addE t x = 0
    · rw [if_pos he]
      have hv : valB x = true := by
        cases hv : valB x with
        | true => rfl
        | false => unfold addE at he; rw [if_neg (by simp [ht]), if_pos hv] at he; cases he
      have hn : t.n < 2000 := by
        unfold addE at he
        rw [if_neg (by simp [ht]), if_neg (by simp [hv])] at he
        by_cases h2 : 2000 ≤ t.n
        · rw [if_pos h2] at he; cases he
        · omega
      obtain ⟨p1, p2⟩ := put_chk ht hv hn
      obtain ⟨e, e1, e2, e3⟩ := ofR_bad xs (t.put x) p1 (fun ⟨a, b⟩ => h ⟨by simp [hv, a], by rw [p2] at b; simp; omega⟩)
      exact ⟨e, e1, e2, fun ha => e3 (by simp only [List.all_cons, Bool.and_eq_true] at ha; exact ha.2)⟩
    · rw [if_neg he]
      refine ⟨_, he, rfl, fun ha => ?_⟩
      simp only [List.all_cons, Bool.and_eq_true] at ha
      unfold addE at he ⊢
      rw [if_neg (by simp [ht]), if_neg (by simp [ha.1])] at he ⊢
      split at he
      · rename_i h2; rw [if_pos h2]
      · exact absurd rfl he

theorem puts_rep {v : Int} : ∀ (n : Nat) (k : Int), 1 ≤ k → puts ⟨k, k * v, k * (v * v), v, v⟩ (List.replicate n v) = ⟨k + n, (k + n) * v, (k + n) * (v * v), v, v⟩
  | 0, k, _ => by simp [puts]
  | n + 1, k, hk => by
    have e : (⟨k, k * v, k * (v * v), v, v⟩ : Tl).put v = ⟨k + 1, (k + 1) * v, (k + 1) * (v * v), v, v⟩ := by
      unfold Tl.put
      rw [if_neg (by simp only; omega)]
      rw [Tl.mk.injEq]
      exact ⟨rfl, by grind, by grind, Int.min_self v, Int.max_self v⟩
    show puts ((⟨k, k * v, k * (v * v), v, v⟩ : Tl).put v) (List.replicate n v) = _
    rw [e, puts_rep n (k + 1) (by omega)]
    rw [Tl.mk.injEq]
    exact ⟨by omega, by congr 1; omega, by congr 1; omega, rfl, rfl⟩
end Go.Proofs.Ytfaghnapfkpdhaa
