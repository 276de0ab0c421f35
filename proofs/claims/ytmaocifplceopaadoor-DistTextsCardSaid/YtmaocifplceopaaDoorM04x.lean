/-
  A stable order: plain facts.
-/
import Derived.Test.YtmaocifplceopaaDoorM04w
namespace Go.Proofs.YtmaocifplceopaaDoor

/-- Index i stands before index j. -/
def ltI (v : Nat → Int) (i j : Nat) : Prop := v i < v j ∨ (v i = v j ∧ i < j)
theorem ltI_trans {v : Nat → Int} {i j k : Nat} (h : ltI v i j) (h2 : ltI v j k) : ltI v i k := by
  unfold ltI at *; omega
theorem ltI_irr {v : Nat → Int} {i : Nat} : ¬ ltI v i i := by unfold ltI; omega
theorem ltI_tot {v : Nat → Int} {i j : Nat} (h : i ≠ j) : ltI v i j ∨ ltI v j i := by unfold ltI; omega
/-- The insertion of x: what stands before it lies reversed. -/
def insR (v : Nat → Int) : List Nat → Nat → List Nat → List Nat
  | [], x, post => x :: post
  | y :: r, x, post => if v x < v y then insR v r x (y :: post) else r.reverse ++ y :: x :: post
theorem insR_perm (v : Nat → Int) : ∀ (r : List Nat) (x : Nat) (post : List Nat), (insR v r x post).Perm (r.reverse ++ x :: post)
  | [], x, post => by simp [insR]
  | y :: r, x, post => by
    unfold insR
    split
    · refine (insR_perm v r x (y :: post)).trans ?_
      simp only [List.reverse_cons, List.append_assoc, List.singleton_append]
      exact (List.Perm.swap y x post).append_left _
    · simp only [List.reverse_cons, List.append_assoc, List.singleton_append]
      exact List.Perm.refl _
theorem insR_sorted (v : Nat → Int) : ∀ (r : List Nat) (x : Nat) (post : List Nat), (r.reverse).Pairwise (ltI v) → (∀ y ∈ r, y < x) → post.Pairwise (ltI v) → (∀ y ∈ r, ∀ z ∈ post, ltI v y z) → (∀ z ∈ post, ltI v x z) → (insR v r x post).Pairwise (ltI v)
  | [], x, post, _, _, h3, _, h5 => List.pairwise_cons.2 ⟨h5, h3⟩
  | y :: r, x, post, h1, h2, h3, h4, h5 => by
    simp only [List.reverse_cons, List.pairwise_append, List.mem_singleton, List.mem_reverse] at h1
    obtain ⟨p1, _, p3⟩ := h1
    have ry : ∀ z ∈ r, ltI v z y := fun z hz => p3 z hz y rfl
    unfold insR
    split
    · rename_i hlt
      have hxy : ltI v x y := .inl hlt
      refine insR_sorted v r x (y :: post) p1 (fun z hz => h2 z (List.mem_cons_of_mem _ hz)) (List.pairwise_cons.2 ⟨fun z hz => h4 y (List.mem_cons_self ..) z hz, h3⟩) (fun z hz t ht => ?_) (fun t ht => ?_)
      · rcases List.mem_cons.1 ht with rfl | ht
        · exact ry z hz
        · exact h4 z (List.mem_cons_of_mem _ hz) t ht
      · rcases List.mem_cons.1 ht with rfl | ht
        · exact hxy
        · exact h5 t ht
    · rename_i hlt
      have hyx : ltI v y x := by
        have := h2 y (List.mem_cons_self ..)
        unfold ltI; omega
      refine List.pairwise_append.2 ⟨p1, List.pairwise_cons.2 ⟨fun z hz => ?_, List.pairwise_cons.2 ⟨h5, h3⟩⟩, fun a ha b hb => ?_⟩
      · rcases List.mem_cons.1 hz with rfl | hz
        · exact hyx
        · exact h4 y (List.mem_cons_self ..) z hz
      · have ha := List.mem_reverse.1 ha
        rcases List.mem_cons.1 hb with rfl | hb
        · exact ry a ha
        · rcases List.mem_cons.1 hb with rfl | hb
          · exact ltI_trans (ry a ha) hyx
          · exact h4 a (List.mem_cons_of_mem _ ha) b hb
theorem swap_set {α : Type} (r : List α) (x y : α) (post : List α) : (((y :: r).reverse ++ x :: post).set (r.length + 1) y).set r.length x = r.reverse ++ x :: y :: post := by
  simp
end Go.Proofs.YtmaocifplceopaaDoor
