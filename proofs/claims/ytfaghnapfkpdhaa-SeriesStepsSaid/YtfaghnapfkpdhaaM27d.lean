/-
  Chapter 27: what Add and Of and their references return.
-/
import Derived.Test.YtfaghnapfkpdhaaM27c
namespace Go.Proofs.Ytfaghnapfkpdhaa
set_option linter.unusedSimpArgs false

structure Tl where
  n : Int
  s : Int
  q : Int
  lo : Int
  hi : Int
def Tl.l (t : Tl) : List Sc := [.i t.n, .i t.s, .i t.q, .i t.lo, .i t.hi]
def Tl.chk (t : Tl) : Int := Go.Proofs.Ytfaghnapfkpdhaa.chk t.n t.s t.q t.lo t.hi
def Tl.zero : Tl := ⟨0, 0, 0, 0, 0⟩
/-- What Add makes of a tally. -/
def Tl.put (t : Tl) (v : Int) : Tl := if t.n = 0 then ⟨1, v, v * v, v, v⟩ else ⟨t.n + 1, t.s + v, t.q + v * v, min t.lo v, max t.hi v⟩
def addE (t : Tl) (v : Int) : Int := if t.chk ≠ 0 then t.chk else if valB v = false then 2 else if 2000 ≤ t.n then 13 else 0
def addR (t : Tl) (v : Int) : List Sc := if addE t v = 0 then (t.put v).l ++ [.i 0] else [.i 0, .i 0, .i 0, .i 0, .i 0, .i (addE t v)]

theorem fine_one {v : Int} (h : valB v = true) : Fine 1 v (v * v) v v := by
  simp only [valB, Bool.and_eq_true, decide_eq_true_eq] at h
  have b3 := mulB (a := v) (b := v) (A := 1000000) (B := 1000000) (by omega) (by omega) (by omega) (by omega) (by omega) (by omega)
  have := sq_nonneg v
  exact ⟨by omega, by omega, by omega, by omega, by omega, by omega, by omega, by omega, by omega, by omega⟩
theorem fine_sq {v : Int} (h : valB v = true) : IntKind.i64.wrap (v * v) = v * v := by
  have := fine_one h
  exact wr64 (by have := this.q0; omega) (by have := this.q1; omega)
theorem add_F (t : Tl) (v : Int) : k_tally_Add.F (t.l ++ [.i v]) = some (addR t v) := by
  obtain ⟨N, S, Q, lo, hi⟩ := t
  simp only [Tl.l, List.cons_append, List.nil_append]
  simp only [k_tally_Add_F, tk_tally_Add, k_tally_Check_f, k_tally_value_f, k_tally_joined_f, check_F, value_F, Go.Proofs.Ytfaghnapfkpdhaa.T.den, Ex.ev, U1.ev, U2.ev, U3.ev, gam, List.map, List.getD_cons_zero, List.getD_cons_succ, List.length, List.cons_append, List.nil_append, if_true, Sc.int_i, Sc.bool_b, Sc.list_l, Sc.str_s, Nat.reduceEqDiff, if_false, List.getElem?_cons_zero, List.getElem?_cons_succ]
  unfold addR addE Tl.chk
  simp only
  by_cases c1 : chk N S Q lo hi = 0
  · cases c2 : valB v
    · simp [c1]
    · have f1 := chk_fine c1
      rw [fine_sq c2, joined_F f1 (fine_one c2)]
      by_cases c3 : 2000 ≤ N
      · simp [c1, c3]
      · by_cases c4 : N = 0
        · subst c4; simp [c1, Tl.put, Tl.l]
        · simp [c1, c3, c4, Tl.put, Tl.l]
  · simp [c1]
theorem refAdd_F (t : Tl) (v : Int) : k_simulatorref27_Add.F (t.l ++ [.i v]) = some (addR t v) := by
  obtain ⟨N, S, Q, lo, hi⟩ := t
  simp only [Tl.l, List.cons_append, List.nil_append]
  simp only [k_simulatorref27_Add_F, tk_simulatorref27_Add, k_simulatorref27_Check_f, k_simulatorref27_Observation_f, k_simulatorref27_least_f, k_simulatorref27_most_f, refCheck_F, observation_F, least_F, most_F, Go.Proofs.Ytfaghnapfkpdhaa.T.den, Ex.ev, U1.ev, U2.ev, U3.ev, gam, List.map, List.getD_cons_zero, List.getD_cons_succ, List.length, List.cons_append, List.nil_append, if_true, Sc.int_i, Sc.bool_b, Sc.list_l, Sc.str_s, Nat.reduceEqDiff, if_false, List.getElem?_cons_zero, List.getElem?_cons_succ]
  unfold addR addE Tl.chk
  simp only
  by_cases c1 : chk N S Q lo hi = 0
  · cases c2 : valB v
    · simp [c1]
    · obtain ⟨a1, a2, a3, a4, a5, a6, a7, a8, a9, a10⟩ := chk_fine c1
      obtain ⟨b1, b2, b3, b4, b5, b6, b7, b8, b9, b10⟩ := fine_one c2
      rw [fine_sq c2, wr64 (z := N + 1) (by omega) (by omega), wr64 (z := S + v) (by omega) (by omega), wr64 (z := Q + v * v) (by omega) (by omega)]
      by_cases c3 : N = 2000
      · subst c3; simp [c1]
      · by_cases c4 : N = 0
        · subst c4; simp [c1, Tl.put, Tl.l]
        · simp [c1, c3, c4, Tl.put, Tl.l, show ¬ 2000 ≤ N by omega]
  · simp [c1]

/-- What Of makes of a list, from a tally on. -/
def ofR : Tl → List Int → List Sc
  | t, [] => t.l ++ [.i 0]
  | t, x :: xs => if addE t x = 0 then ofR (t.put x) xs else [.i 0, .i 0, .i 0, .i 0, .i 0, .i (addE t x)]
theorem of_F (xs : List Int) (hl : xs.length ≤ 9223372036854775807) : k_tally_Of.F [.l (xs.map Sc.i)] = some (ofR Tl.zero xs) := by
  rw [k_tally_Of_F]
  simp only [List.length, if_true, tk_tally_Of, Go.Proofs.Ytfaghnapfkpdhaa.T.den, List.map, Ex.ev]
  generalize hg : (fun (rec : List Sc → Option (List Sc)) (v : List Sc) => _) = g
  have step : ∀ rec v, g rec v = _ := fun rec v => (congrFun (congrFun hg rec) v).symm
  clear hg
  have key : ∀ (ys : List Int) (k : Nat) (t : Tl) (fuel : Nat), xs.drop k = ys → k ≤ xs.length → ys.length < fuel → loopN g fuel (.i k :: t.l) = some (ofR t ys) := by
    intro ys
    induction ys with
    | nil =>
      intro k t fuel hd hk hf
      obtain ⟨fuel, rfl⟩ : ∃ f, fuel = f + 1 := ⟨fuel - 1, by omega⟩
      have hk2 : xs.length ≤ k := List.drop_eq_nil_iff.1 hd
      rw [loopN, step]
      simp [Ex.ev, U1.ev, U2.ev, Tl.l, ofR, show ¬ k < xs.length by omega]
    | cons y ys ih =>
      intro k t fuel hd hk hf
      obtain ⟨fuel, rfl⟩ : ∃ f, fuel = f + 1 := ⟨fuel - 1, by omega⟩
      have hk2 : k < xs.length := by
        rcases Nat.lt_or_ge k xs.length with h | h
        · exact h
        · rw [List.drop_eq_nil_of_le h] at hd; cases hd
      have hy : xs[k]? = some y := by have := congrArg List.head? hd; simpa using this
      have hys : xs.drop (k + 1) = ys := by rw [← List.drop_drop, hd]; rfl
      have hn := ih (k + 1) (t.put y) fuel hys (by omega) (by simp at hf; omega)
      have ha := add_F t y
      have hidx : (xs.map Sc.i).getD (k : Int).toNat (.i 0) = .i y := by simp [hy]
      have hw : IntKind.i64.wrap ((k : Int) + 1) = ((k + 1 : Nat) : Int) := by rw [wr64 (by omega) (by omega)]; omega
      rw [loopN, step]
      simp only [Ex.ev, U1.ev, U2.ev, Tl.l, List.cons_append, List.nil_append, List.getD_cons_zero, List.getD_cons_succ, Sc.list_l, Sc.int_i, Sc.bool_b, List.length_map, gam, k_tally_Add_f, if_true, List.map, hidx, hw] at ha ⊢
      rw [ha]
      unfold addR ofR
      by_cases he : addE t y = 0
      · rw [if_pos he, if_pos he, ← hn]
        simp [Tl.l, hk2]
      · rw [if_neg he, if_neg he]
        simp [he, hk2]
  exact key xs 0 Tl.zero rounds rfl (Nat.zero_le _) (Nat.lt_of_le_of_lt hl (by unfold rounds; omega))
theorem refOf_F (xs : List Int) (hl : xs.length ≤ 9223372036854775807) : k_simulatorref27_Of.F [.l (xs.map Sc.i)] = some (ofR Tl.zero xs) := by
  rw [k_simulatorref27_Of_F]
  simp only [List.length, if_true, tk_simulatorref27_Of, Go.Proofs.Ytfaghnapfkpdhaa.T.den, List.map, Ex.ev]
  generalize hg : (fun (rec : List Sc → Option (List Sc)) (v : List Sc) => _) = g
  have step : ∀ rec v, g rec v = _ := fun rec v => (congrFun (congrFun hg rec) v).symm
  clear hg
  have key : ∀ (ys : List Int) (k : Nat) (t : Tl) (fuel : Nat), xs.drop k = ys → k ≤ xs.length → ys.length < fuel → loopN g fuel (.i k :: t.l) = some (ofR t ys) := by
    intro ys
    induction ys with
    | nil =>
      intro k t fuel hd hk hf
      obtain ⟨fuel, rfl⟩ : ∃ f, fuel = f + 1 := ⟨fuel - 1, by omega⟩
      have hk2 : xs.length ≤ k := List.drop_eq_nil_iff.1 hd
      rw [loopN, step]
      simp [Ex.ev, U1.ev, U2.ev, Tl.l, ofR, show ¬ k < xs.length by omega]
    | cons y ys ih =>
      intro k t fuel hd hk hf
      obtain ⟨fuel, rfl⟩ : ∃ f, fuel = f + 1 := ⟨fuel - 1, by omega⟩
      have hk2 : k < xs.length := by
        rcases Nat.lt_or_ge k xs.length with h | h
        · exact h
        · rw [List.drop_eq_nil_of_le h] at hd; cases hd
      have hy : xs[k]? = some y := by have := congrArg List.head? hd; simpa using this
      have hys : xs.drop (k + 1) = ys := by rw [← List.drop_drop, hd]; rfl
      have hn := ih (k + 1) (t.put y) fuel hys (by omega) (by simp at hf; omega)
      have ha := refAdd_F t y
      have hidx : (xs.map Sc.i).getD (k : Int).toNat (.i 0) = .i y := by simp [hy]
      have hw : IntKind.i64.wrap ((k : Int) + 1) = ((k + 1 : Nat) : Int) := by rw [wr64 (by omega) (by omega)]; omega
      rw [loopN, step]
      simp only [Ex.ev, U1.ev, U2.ev, Tl.l, List.cons_append, List.nil_append, List.getD_cons_zero, List.getD_cons_succ, Sc.list_l, Sc.int_i, Sc.bool_b, List.length_map, gam, k_simulatorref27_Add_f, if_true, List.map, hidx, hw] at ha ⊢
      rw [ha]
      unfold addR ofR
      by_cases he : addE t y = 0
      · rw [if_pos he, if_pos he, ← hn]
        simp [Tl.l, hk2]
      · rw [if_neg he, if_neg he]
        simp [he, hk2]
  exact key xs 0 Tl.zero rounds rfl (Nat.zero_le _) (Nat.lt_of_le_of_lt hl (by unfold rounds; omega))
end Go.Proofs.Ytfaghnapfkpdhaa
