/-
  TallyJoins: Of a list is the merge of Of its two parts, with the list's count, sums and bounds. No condition.
-/
import Derived.Test.YtahchcpimanjfaaRows
import Derived.Test.YtahchcpimanjfaaOpnR
import Derived.Test.YtahchcpimanjfaaA27
import Derived.Test.YtahchcpimanjfaaM27f
namespace Go.Proofs.Ytahchcpimanjfaa
open Go.ChangeShapes Go.WideShapes Go.ChangeAt Go.RowKit
set_option linter.unusedSimpArgs false

theorem sumI_append : ∀ (a b : List Int), sumI (a ++ b) = sumI a + sumI b
  | [], b => by simp [sumI]
  | x :: a, b => by simp only [List.cons_append, sumI, sumI_append a b]; omega
theorem sumQ_append : ∀ (a b : List Int), sumQ (a ++ b) = sumQ a + sumQ b
  | [], b => by simp [sumQ]
  | x :: a, b => by simp only [List.cons_append, sumQ, sumQ_append a b]; omega
theorem all_take {xs : List Int} (h : xs.all valB = true) (k : Nat) : (xs.take k).all valB = true := by
  rw [List.all_eq_true] at h ⊢
  exact fun x hx => h x (List.mem_of_mem_take hx)

theorem joins_F (xs ys : List Int) : k_simulatorlaw27_TallyJoins.F [.l (xs.map Sc.i), .l (ys.map Sc.i)] = some [.b true] := by
  simp only [k_simulatorlaw27_TallyJoins_F, tk_simulatorlaw27_TallyJoins, k_tally_Of_f, k_tally_Merge_f, k_tally_Check_f, k_simulatorref27_Of_f, k_simulatorlaw27_awake_f, awake27, List.length_append, List.length_map, Go.Proofs.Ytahchcpimanjfaa.T.den, Ex.ev, U1.ev, U2.ev, U3.ev, gam, List.map, List.getD_cons_zero, List.getD_cons_succ, List.length, List.cons_append, List.nil_append, if_true, Sc.int_i, Sc.bool_b, Sc.list_l, Sc.str_s]
  by_cases l1 : 200 < xs.length
  · simp [show (200 : Int) < xs.length by omega]
  by_cases l2 : 200 < ys.length
  · simp [show ¬ (200 : Int) < xs.length by omega, show (200 : Int) < ys.length by omega]
  have o1 := of_F xs (by omega)
  have o2 := of_F ys (by omega)
  have o3 := of_F (xs ++ ys) (by simp; omega)
  have o4 := refOf_F (xs ++ ys) (by simp; omega)
  rw [List.map_append] at o3 o4
  simp only [o1, o2, o3, o4]
  have n1 : ¬ (200 : Int) < xs.length := by omega
  have n2 : ¬ (200 : Int) < ys.length := by omega
  have n3 : (xs.length : Int) ≤ 17592186044416 := by omega
  have n4 : (xs.length : Int) + ys.length ≤ 17592186044416 := by omega
  cases p : xs.all valB with
  | false =>
    obtain ⟨e, e1, e2, _⟩ := ofR_bad xs Tl.zero rfl (fun h => by rw [p] at h; cases h.1)
    obtain ⟨f, f1, f2, _⟩ := ofR_bad (xs ++ ys) Tl.zero rfl (fun h => by rw [List.all_append, p] at h; simp at h)
    rw [e2, f2]
    have : (ofR Tl.zero ys).length = 6 := by
      by_cases h : ys.all valB = true ∧ Tl.zero.n + ys.length ≤ 2000
      · rw [(ofR_good ys Tl.zero rfl h.1 h.2).1]; rfl
      · obtain ⟨g, _, g2, _⟩ := ofR_bad ys Tl.zero rfl h
        rw [g2]; rfl
    obtain ⟨y0, y1, y2, y3, y4, y5, hy⟩ : ∃ a b c d e f, ofR Tl.zero ys = [a, b, c, d, e, f] := by
      match h : ofR Tl.zero ys, this with
      | [a, b, c, d, e, f], _ => exact ⟨a, b, c, d, e, f, rfl⟩
    rw [hy]
    simp [errL, e1, f1, n1, n2, n3, n4]
  | true =>
    obtain ⟨a1, a2, a3⟩ := ofR_good xs Tl.zero rfl p (by simp [Tl.zero]; omega)
    rw [a1]
    cases q : ys.all valB with
    | false =>
      obtain ⟨e, e1, e2, _⟩ := ofR_bad ys Tl.zero rfl (fun h => by rw [q] at h; cases h.1)
      obtain ⟨f, f1, f2, _⟩ := ofR_bad (xs ++ ys) Tl.zero rfl (fun h => by rw [List.all_append, q] at h; simp at h)
      rw [e2, f2]
      simp [Tl.l, errL, e1, f1, n1, n2, n3, n4]
    | true =>
      obtain ⟨b1, b2, b3⟩ := ofR_good ys Tl.zero rfl q (by simp [Tl.zero]; omega)
      obtain ⟨c1, c2, c3⟩ := ofR_good (xs ++ ys) Tl.zero rfl (by simp [p, q]) (by simp [Tl.zero]; omega)
      rw [b1, c1]
      have hm := merge_F (puts Tl.zero xs).n (puts Tl.zero xs).s (puts Tl.zero xs).q (puts Tl.zero xs).lo (puts Tl.zero xs).hi (puts Tl.zero ys).n (puts Tl.zero ys).s (puts Tl.zero ys).q (puts Tl.zero ys).lo (puts Tl.zero ys).hi
      rw [mrg_jn a2 b2 (by rw [a3, b3]; simp [Tl.zero]; omega)] at hm
      have hj : jn (puts Tl.zero xs) (puts Tl.zero ys) = puts Tl.zero (xs ++ ys) := by
        rw [puts_append, ← puts_jn ys _ _ (by rw [a3]; simp [Tl.zero]) (by simp [Tl.zero])]
        congr 1
        unfold jn
        by_cases h : (puts Tl.zero xs).n = 0
        · rw [if_pos h, zero_of a2 h]
        · rw [if_neg h]; exact if_pos rfl
      rw [hj] at hm
      obtain ⟨z1, z2, z3, _, z5⟩ := puts_spec (xs ++ ys) Tl.zero (by simp [Tl.zero]) (fun _ => ⟨rfl, rfl⟩)
      generalize puts Tl.zero (xs ++ ys) = t at *
      have hck := check_F t.n t.s t.q t.lo t.hi
      rw [show chk t.n t.s t.q t.lo t.hi = 0 from c2] at hck
      simp [Tl.l, n1, n2, n3, n4] at hm ⊢
      simp only [hm, hck]
      generalize hg : (fun (rec : List Sc → Option (List Sc)) (v : List Sc) => _) = g
      have step : ∀ rec v, g rec v = _ := fun rec v => (congrFun (congrFun hg rec) v).symm
      clear hg
      have hlen : (xs ++ ys).length ≤ 400 := by simp; omega
      have hall : (xs ++ ys).all valB = true := by simp [p, q]
      have hL : ((xs ++ ys).length : Int) = xs.length + ys.length := by simp
      rw [← hL] at step
      have hmap : List.map Sc.i xs ++ List.map Sc.i ys = (xs ++ ys).map Sc.i := by simp
      rw [hmap] at step
      generalize xs ++ ys = Z at *
      have key : ∀ (ws : List Int) (k fuel : Nat), Z.drop k = ws → k ≤ Z.length → ws.length < fuel → loopN g fuel [.i (sumI (Z.take k)), .i (sumQ (Z.take k)), .i k] = some [.b true] := by
        intro ws
        induction ws with
        | nil =>
          intro k fuel hd hk hf
          obtain ⟨fuel, rfl⟩ : ∃ f, fuel = f + 1 := ⟨fuel - 1, by omega⟩
          have hk2 : Z.length ≤ k := List.drop_eq_nil_iff.1 hd
          have ek : k = Z.length := by omega
          subst ek
          rw [loopN, step]
          have zn : t.n = Z.length := by rw [z1]; simp [Tl.zero]
          have zs : t.s = sumI Z := by rw [z2]; simp [Tl.zero]
          have zq : t.q = sumQ Z := by rw [z3]; simp [Tl.zero]
          simp [zn, zs, zq]
        | cons y ws ih =>
          intro k fuel hd hk hf
          obtain ⟨fuel, rfl⟩ : ∃ f, fuel = f + 1 := ⟨fuel - 1, by omega⟩
          have hk2 : k < Z.length := by
            rcases Nat.lt_or_ge k Z.length with h | h
            · exact h
            · rw [List.drop_eq_nil_of_le h] at hd; cases hd
          have hy : Z[k]? = some y := by have := congrArg List.head? hd; simpa using this
          have hws : Z.drop (k + 1) = ws := by rw [← List.drop_drop, hd]; rfl
          have htk : Z.take (k + 1) = Z.take k ++ [y] := by rw [List.take_add_one, hy]; rfl
          have hn := ih (k + 1) fuel hws (by omega) (by simp at hf; omega)
          have hmem : y ∈ Z := List.mem_of_getElem? hy
          obtain ⟨y1, y2⟩ := z5 y hmem
          have b1 := sum_bounds _ (all_take hall (k + 1))
          have hkl : (Z.take (k + 1)).length ≤ 400 := by rw [List.length_take]; omega
          rw [htk, sumI_append, sumQ_append] at hn
          rw [htk, sumI_append, sumQ_append, ← htk] at b1
          have hvy : valB y = true := List.all_eq_true.1 hall y hmem
          simp only [sumI, sumQ, Int.add_zero] at hn b1
          have w1 : IntKind.i64.wrap (sumI (Z.take k) + y) = sumI (Z.take k) + y := wr64 (by omega) (by omega)
          have w2 : IntKind.i64.wrap (sumQ (Z.take k) + y * y) = sumQ (Z.take k) + y * y := wr64 (by omega) (by omega)
          have w3 : IntKind.i64.wrap ((k : Int) + 1) = ((k + 1 : Nat) : Int) := by rw [wr64 (by omega) (by omega)]; omega
          rw [loopN, step]
          have hy2 : Z[k] = y := by rw [List.getElem?_eq_getElem hk2] at hy; exact Option.some.inj hy
          simp [hk2, hy2, show ¬ y < t.lo by omega, show ¬ t.hi < y by omega, fine_sq hvy, w1, w2]
          rw [w3]
          exact hn
      have hr : Z.length < rounds := Nat.lt_of_le_of_lt hlen (by unfold rounds; omega)
      have hfin := key Z 0 rounds rfl (Nat.zero_le _) hr
      simp only [List.take_zero, sumI, sumQ, Int.natCast_zero] at hfin
      exact hfin

namespace tallyJoins
theorem own : ownKnob Try.prog.godebug = none := by kernel_rfl
theorem laidOut : laidOutB Try.prog = true := by kernel_rfl
set_option maxRecDepth 100000 in
theorem lifted (os : Os) (started : os.Started) (H : Type) (enc : TypeId × Value → H) :
    ReturnsInHanded {} Try.checked os 6 .any (Rows.tallyJoinsSpec.pre6 enc Try.prog Try.f6 Rows.tallyJoinsRow.domain false) (Rows.tallyJoinsSpec.post enc Try.prog Try.f6 false true false false) := by
  refine returnsInHanded_of_change (C := Try.checked) own started (by kernel_rfl) Try.func6
    (ChangeSpec.witness6 (enc := enc) (C := Try.checked) false ⟨#[], #[.slice none 0 0, .slice none 0 0], []⟩ 8 (by kernel_rfl) (by kernel_rfl) (by kernel_rfl) (by kernel_rfl)) ?_
  intro W base args ds gs before hval0 hW hcnd _
  have hval : ∀ (j : Nat) t v, Try.f6.params[j]? = some t → args[j]? = some v → Value.okWide Try.prog W .any base t v := hval0
  have hW' := hW
  obtain ⟨p, q, hA0, hV, rfl, hfz, hnd⟩ := hW
  have hA : DataW.TrodAll enc Try.prog W 0 (fun _ => true) true Try.f6.params.toList args.toList ds p := hA0
  rw [Try.params6] at hA hval
  obtain ⟨v0, vs0, d0, ds0, p0, q0, hargs, rfl, rfl, h0, r0⟩ := trodAll_cons hA
  obtain ⟨v1, vs1, d1, ds1, p1, q1, rfl, rfl, rfl, h1, r1⟩ := trodAll_cons r0
  obtain ⟨rfl, rfl, rfl⟩ := trodAll_nil r1
  obtain rfl : args = #[v0, v1] := by cases args; simp_all
  obtain ⟨rfl, rfl⟩ := trodVars_none hV
  have k0 := h0
  have lt0 : ∀ x ∈ p0, x.block < W.heap.size := by obtain ⟨m, hm⟩ := k0; exact DataW.trod_lt m _ _ _ hm
  have ok0 := hval 0 36 v0 rfl rfl
  have k1 := h1
  have lt1 : ∀ x ∈ p1, x.block < W.heap.size := by obtain ⟨m, hm⟩ := k1; exact DataW.trod_lt m _ _ _ hm
  have ok1 := hval 1 36 v1 rfl rfl
  obtain ⟨xs, _, _, g0⟩ := open_ints (k := .i64) Try.underlying36 (by kernel_rfl) (by kernel_rfl) ok0 h0
  obtain ⟨ys, _, _, g1⟩ := open_ints (k := .i64) Try.underlying36 (by kernel_rfl) (by kernel_rfl) ok1 h1
  clear hA0 hval0
  refine (law_call k_simulatorlaw27_TallyJoins (vs := [v0, v1]) (args2 g0 g1) (joins_F xs ys) rfl).mono fun e W' ⟨he, bel⟩ => ?_
  subst he
  exact ⟨_, rfl, _, _, _, [], _, [], hW', trodAll_mk1 (shut_bool Try.underlying4 _), (trodAll_cons_mk (Below.trod laidOut (by kernel_rfl) (of_decide_eq_true (by kernel_rfl)) k0 bel lt0) (trodAll_cons_mk (Below.trod laidOut (by kernel_rfl) (of_decide_eq_true (by kernel_rfl)) k1 bel lt1) trodAll_mk0)), rfl, bel.frame _, fun h => by cases h⟩
theorem over : Rows.tallyJoinsRow.holds Try.pinned (OpenSpec.ofChange Rows.tallyJoinsSpec) :=
  OpenClaim.holds_of_wide 6 Try.f6 rfl rfl rfl rfl rfl rfl rfl ⟨rfl, rfl, rfl, rfl, rfl⟩ rfl rfl rfl rfl rfl (by kernel_rfl) Try.func6 (by kernel_rfl)
    (of_decide_eq_true (by kernel_rfl)) (by unfold Func.isWrapper; first | (rw [if_pos (by decide +kernel)]; kernel_rfl) | (rw [if_neg (by decide +kernel)]; exact ⟨rfl, rfl⟩))
    (fun os started H enc _ => lifted os started H enc)
theorem proved : Rows.TallyJoinsSaid := over
end tallyJoins

end Go.Proofs.Ytahchcpimanjfaa
