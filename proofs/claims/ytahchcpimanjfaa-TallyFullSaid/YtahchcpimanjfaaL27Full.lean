/-
  TallyFull: a tally of n equal values, n from 1990 to 2010: Of refuses above 2000 entries, and Merge refuses to go above. No condition.
-/
import Derived.Test.YtahchcpimanjfaaRows
import Derived.Test.YtahchcpimanjfaaOpn
import Derived.Test.YtahchcpimanjfaaA27
import Derived.Test.YtahchcpimanjfaaM27e
namespace Go.Proofs.Ytahchcpimanjfaa
open Go.ChangeShapes Go.WideShapes Go.ChangeAt Go.RowKit
set_option linter.unusedSimpArgs false

theorem rep_of {n : Nat} {v : Int} (hv : valB v = true) : (2000 < n → ofR Tl.zero (List.replicate n v) = errL 13) ∧
    (0 < n → n ≤ 2000 → ∃ t : Tl, ofR Tl.zero (List.replicate n v) = t.l ++ [.i 0] ∧ t.chk = 0 ∧ t.n = n) := by
  have hall : (List.replicate n v).all valB = true := by simp [hv]
  refine ⟨fun h => ?_, fun h1 h2 => ?_⟩
  · obtain ⟨e, e1, e2, e3⟩ := ofR_bad (List.replicate n v) Tl.zero rfl (fun ⟨_, b⟩ => by simp [Tl.zero] at b; omega)
    rw [e2, e3 hall]
  · obtain ⟨i1, i2, i3⟩ := ofR_good (List.replicate n v) Tl.zero rfl hall (by simp [Tl.zero]; omega)
    exact ⟨_, i1, i2, by rw [i3]; simp [Tl.zero]⟩

theorem full_F (n v : Int) : k_simulatorlaw27_TallyFull.F [.i n, .i v] = some [.b true] := by
  rw [k_simulatorlaw27_TallyFull_F]
  simp only [List.length, if_true, tk_simulatorlaw27_TallyFull, Go.Proofs.Ytahchcpimanjfaa.T.den, List.map, Ex.ev]
  generalize hg : (fun (rec : List Sc → Option (List Sc)) (v : List Sc) => _) = g
  have step : ∀ rec v, g rec v = _ := fun rec v => (congrFun (congrFun hg rec) v).symm
  clear hg
  simp only [gam, k_tally_Of_f, k_tally_Merge_f, k_tally_Check_f, k_simulatorlaw27_awake_f, U2.ev, awake27, List.getD_cons_zero, List.getD_cons_succ, Sc.int_i, Sc.bool_b, List.length, if_true, List.cons_append, List.nil_append]
  by_cases h1 : n < 1990; · simp [h1]
  by_cases h2 : 2010 < n; · simp [h2]
  by_cases h3 : v < -1000000; · simp [h3]
  by_cases h4 : 1000000 < v; · simp [h4]
  have hv : valB v = true := by simp only [valB, Bool.and_eq_true, decide_eq_true_eq]; omega
  obtain ⟨m, rfl⟩ : ∃ m : Nat, n = m := ⟨n.toNat, by omega⟩
  have key : ∀ (d k fuel : Nat), k + d = m → d < fuel → loopN g fuel [.l (List.replicate k (.i v)), .i k] = some [.b true] := by
    intro d
    induction d with
    | zero =>
      intro k fuel hk hf
      obtain ⟨fuel, rfl⟩ : ∃ f, fuel = f + 1 := ⟨fuel - 1, by omega⟩
      have hk : k = m := by omega
      subst hk
      rw [loopN, step]
      have hof := of_F (List.replicate k v) (by simp; omega)
      rw [List.map_replicate] at hof
      simp only [Ex.ev, U1.ev, U2.ev, List.cons_append, List.nil_append, List.getD_cons_zero, List.getD_cons_succ, Sc.list_l, Sc.int_i, Sc.bool_b, gam, k_tally_Of_f, k_tally_Merge_f, k_tally_Check_f, k_simulatorlaw27_awake_f, if_true, List.map, hof, awake27]
      by_cases hb : 2000 < k
      · rw [(rep_of (n := k) hv).1 hb]
        simp [errL, show (2000 : Int) < k by omega]
      · obtain ⟨t, t1, t2, t3⟩ := (rep_of (n := k) hv).2 (by omega) (by omega)
        rw [t1]
        obtain ⟨N, S, Q, lo, hi⟩ := t
        simp only at t3
        subst t3
        have hm : k_tally_Merge.F [.i (k : Int), .i S, .i Q, .i lo, .i hi, .i (k : Int), .i S, .i Q, .i lo, .i hi] = some (errL 13) := by
          rw [merge_F]
          have t2 : chk k S Q lo hi = 0 := t2
          unfold mrg
          rw [if_neg (by simp [t2]), if_neg (by simp [t2]), if_pos (by omega)]; rfl
        have t2 : chk k S Q lo hi = 0 := t2
        simp [Tl.l, hm, check_F, t2, errL, show ¬ (2000 : Int) < k by omega]
    | succ d ih =>
      intro k fuel hk hf
      obtain ⟨fuel, rfl⟩ : ∃ f, fuel = f + 1 := ⟨fuel - 1, by omega⟩
      have hn := ih (k + 1) fuel (by omega) (by omega)
      have hw : IntKind.i64.wrap ((k : Int) + 1) = ((k + 1 : Nat) : Int) := by rw [wr64 (by omega) (by omega)]; omega
      rw [loopN, step]
      simp only [Ex.ev, U1.ev, U2.ev, List.cons_append, List.nil_append, List.getD_cons_zero, List.getD_cons_succ, Sc.list_l, Sc.int_i, Sc.bool_b, if_true, List.map, hw]
      rw [← hn]
      simp [show k < m by omega, show (k : Int) + 1 ≤ 17592186044416 by omega, List.replicate_succ']
  have := key m 0 rounds (by omega) (by unfold rounds; omega)
  simp [h1, h2, h3, h4]
  exact this

namespace tallyFull
theorem own : ownKnob Try.prog.godebug = none := by kernel_rfl
theorem laidOut : laidOutB Try.prog = true := by kernel_rfl
set_option maxRecDepth 100000 in
theorem lifted (os : Os) (started : os.Started) (H : Type) (enc : TypeId × Value → H) :
    ReturnsInHanded {} Try.checked os 7 .any (Rows.tallyFullSpec.pre6 enc Try.prog Try.f7 Rows.tallyFullRow.domain false) (Rows.tallyFullSpec.post enc Try.prog Try.f7 false true false false) := by
  refine returnsInHanded_of_change (C := Try.checked) own started (by kernel_rfl) Try.func7
    (ChangeSpec.witness6 (enc := enc) (C := Try.checked) false ⟨#[], #[.int .i64 0, .int .i64 0], []⟩ 8 (by kernel_rfl) (by kernel_rfl) (by kernel_rfl) (by kernel_rfl)) ?_
  intro W base args ds gs before hval0 hW hcnd _
  have hval : ∀ (j : Nat) t v, Try.f7.params[j]? = some t → args[j]? = some v → Value.okWide Try.prog W .any base t v := hval0
  have hW' := hW
  obtain ⟨p, q, hA0, hV, rfl, hfz, hnd⟩ := hW
  have hA : DataW.TrodAll enc Try.prog W 0 (fun _ => true) true Try.f7.params.toList args.toList ds p := hA0
  rw [Try.params7] at hA hval
  obtain ⟨v0, vs0, d0, ds0, p0, q0, hargs, rfl, rfl, h0, r0⟩ := trodAll_cons hA
  obtain ⟨v1, vs1, d1, ds1, p1, q1, rfl, rfl, rfl, h1, r1⟩ := trodAll_cons r0
  obtain ⟨rfl, rfl, rfl⟩ := trodAll_nil r1
  obtain rfl : args = #[v0, v1] := by cases args; simp_all
  obtain ⟨rfl, rfl⟩ := trodVars_none hV
  have k0 := h0
  have lt0 : ∀ x ∈ p0, x.block < W.heap.size := by obtain ⟨m, hm⟩ := k0; exact DataW.trod_lt m _ _ _ hm
  have ok0 := hval 0 3 v0 rfl rfl
  have k1 := h1
  have lt1 : ∀ x ∈ p1, x.block < W.heap.size := by obtain ⟨m, hm⟩ := k1; exact DataW.trod_lt m _ _ _ hm
  have ok1 := hval 1 3 v1 rfl rfl
  obtain ⟨y0, ⟨n, rfl, _⟩, g0⟩ := open_a (k := .int .i64) (by kernel_rfl) ok0 h0
  obtain ⟨y1, ⟨x, rfl, _⟩, g1⟩ := open_a (k := .int .i64) (by kernel_rfl) ok1 h1
  clear hA0 hval0
  refine (law_call k_simulatorlaw27_TallyFull (vs := [v0, v1]) (args2 g0 g1) (full_F n x) rfl).mono fun e W' ⟨he, bel⟩ => ?_
  subst he
  exact ⟨_, rfl, _, _, _, [], _, [], hW', trodAll_mk1 (shut_bool Try.underlying4 _), (trodAll_cons_mk (Below.trod laidOut (by kernel_rfl) (of_decide_eq_true (by kernel_rfl)) k0 bel lt0) (trodAll_cons_mk (Below.trod laidOut (by kernel_rfl) (of_decide_eq_true (by kernel_rfl)) k1 bel lt1) trodAll_mk0)), rfl, bel.frame _, fun h => by cases h⟩
theorem over : Rows.tallyFullRow.holds Try.pinned (OpenSpec.ofChange Rows.tallyFullSpec) :=
  OpenClaim.holds_of_wide 7 Try.f7 rfl rfl rfl rfl rfl rfl rfl ⟨rfl, rfl, rfl, rfl, rfl⟩ rfl rfl rfl rfl rfl (by kernel_rfl) Try.func7 (by kernel_rfl)
    (of_decide_eq_true (by kernel_rfl)) (by unfold Func.isWrapper; first | (rw [if_pos (by decide +kernel)]; kernel_rfl) | (rw [if_neg (by decide +kernel)]; exact ⟨rfl, rfl⟩))
    (fun os started H enc _ => lifted os started H enc)
theorem proved : Rows.TallyFullSaid := over
end tallyFull

end Go.Proofs.Ytahchcpimanjfaa
