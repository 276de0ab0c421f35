/-
  IntervalApart: an interval contains its mean; if one is above another one, that one is not above it, and no number is in both. No condition.
-/
import Derived.Test.YtchnhfnnlkncdaaDoorRows
import Derived.Test.YtchnhfnnlkncdaaDoorCards
import Derived.Test.YtchnhfnnlkncdaaDoorTie
import Derived.SevenTiedAt
import Derived.LaidMore
import Derived.OpenShut
import Derived.Stop.Joined
import Derived.Test.YtchnhfnnlkncdaaDoorOpnR
import Derived.Test.YtchnhfnnlkncdaaDoorA49
import Derived.Test.YtchnhfnnlkncdaaDoorM49c
import Derived.Test.YtchnhfnnlkncdaaDoorSq
namespace Go.Proofs.YtchnhfnnlkncdaaDoor
open Go.ChangeShapes Go.WideShapes Go.ChangeAt Go.RowKit
set_option linter.unusedSimpArgs false

theorem contains_own {m H : Rat} (hm : fitQ m = true) (hH : fitQ H = true) (h0 : 0 ≤ H) : containsB (pr m) (pr H) (pr m) = true := by
  unfold containsB
  rw [valP_pr hm]
  simp only [subO]
  have e : m - m = 0 := by grind
  rw [e, fitO_yes fit_zero]
  have a : absR 0 = 0 := by unfold absR; rw [if_neg (Rat.lt_irrefl)]
  refine Bool.and_eq_true_iff.2 ⟨okF_of hH, decide_eq_true ?_⟩
  show cmpQ (absR 0) (usualQ H.num H.den) ≤ 0
  rw [usual_ok hH, a]; exact cmpQ_le.2 h0
theorem above_spec {m H n K : Rat} (hm : fitQ m = true) (hH : fitQ H = true) (hn : fitQ n = true) (hK : fitQ K = true) (h : aboveB (pr m) (pr H) (pr n) (pr K) = true) : n + K < m - H := by
  unfold aboveB at h
  rw [valP_pr hm, valP_pr hH, valP_pr hn, valP_pr hK] at h
  simp only [subO, addO] at h
  split at h
  · rename_i a b ha hb
    rw [← (fitO_some ha).1, ← (fitO_some hb).1] at h
    have h := of_decide_eq_true h
    refine Rat.not_le.1 fun hle => ?_
    have := cmpQ_le.2 hle
    omega
  · cases h
theorem contains_spec {m H : Rat} {x : Int × Int} (hm : fitQ m = true) (hH : fitQ H = true) (h : containsB (pr m) (pr H) x = true) : ∃ y, valP x = some y ∧ y - m ≤ H ∧ -(y - m) ≤ H := by
  unfold containsB at h
  rw [valP_pr hm] at h
  cases hx : valP x with
  | none => rw [hx] at h; cases h
  | some y =>
    rw [hx] at h
    simp only [subO] at h
    split at h
    · rename_i d hd
      rw [← (fitO_some hd).1] at h
      rw [Bool.and_eq_true] at h
      have h2 := cmpQ_le.1 (of_decide_eq_true h.2)
      simp only [pr] at h2
      rw [usual_ok hH] at h2
      refine ⟨y, rfl, ?_⟩
      unfold absR at h2
      split at h2
      · constructor <;> grind
      · constructor <;> grind
    · cases h
theorem apart_F (ps qs : List (Int × Int)) (x : Int × Int) (hp : ∀ p ∈ ps, FP p) (hq : ∀ p ∈ qs, FP p) (hx : FP x) : k_simulatorlaw49_IntervalApart.F [.l (ps.map pt), .l (qs.map pt), .i x.1, .i x.2] = some [.b true] := by
  simp only [k_simulatorlaw49_IntervalApart_F, tk_simulatorlaw49_IntervalApart, k_interval_Of_f, k_batch_Mean_f, k_interval_Contains_f, k_interval_Above_f, k_simulatorlaw49_awake_f, awake49, List.length_map, Go.Proofs.YtchnhfnnlkncdaaDoor.T.den, Ex.ev, U1.ev, U2.ev, U3.ev, gam, List.map, List.getD_cons_zero, List.getD_cons_succ, List.length, List.cons_append, List.nil_append, if_true, Sc.int_i, Sc.bool_b, Sc.list_l, Sc.str_s, Nat.reduceEqDiff, if_false, List.getElem?_cons_zero, List.getElem?_cons_succ]
  by_cases h1 : (50 : Int) < ps.length
  · simp only [h1, Int.natCast_nonneg, bne_iff_ne, beq_iff_eq, ne_eq, decide_eq_true_eq, Bool.and_eq_true, Bool.or_eq_true, Bool.not_eq_true', decide_eq_false_iff_not, beq_eq_false_iff_ne, bne_eq_false_iff_eq, not_true_eq_false, not_false_eq_true, if_true, if_false, reduceIte, and_true, true_and, and_false, false_and, or_false, false_or, or_true, true_or, List.getD_cons_zero, List.getD_cons_succ, List.length_cons, List.length_nil, List.cons_append, List.nil_append, Nat.reduceAdd, Nat.reduceEqDiff, reduceCtorEq, Bool.not_true, Bool.not_false, Bool.true_and, Bool.and_true, Bool.false_and, Bool.and_false, Bool.or_true, Bool.true_or, Bool.or_false, Bool.false_or, Bool.false_eq_true, Bool.true_eq_false, Sc.int_i, Sc.bool_b, Sc.list_l, Sc.str_s, Int.reduceEq, Int.reduceLT, Int.reduceLE, Int.reduceNe, decide_true, decide_false, decide_not, eq_self, Classical.not_not, List.getElem?_cons_zero, List.getElem?_cons_succ, beq_self_eq_true, bne_self_eq_false]
  by_cases h2 : (50 : Int) < qs.length
  · simp only [h1, h2, Int.natCast_nonneg, bne_iff_ne, beq_iff_eq, ne_eq, decide_eq_true_eq, Bool.and_eq_true, Bool.or_eq_true, Bool.not_eq_true', decide_eq_false_iff_not, beq_eq_false_iff_ne, bne_eq_false_iff_eq, not_true_eq_false, not_false_eq_true, if_true, if_false, reduceIte, and_true, true_and, and_false, false_and, or_false, false_or, or_true, true_or, List.getD_cons_zero, List.getD_cons_succ, List.length_cons, List.length_nil, List.cons_append, List.nil_append, Nat.reduceAdd, Nat.reduceEqDiff, reduceCtorEq, Bool.not_true, Bool.not_false, Bool.true_and, Bool.and_true, Bool.false_and, Bool.and_false, Bool.or_true, Bool.true_or, Bool.or_false, Bool.false_or, Bool.false_eq_true, Bool.true_eq_false, Sc.int_i, Sc.bool_b, Sc.list_l, Sc.str_s, Int.reduceEq, Int.reduceLT, Int.reduceLE, Int.reduceNe, decide_true, decide_false, decide_not, eq_self, Classical.not_not, List.getElem?_cons_zero, List.getElem?_cons_succ, beq_self_eq_true, bne_self_eq_false]
  have a := fof49_F ps hp (by omega)
  have b := fof49_F qs hq (by omega)
  rcases ofB_cases ps with ⟨e, he, ha⟩ | ⟨m, v, hm, hv, _, _, hc, ha⟩
  · obtain ⟨y1, y2, y3, y4, y5, eb⟩ : ∃ a b c d e, ofB qs = [.i a, .i b, .i c, .i d, .i e] := by
      rcases ofB_cases qs with ⟨e, _, h⟩ | ⟨m, v, _, _, _, _, _, h⟩
      · exact ⟨_, _, _, _, _, h⟩
      · exact ⟨_, _, _, _, _, h⟩
    rw [ha] at a
    rw [eb] at b
    simp only [h1, h2, a, b, he, Int.natCast_nonneg, bne_iff_ne, beq_iff_eq, ne_eq, decide_eq_true_eq, Bool.and_eq_true, Bool.or_eq_true, Bool.not_eq_true', decide_eq_false_iff_not, beq_eq_false_iff_ne, bne_eq_false_iff_eq, not_true_eq_false, not_false_eq_true, if_true, if_false, reduceIte, and_true, true_and, and_false, false_and, or_false, false_or, or_true, true_or, List.getD_cons_zero, List.getD_cons_succ, List.length_cons, List.length_nil, List.cons_append, List.nil_append, Nat.reduceAdd, Nat.reduceEqDiff, reduceCtorEq, Bool.not_true, Bool.not_false, Bool.true_and, Bool.and_true, Bool.false_and, Bool.and_false, Bool.or_true, Bool.true_or, Bool.or_false, Bool.false_or, Bool.false_eq_true, Bool.true_eq_false, Sc.int_i, Sc.bool_b, Sc.list_l, Sc.str_s, Int.reduceEq, Int.reduceLT, Int.reduceLE, Int.reduceNe, decide_true, decide_false, decide_not, eq_self, Classical.not_not, List.getElem?_cons_zero, List.getElem?_cons_succ, beq_self_eq_true, bne_self_eq_false]
  rcases ofB_cases qs with ⟨e, he, hb⟩ | ⟨n, u, hn, hu, _, _, hd, hb⟩
  · rw [ha] at a
    rw [hb] at b
    simp only [h1, h2, a, b, he, Int.natCast_nonneg, bne_iff_ne, beq_iff_eq, ne_eq, decide_eq_true_eq, Bool.and_eq_true, Bool.or_eq_true, Bool.not_eq_true', decide_eq_false_iff_not, beq_eq_false_iff_ne, bne_eq_false_iff_eq, not_true_eq_false, not_false_eq_true, if_true, if_false, reduceIte, and_true, true_and, and_false, false_and, or_false, false_or, or_true, true_or, List.getD_cons_zero, List.getD_cons_succ, List.length_cons, List.length_nil, List.cons_append, List.nil_append, Nat.reduceAdd, Nat.reduceEqDiff, reduceCtorEq, Bool.not_true, Bool.not_false, Bool.true_and, Bool.and_true, Bool.false_and, Bool.and_false, Bool.or_true, Bool.true_or, Bool.or_false, Bool.false_or, Bool.false_eq_true, Bool.true_eq_false, Sc.int_i, Sc.bool_b, Sc.list_l, Sc.str_s, Int.reduceEq, Int.reduceLT, Int.reduceLE, Int.reduceNe, decide_true, decide_false, decide_not, eq_self, Classical.not_not, List.getElem?_cons_zero, List.getElem?_cons_succ, beq_self_eq_true, bne_self_eq_false]
  rw [ha] at a
  rw [hb] at b
  have mm := fmean50_O ps hp
  rw [hm, enc_some] at mm
  have fm := mean50O_fit hm
  have fn := mean50O_fit hn
  have fH := half_fit hc
  have fK := half_fit hd
  have pH := half_pos (hOf ps.length v)
  have pK := half_pos (hOf qs.length u)
  generalize Rat.divInt (hOf ps.length v) 1000 = H at *
  generalize Rat.divInt (hOf qs.length u) 1000 = K at *
  have c1 := fcontains_F (pr m) (pr H) (pr m) (FP_pr fm) (FP_pr fH) (FP_pr fm)
  have c2 := fcontains_F (pr n) (pr K) (pr n) (FP_pr fn) (FP_pr fK) (FP_pr fn)
  rw [contains_own fm fH pH] at c1
  rw [contains_own fn fK pK] at c2
  have d1 := fabove_F (pr m) (pr H) (pr n) (pr K) (FP_pr fm) (FP_pr fH) (FP_pr fn) (FP_pr fK)
  have d2 := fabove_F (pr n) (pr K) (pr m) (pr H) (FP_pr fn) (FP_pr fK) (FP_pr fm) (FP_pr fH)
  have e1 := fcontains_F (pr m) (pr H) x (FP_pr fm) (FP_pr fH) hx
  have e2 := fcontains_F (pr n) (pr K) x (FP_pr fn) (FP_pr fK) hx
  cases hab : aboveB (pr m) (pr H) (pr n) (pr K)
  · rw [hab] at d1
    simp only [pr] at c1 c2 d1
    simp only [h1, h2, a, b, mm, c1, c2, d1, Bool.and_self, Int.natCast_nonneg, bne_iff_ne, beq_iff_eq, ne_eq, decide_eq_true_eq, Bool.and_eq_true, Bool.or_eq_true, Bool.not_eq_true', decide_eq_false_iff_not, beq_eq_false_iff_ne, bne_eq_false_iff_eq, not_true_eq_false, not_false_eq_true, if_true, if_false, reduceIte, and_true, true_and, and_false, false_and, or_false, false_or, or_true, true_or, List.getD_cons_zero, List.getD_cons_succ, List.length_cons, List.length_nil, List.cons_append, List.nil_append, Nat.reduceAdd, Nat.reduceEqDiff, reduceCtorEq, Bool.not_true, Bool.not_false, Bool.true_and, Bool.and_true, Bool.false_and, Bool.and_false, Bool.or_true, Bool.true_or, Bool.or_false, Bool.false_or, Bool.false_eq_true, Bool.true_eq_false, Sc.int_i, Sc.bool_b, Sc.list_l, Sc.str_s, Int.reduceEq, Int.reduceLT, Int.reduceLE, Int.reduceNe, decide_true, decide_false, decide_not, eq_self, Classical.not_not, List.getElem?_cons_zero, List.getElem?_cons_succ, beq_self_eq_true, bne_self_eq_false]
  · have s := above_spec fm fH fn fK hab
    have hba : aboveB (pr n) (pr K) (pr m) (pr H) = false := by
      refine Bool.eq_false_iff.2 fun h => ?_
      have s2 := above_spec fn fK fm fH h
      grind
    rw [hab] at d1
    rw [hba] at d2
    cases hx1 : containsB (pr m) (pr H) x
    · rw [hx1] at e1
      simp only [pr] at c1 c2 d1 d2 e1
      simp only [h1, h2, a, b, mm, c1, c2, d1, d2, e1, Bool.and_self, Int.natCast_nonneg, bne_iff_ne, beq_iff_eq, ne_eq, decide_eq_true_eq, Bool.and_eq_true, Bool.or_eq_true, Bool.not_eq_true', decide_eq_false_iff_not, beq_eq_false_iff_ne, bne_eq_false_iff_eq, not_true_eq_false, not_false_eq_true, if_true, if_false, reduceIte, and_true, true_and, and_false, false_and, or_false, false_or, or_true, true_or, List.getD_cons_zero, List.getD_cons_succ, List.length_cons, List.length_nil, List.cons_append, List.nil_append, Nat.reduceAdd, Nat.reduceEqDiff, reduceCtorEq, Bool.not_true, Bool.not_false, Bool.true_and, Bool.and_true, Bool.false_and, Bool.and_false, Bool.or_true, Bool.true_or, Bool.or_false, Bool.false_or, Bool.false_eq_true, Bool.true_eq_false, Sc.int_i, Sc.bool_b, Sc.list_l, Sc.str_s, Int.reduceEq, Int.reduceLT, Int.reduceLE, Int.reduceNe, decide_true, decide_false, decide_not, eq_self, Classical.not_not, List.getElem?_cons_zero, List.getElem?_cons_succ, beq_self_eq_true, bne_self_eq_false]
    · have hx2 : containsB (pr n) (pr K) x = false := by
        refine Bool.eq_false_iff.2 fun h => ?_
        obtain ⟨y, y1, y2, y3⟩ := contains_spec fm fH hx1
        obtain ⟨z, z1, z2, z3⟩ := contains_spec fn fK h
        rw [y1] at z1; cases z1
        grind
      rw [hx1] at e1
      rw [hx2] at e2
      simp only [pr] at c1 c2 d1 d2 e1 e2
      simp only [h1, h2, a, b, mm, c1, c2, d1, d2, e1, e2, Bool.and_self, Int.natCast_nonneg, bne_iff_ne, beq_iff_eq, ne_eq, decide_eq_true_eq, Bool.and_eq_true, Bool.or_eq_true, Bool.not_eq_true', decide_eq_false_iff_not, beq_eq_false_iff_ne, bne_eq_false_iff_eq, not_true_eq_false, not_false_eq_true, if_true, if_false, reduceIte, and_true, true_and, and_false, false_and, or_false, false_or, or_true, true_or, List.getD_cons_zero, List.getD_cons_succ, List.length_cons, List.length_nil, List.cons_append, List.nil_append, Nat.reduceAdd, Nat.reduceEqDiff, reduceCtorEq, Bool.not_true, Bool.not_false, Bool.true_and, Bool.and_true, Bool.false_and, Bool.and_false, Bool.or_true, Bool.true_or, Bool.or_false, Bool.false_or, Bool.false_eq_true, Bool.true_eq_false, Sc.int_i, Sc.bool_b, Sc.list_l, Sc.str_s, Int.reduceEq, Int.reduceLT, Int.reduceLE, Int.reduceNe, decide_true, decide_false, decide_not, eq_self, Classical.not_not, List.getElem?_cons_zero, List.getElem?_cons_succ, beq_self_eq_true, bne_self_eq_false]

namespace intervalApart
theorem own : ownKnob Tryd.prog.godebug = none := by kernel_rfl
theorem laidOut : laidOutB Tryd.prog = true := by kernel_rfl
theorem door_met (os : Os) (args : Array Value) : laidMetH Tryd.prog Rows.intervalApartRow.laid ((World.doorLaid Tryd.prog 14 os).forCall (fun _ _ => 0) ⟨#[], args, []⟩).memory :=
  laidMetH_of_parts3 (fuel := 8) (laidMet_of_run' 8 (by kernel_rfl) (by kernel_rfl)) (by kernel_rfl) (by kernel_rfl)
set_option maxRecDepth 100000 in
theorem lifted (os : Os) (started : os.Started) (H : Type) (enc : TypeId × Value → H) :
    ReturnsInHanded {} Tryd.checked os 7 .any (fun w args => (Rows.intervalApartSpec.pre enc Tryd.prog Tryd.f7 [] false w args ∧ laidMetH Tryd.prog Rows.intervalApartRow.laid w) ∧ sizedMet enc Tryd.prog Tryd.f7 (OpenSpec.ofChange Rows.intervalApartSpec) false w args) (Rows.intervalApartSpec.post enc Tryd.prog Tryd.f7 false true false false) := by
  refine returnsInHanded_of_change_and (C := Tryd.checked) (X := fun w _ => laidMetH Tryd.prog Rows.intervalApartRow.laid w) (fun _ _ _ hh h => h.of_heap hh) own started (by kernel_rfl) Tryd.func7
    (ChangeSpec.witness_shaped (enc := enc) (C := Tryd.checked) (os := os) (X := fun w _ => laidMetH Tryd.prog Rows.intervalApartRow.laid w) false (World.doorLaid Tryd.prog 14 os) #[.slice none 0 0, .slice none 0 0, .agg #[.int .i64 0, .int .i64 0]] 8 rfl (World.shaped_of_RefB (by kernel_rfl) (by kernel_rfl)) (by kernel_rfl) (by kernel_rfl) (by kernel_rfl) (door_met os _)) ?_
  intro W base args ds gs before hval0 hW _ _ hL _
  have hval : ∀ (j : Nat) t v, Tryd.f7.params[j]? = some t → args[j]? = some v → Value.okWide Tryd.prog W .any base t v := hval0
  have hW' := hW
  obtain ⟨p, q, hA0, hV, rfl, hfz, hnd⟩ := hW
  have hA : DataW.TrodAll enc Tryd.prog W 0 (fun _ => true) true Tryd.f7.params.toList args.toList ds p := hA0
  rw [Tryd.params7] at hA hval
  obtain ⟨v0, vs0, d0, ds0, p0, q0, hargs, rfl, rfl, h0, r0⟩ := trodAll_cons hA
  obtain ⟨v1, vs1, d1, ds1, p1, q1, rfl, rfl, rfl, h1, r1⟩ := trodAll_cons r0
  obtain ⟨v2, vs2, d2, ds2, p2, q2, rfl, rfl, rfl, h2, r2⟩ := trodAll_cons r1
  obtain ⟨rfl, rfl, rfl⟩ := trodAll_nil r2
  obtain rfl : args = #[v0, v1, v2] := by cases args; simp_all
  obtain ⟨rfl, rfl⟩ := trodVars_none hV
  have k0 := h0
  have lt0 : ∀ x ∈ p0, x.block < W.heap.size := by obtain ⟨m, hm⟩ := k0; exact DataW.trod_lt m _ _ _ hm
  have ok0 := hval 0 22 v0 rfl rfl
  have k1 := h1
  have lt1 : ∀ x ∈ p1, x.block < W.heap.size := by obtain ⟨m, hm⟩ := k1; exact DataW.trod_lt m _ _ _ hm
  have ok1 := hval 1 22 v1 rfl rfl
  have k2 := h2
  have lt2 : ∀ x ∈ p2, x.block < W.heap.size := by obtain ⟨m, hm⟩ := k2; exact DataW.trod_lt m _ _ _ hm
  have ok2 := hval 2 25 v2 rfl rfl
  have hG := glob_of_laid hL
  obtain ⟨ps, i0, _, g0⟩ := open_pairs Tryd.underlying22 (by kernel_rfl) (by kernel_rfl) ok0 h0
  obtain ⟨qs, i1, _, g1⟩ := open_pairs Tryd.underlying22 (by kernel_rfl) (by kernel_rfl) ok1 h1
  obtain ⟨ys2, f2, g2⟩ := open_g (ks := [.int .i64, .int .i64]) Tryd.underlying25 (by kernel_rfl) ok2 h2
  obtain ⟨n2, r2, rfl, wn2, f2⟩ := fitsL_int f2
  obtain ⟨m2, s2, rfl, wm2, f2⟩ := fitsL_int f2
  obtain rfl := fitsL_nil f2
  clear hA0 hval0
  refine (law_call k_simulatorlaw49_IntervalApart (Tryd.call7 _ _) (vs := [v0, v1, v2]) (args3 g0 g1 g2) (apart_F ps qs (n2, m2) i0 i1 ⟨wf_i64 wn2, wf_i64 wm2⟩) rfl hG).mono fun e W' ⟨he, bel⟩ => ?_
  subst he
  exact ⟨_, rfl, _, _, _, [], _, [], hW', trodAll_mk1 (shut_bool Tryd.underlying4 _), (trodAll_cons_mk (Below.trod laidOut (by kernel_rfl) (of_decide_eq_true (by kernel_rfl)) k0 bel lt0) (trodAll_cons_mk (Below.trod laidOut (by kernel_rfl) (of_decide_eq_true (by kernel_rfl)) k1 bel lt1) (trodAll_cons_mk (Below.trod laidOut (by kernel_rfl) (of_decide_eq_true (by kernel_rfl)) k2 bel lt2) trodAll_mk0))), rfl, bel.frame _, fun h => by cases h⟩
theorem over : Rows.intervalApartRow.holds Tryd.pinned (OpenSpec.ofChange Rows.intervalApartSpec) :=
  OpenClaim.holds_of_wide 7 Tryd.f7 rfl rfl rfl rfl rfl rfl rfl ⟨rfl, rfl, rfl, rfl, rfl⟩ rfl rfl rfl rfl rfl (by kernel_rfl) Tryd.func7 (by kernel_rfl)
    (of_decide_eq_true (by kernel_rfl)) (by unfold Func.isWrapper; first | (rw [if_pos (by decide +kernel)]; kernel_rfl) | (rw [if_neg (by decide +kernel)]; exact ⟨rfl, rfl⟩))
    (fun os started H enc _ => lifted os started H enc)
theorem proved : Rows.IntervalApartCardSaid :=
  Claim7.holds_tied_plain_at .later [] [.data] true (true, "3c86034e67c5616d38ff392a8ba0a522a1e631b0cb48adbc1b8530354a08ea7b") false over (fun _ h => by cases h) (by kernel_rfl) (fun _ h => by cases h) intervalApart_row_tie rfl ⟨rfl, rfl⟩ (by kernel_rfl) rfl
    (fun f fn hf hfn => by
      obtain rfl : f = 7 := Option.some.inj ((show Tryd.prog.funcNamed Rows.intervalApartRow.func = some 7 by kernel_rfl).symm.trans hf) |>.symm
      obtain rfl : fn = Tryd.f7 := (Option.some.inj (Tryd.func7.symm.trans hfn)).symm
      refine ⟨by kernel_rfl, fun j t ht => ?_⟩
      have hall : (Tryd.f7.params.toList.all fun t => !Tryd.prog.wantsStandIn t) = true := by kernel_rfl
      have hm : t ∈ Tryd.f7.params.toList := Array.mem_toList_iff.2 (Array.mem_of_getElem? ht)
      exact (by simpa using List.all_eq_true.1 hall t hm : Tryd.prog.wantsStandIn t = false))
    (by kernel_rfl)
end intervalApart

end Go.Proofs.YtchnhfnnlkncdaaDoor
