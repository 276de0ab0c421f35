/-
  FracFloors: Floor returns what the chapter says; the result r is at most a k, and r + 1 is greater, where these fractions exist. No condition.
-/
import Derived.Test.YtkjgcalkkfgmlaaDoorRows
import Derived.Test.YtkjgcalkkfgmlaaDoorCards
import Derived.Test.YtkjgcalkkfgmlaaDoorTie
import Derived.Test.YtkjgcalkkfgmlaaDoorGlR
import Derived.SevenTiedAt
import Derived.LaidMore
import Derived.OpenShut
import Derived.Stop.Joined
import Derived.Test.YtkjgcalkkfgmlaaDoorOpnR
import Derived.Test.YtkjgcalkkfgmlaaDoorA02
import Derived.Test.YtkjgcalkkfgmlaaDoorFlF
import Derived.Test.YtkjgcalkkfgmlaaDoorFrCmp
import Derived.Test.YtkjgcalkkfgmlaaDoorFrO
import Derived.Test.YtkjgcalkkfgmlaaDoorM02b
import Derived.Test.YtkjgcalkkfgmlaaDoorSq
namespace Go.Proofs.YtkjgcalkkfgmlaaDoor
open Go.ChangeShapes Go.WideShapes Go.ChangeAt Go.RowKit
set_option linter.unusedSimpArgs false

theorem floor_le (n : Int) (d k : Nat) (hd : 0 < d) : sgn (decide (n < 0)) (floorN n d k) * d ≤ n * k ∧ n * k < (sgn (decide (n < 0)) (floorN n d k) + 1) * d := by
  have hm := Nat.div_add_mod (n.natAbs * k) d
  have hl := Nat.mod_lt (n.natAbs * k) hd
  unfold floorN sgn
  by_cases h : n < 0
  · have e : n * k = -((n.natAbs * k : Nat) : Int) := by
      rw [Int.natCast_mul]
      have : (n.natAbs : Int) = -n := by omega
      rw [this, Int.neg_mul, Int.neg_neg]
    rw [decide_eq_true h, if_pos rfl, e]
    generalize n.natAbs * k = w at *
    by_cases h2 : w % d = 0
    · rw [if_neg (fun x => x.2 h2)]
      rw [h2, Nat.add_zero] at hm
      have hm' : (d : Int) * ((w / d : Nat) : Int) = (w : Int) := by rw [← Int.natCast_mul, hm]
      constructor <;> grind
    · rw [if_pos ⟨h, h2⟩]
      have hm' : (d : Int) * ((w / d : Nat) : Int) + ((w % d : Nat) : Int) = (w : Int) := by rw [← Int.natCast_mul, ← Int.natCast_add, hm]
      have e1 : ((w / d + 1 : Nat) : Int) = ((w / d : Nat) : Int) + 1 := by omega
      rw [e1]
      generalize ((w / d : Nat) : Int) = z at *
      have h3 : (0 : Int) < ((w % d : Nat) : Int) := by omega
      have h4 : ((w % d : Nat) : Int) < d := by omega
      generalize ((w % d : Nat) : Int) = r at *
      constructor <;> grind
  · have e : n * k = ((n.natAbs * k : Nat) : Int) := by
      rw [Int.natCast_mul]
      have : (n.natAbs : Int) = n := by omega
      rw [this]
    rw [decide_eq_false h, if_neg (by simp), e, if_neg (fun x => h x.1)]
    generalize n.natAbs * k = w at *
    have hm' : (d : Int) * ((w / d : Nat) : Int) + ((w % d : Nat) : Int) = (w : Int) := by rw [← Int.natCast_mul, ← Int.natCast_add, hm]
    generalize ((w / d : Nat) : Int) = z at *
    have h4 : ((w % d : Nat) : Int) < d := by omega
    have h3 : (0 : Int) ≤ ((w % d : Nat) : Int) := by omega
    generalize ((w % d : Nat) : Int) = r at *
    constructor <;> grind
theorem rat_floor {q : Rat} {r k : Int} (h1 : r * q.den ≤ q.num * k) (h2 : q.num * k < (r + 1) * q.den) : (r : Rat) ≤ q * k ∧ q * k < (r : Rat) + 1 := by
  have hd : (0 : Rat) < ((q.den : Int) : Rat) := by
    have : ((0 : Int) : Rat) < ((q.den : Int) : Rat) := Rat.intCast_lt_intCast.2 (by have := q.den_pos; omega)
    exact this
  have hq : q * ((q.den : Int) : Rat) = (q.num : Rat) := by
    have h := Rat.num_divInt_den q
    rw [Rat.divInt_eq_div] at h
    have h0 : ((q.den : Int) : Rat) ≠ 0 := fun x => by rw [x] at hd; exact absurd hd Rat.lt_irrefl
    generalize ((q.den : Int) : Rat) = d at *
    grind
  have a1 : ((r * (q.den : Int) : Int) : Rat) ≤ ((q.num * k : Int) : Rat) := Rat.intCast_le_intCast.2 h1
  have a2 : ((q.num * k : Int) : Rat) < (((r + 1) * (q.den : Int) : Int) : Rat) := Rat.intCast_lt_intCast.2 h2
  rw [Rat.intCast_mul, Rat.intCast_mul] at a1 a2
  rw [Rat.intCast_add] at a2
  rw [← hq] at a1 a2
  have one : ((1 : Int) : Rat) = 1 := rfl
  rw [one] at a2
  generalize ((q.den : Int) : Rat) = d at *
  have e1 : q * d * k = q * k * d := by grind
  rw [e1] at a1 a2
  constructor
  · refine Rat.not_lt.1 fun h => ?_
    have := Rat.mul_pos (show 0 < (r : Rat) - q * k by grind) hd
    grind
  · refine Rat.not_le.1 fun h => ?_
    have := Rat.mul_nonneg (show 0 ≤ q * k - ((r : Rat) + 1) by grind) (Rat.le_of_lt hd)
    grind
theorem divInt_one02 (x : Int) : Rat.divInt x 1 = (x : Rat) := by
  rw [Rat.divInt_eq_div]; have : ((1 : Int) : Rat) = 1 := rfl; grind
theorem floors_F (p : Int × Int) (k : Int) (hp : FP p) (hk : I64 k) : k_simulatorlaw02_FracFloors.F [.i p.1, .i p.2, .i k] = some [.b true] := by
  have a := ffloor_F p.1 p.2 k hp.1 hp.2
  have b := rfloor_F p.1 p.2 k hp.1 hp.2
  simp only [k_simulatorlaw02_FracFloors_F, tk_simulatorlaw02_FracFloors, k_frac_Floor_f, k_simulatorref02_Floor_f, k_simulatorlaw02_of_f, k_frac_Mul_f, k_frac_Of_f, k_frac_Add_f, k_frac_Cmp_f, k_simulatorlaw02_awake_f, awake02, a, b, of_F, Go.Proofs.YtkjgcalkkfgmlaaDoor.T.den, Ex.ev, U1.ev, U2.ev, U3.ev, gam, List.map, List.getD_cons_zero, List.getD_cons_succ, List.length, List.cons_append, List.nil_append, if_true, Sc.int_i, Sc.bool_b, Sc.list_l, Sc.str_s, Nat.reduceEqDiff, if_false, List.getElem?_cons_zero, List.getElem?_cons_succ]
  have hfo : floorQ p.1 p.2 k = [.i 0, .b false] ∨ (okF p.1 p.2 = true ∧ 0 ≤ k ∧ k ≤ 1000000000000 ∧ floorN p.1 p.2.toNat k.toNat ≤ maxN ∧ floorQ p.1 p.2 k = [.i (sgn (decide (p.1 < 0)) (floorN p.1 p.2.toNat k.toNat)), .b true]) := by
    by_cases h : okF p.1 p.2 = true ∧ 0 ≤ k ∧ k ≤ 1000000000000
    · rw [floorQ_in h]
      by_cases h2 : floorN p.1 p.2.toNat k.toNat ≤ maxN
      · rw [if_pos h2]; exact .inr ⟨h.1, h.2.1, h.2.2, h2, rfl⟩
      · rw [if_neg h2]; exact .inl rfl
    · rw [floorQ_out h]; exact .inl rfl
  have FPk : FP (k, 1) := ⟨hk, ⟨by simp only; omega, by simp only; omega⟩⟩
  have FP1 : FP (1, 1) := ⟨⟨by simp only; omega, by simp only; omega⟩, ⟨by simp only; omega, by simp only; omega⟩⟩
  have m := fmul_O hp FPk
  simp only at m
  rcases hfo with h | ⟨ho, hk1, hk2, hfl, h⟩
  · rw [h]
    have o := fOf_F 0 1 ⟨by omega, by omega⟩ ⟨by omega, by omega⟩
    obtain ⟨o1, o2, o3, eo⟩ : ∃ a b c, ofQ 0 1 = [.i a, .i b, .b c] := ofQ_form 0 1
    obtain ⟨x1, x2, x3, ex⟩ := enc_form (mulO (valP p) (valP (k, 1)))
    rw [ofQ_fit (by omega) (by unfold maxN; omega) (by unfold maxD; omega)] at o
    have e0 : (Rat.divInt 0 1).num = 0 := by decide
    have e1 : ((Rat.divInt 0 1).den : Int) = 1 := by decide
    rw [e0, e1] at o
    have ad := fadd_O (p := (0, 1)) (q := (1, 1)) ⟨⟨by simp only; omega, by simp only; omega⟩, ⟨by simp only; omega, by simp only; omega⟩⟩ FP1
    obtain ⟨z1, z2, z3, ez⟩ := enc_form (addO (valP (0, 1)) (valP (1, 1)))
    rw [ez] at ad
    rw [ex] at m
    simp only at ad
    simp only [m, o, ad, Int.natCast_nonneg, bne_iff_ne, beq_iff_eq, ne_eq, decide_eq_true_eq, Bool.and_eq_true, Bool.or_eq_true, Bool.not_eq_true', decide_eq_false_iff_not, beq_eq_false_iff_ne, bne_eq_false_iff_eq, not_true_eq_false, not_false_eq_true, if_true, if_false, reduceIte, and_true, true_and, and_false, false_and, or_false, false_or, or_true, true_or, List.getD_cons_zero, List.getD_cons_succ, List.length_cons, List.length_nil, List.cons_append, List.nil_append, Nat.reduceAdd, Nat.reduceEqDiff, reduceCtorEq, Bool.not_true, Bool.not_false, Bool.true_and, Bool.and_true, Bool.false_and, Bool.and_false, Bool.or_true, Bool.true_or, Bool.or_false, Bool.false_or, Bool.false_eq_true, Bool.true_eq_false, Sc.int_i, Sc.bool_b, Sc.list_l, Sc.str_s, Int.reduceEq, Int.reduceLT, Int.reduceLE, Int.reduceNe, decide_true, decide_false, decide_not, eq_self, Classical.not_not, List.getElem?_cons_zero, List.getElem?_cons_succ, beq_self_eq_true, bne_self_eq_false]
  · rw [h]
    have hr1 : (sgn (decide (p.1 < 0)) (floorN p.1 p.2.toNat k.toNat)).natAbs ≤ maxN := by rw [sgn_abs]; exact hfl
    obtain ⟨q, q1, q2, hq⟩ := okF_q ho
    obtain ⟨K, rfl⟩ : ∃ K : Nat, k = K := ⟨k.toNat, by omega⟩
    rw [q2, Int.toNat_natCast, Int.toNat_natCast] at hr1 h ⊢
    rw [q2] at m
    have fl := floor_le p.1 q.den K q.den_pos
    generalize sgn (decide (p.1 < 0)) (floorN p.1 q.den K) = r at *
    rw [q1] at fl
    obtain ⟨f1, f2⟩ := rat_floor fl.1 fl.2
    have hr2 : -4611686018427387904 ≤ r ∧ r ≤ 4611686018427387904 := by unfold maxN at hr1; omega
    have o := fOf_F r 1 ⟨by omega, by omega⟩ ⟨by omega, by omega⟩
    rw [ofQ_fit (by omega) hr1 (by unfold maxD; omega), divInt_one02] at o
    have on : ((r : Rat)).num = r := rfl
    have od : (((r : Rat)).den : Int) = 1 := rfl
    rw [on, od] at o
    have ad := fadd_O (p := (r, 1)) (q := (1, 1)) ⟨⟨by simp only; omega, by simp only; omega⟩, ⟨by simp only; omega, by simp only; omega⟩⟩ FP1
    have vr : valP (r, 1) = some (r : Rat) := by rw [show (r, (1 : Int)) = pr (r : Rat) from rfl, valP_pr (by rw [fitQ_iff]; exact ⟨hr1, by show 1 ≤ maxD; unfold maxD; omega⟩)]
    have v1 : valP (1, 1) = some (1 : Rat) := by rw [show ((1 : Int), (1 : Int)) = pr (1 : Rat) from rfl, valP_pr (by decide)]
    have vk : valP ((K : Int), 1) = some ((K : Int) : Rat) := by rw [show ((K : Int), (1 : Int)) = pr ((K : Int) : Rat) from rfl, valP_pr (by rw [fitQ_iff]; exact ⟨by show ((K : Int)).natAbs ≤ maxN; unfold maxN; omega, by show 1 ≤ maxD; unfold maxD; omega⟩)]
    have vp : valP p = some q := by rw [show p = pr q from Prod.ext q1 q2, valP_pr hq]
    rw [vr, v1] at ad
    rw [vp, vk] at m
    simp only [addO, mulO] at ad m
    have fr : fitQ (r : Rat) = true := by rw [fitQ_iff]; exact ⟨hr1, by show 1 ≤ maxD; unfold maxD; omega⟩
    by_cases hx : fitQ (q * ((K : Int) : Rat)) = true
    · rw [fitO_yes hx] at m
      by_cases hz : fitQ ((r : Rat) + 1) = true
      · rw [fitO_yes hz] at ad
        simp only [enc] at m ad
        obtain ⟨i1, i2⟩ := fit_i64 hx
        obtain ⟨i3, i4⟩ := fit_i64 hz
        have c1 := cmp_F r 1 (q * ((K : Int) : Rat)).num (q * ((K : Int) : Rat)).den ⟨by omega, by omega⟩ ⟨by omega, by omega⟩ i1 i2
        have c2 := cmp_F (q * ((K : Int) : Rat)).num (q * ((K : Int) : Rat)).den ((r : Rat) + 1).num ((r : Rat) + 1).den i1 i2 i3 i4
        have ur : usualQ r 1 = (r : Rat) := usual_int hr1
        rw [ur, usual_ok hx] at c1
        rw [usual_ok hx, usual_ok hz] at c2
        have g1 := cmpQ_le.2 f1
        have g2 := cmpQ_lt.2 f2
        simp only [m, o, ad, c1, c2, g1, g2, Int.natCast_nonneg, bne_iff_ne, beq_iff_eq, ne_eq, decide_eq_true_eq, Bool.and_eq_true, Bool.or_eq_true, Bool.not_eq_true', decide_eq_false_iff_not, beq_eq_false_iff_ne, bne_eq_false_iff_eq, not_true_eq_false, not_false_eq_true, if_true, if_false, reduceIte, and_true, true_and, and_false, false_and, or_false, false_or, or_true, true_or, List.getD_cons_zero, List.getD_cons_succ, List.length_cons, List.length_nil, List.cons_append, List.nil_append, Nat.reduceAdd, Nat.reduceEqDiff, reduceCtorEq, Bool.not_true, Bool.not_false, Bool.true_and, Bool.and_true, Bool.false_and, Bool.and_false, Bool.or_true, Bool.true_or, Bool.or_false, Bool.false_or, Bool.false_eq_true, Bool.true_eq_false, Sc.int_i, Sc.bool_b, Sc.list_l, Sc.str_s, Int.reduceEq, Int.reduceLT, Int.reduceLE, Int.reduceNe, decide_true, decide_false, decide_not, eq_self, Classical.not_not, List.getElem?_cons_zero, List.getElem?_cons_succ, beq_self_eq_true, bne_self_eq_false]
      · have : fitO ((r : Rat) + 1) = none := if_neg hz
        rw [this] at ad
        simp only [enc] at m ad
        simp only [m, o, ad, Int.natCast_nonneg, bne_iff_ne, beq_iff_eq, ne_eq, decide_eq_true_eq, Bool.and_eq_true, Bool.or_eq_true, Bool.not_eq_true', decide_eq_false_iff_not, beq_eq_false_iff_ne, bne_eq_false_iff_eq, not_true_eq_false, not_false_eq_true, if_true, if_false, reduceIte, and_true, true_and, and_false, false_and, or_false, false_or, or_true, true_or, List.getD_cons_zero, List.getD_cons_succ, List.length_cons, List.length_nil, List.cons_append, List.nil_append, Nat.reduceAdd, Nat.reduceEqDiff, reduceCtorEq, Bool.not_true, Bool.not_false, Bool.true_and, Bool.and_true, Bool.false_and, Bool.and_false, Bool.or_true, Bool.true_or, Bool.or_false, Bool.false_or, Bool.false_eq_true, Bool.true_eq_false, Sc.int_i, Sc.bool_b, Sc.list_l, Sc.str_s, Int.reduceEq, Int.reduceLT, Int.reduceLE, Int.reduceNe, decide_true, decide_false, decide_not, eq_self, Classical.not_not, List.getElem?_cons_zero, List.getElem?_cons_succ, beq_self_eq_true, bne_self_eq_false]
    · have : fitO (q * ((K : Int) : Rat)) = none := if_neg hx
      rw [this] at m
      obtain ⟨z1, z2, z3, ez⟩ := enc_form (fitO ((r : Rat) + 1))
      rw [ez] at ad
      simp only [enc] at m
      simp only [m, o, ad, Int.natCast_nonneg, bne_iff_ne, beq_iff_eq, ne_eq, decide_eq_true_eq, Bool.and_eq_true, Bool.or_eq_true, Bool.not_eq_true', decide_eq_false_iff_not, beq_eq_false_iff_ne, bne_eq_false_iff_eq, not_true_eq_false, not_false_eq_true, if_true, if_false, reduceIte, and_true, true_and, and_false, false_and, or_false, false_or, or_true, true_or, List.getD_cons_zero, List.getD_cons_succ, List.length_cons, List.length_nil, List.cons_append, List.nil_append, Nat.reduceAdd, Nat.reduceEqDiff, reduceCtorEq, Bool.not_true, Bool.not_false, Bool.true_and, Bool.and_true, Bool.false_and, Bool.and_false, Bool.or_true, Bool.true_or, Bool.or_false, Bool.false_or, Bool.false_eq_true, Bool.true_eq_false, Sc.int_i, Sc.bool_b, Sc.list_l, Sc.str_s, Int.reduceEq, Int.reduceLT, Int.reduceLE, Int.reduceNe, decide_true, decide_false, decide_not, eq_self, Classical.not_not, List.getElem?_cons_zero, List.getElem?_cons_succ, beq_self_eq_true, bne_self_eq_false]

namespace fracFloors
theorem own : ownKnob Tryd.prog.godebug = none := by kernel_rfl
theorem laidOut : laidOutB Tryd.prog = true := by kernel_rfl
theorem door_met (os : Os) (args : Array Value) : laidMetH Tryd.prog Rows.fracFloorsRow.laid ((World.doorLaid Tryd.prog 24 os).forCall (fun _ _ => 0) ⟨#[], args, []⟩).memory :=
  laidMetH_of_parts3 (fuel := 8) (laidMet_of_run' 8 (by kernel_rfl) (by kernel_rfl)) (by kernel_rfl) (by kernel_rfl)
set_option maxRecDepth 100000 in
theorem lifted (os : Os) (started : os.Started) (H : Type) (enc : TypeId × Value → H) :
    ReturnsInHanded {} Tryd.checked os 7 .any (fun w args => (Rows.fracFloorsSpec.pre enc Tryd.prog Tryd.f7 [] false w args ∧ laidMetH Tryd.prog Rows.fracFloorsRow.laid w) ∧ sizedMet enc Tryd.prog Tryd.f7 (OpenSpec.ofChange Rows.fracFloorsSpec) false w args) (Rows.fracFloorsSpec.post enc Tryd.prog Tryd.f7 false true false false) := by
  refine returnsInHanded_of_change_and (C := Tryd.checked) (X := fun w _ => laidMetH Tryd.prog Rows.fracFloorsRow.laid w) (fun _ _ _ hh h => h.of_heap hh) own started (by kernel_rfl) Tryd.func7
    (ChangeSpec.witness_shaped (enc := enc) (C := Tryd.checked) (os := os) (X := fun w _ => laidMetH Tryd.prog Rows.fracFloorsRow.laid w) false (World.doorLaid Tryd.prog 24 os) #[.agg #[.int .i64 0, .int .i64 0], .int .i64 0] 8 rfl (World.shaped_of_RefB (by kernel_rfl) (by kernel_rfl)) (by kernel_rfl) (by kernel_rfl) (by kernel_rfl) (door_met os _)) ?_
  intro W base args ds gs before hval0 hW _ _ hL _
  have hval : ∀ (j : Nat) t v, Tryd.f7.params[j]? = some t → args[j]? = some v → Value.okWide Tryd.prog W .any base t v := hval0
  have hW' := hW
  obtain ⟨p, q, hA0, hV, rfl, hfz, hnd⟩ := hW
  have hA : DataW.TrodAll enc Tryd.prog W 0 (fun _ => true) true Tryd.f7.params.toList args.toList ds p := hA0
  rw [Tryd.params7] at hA hval
  obtain ⟨v0, vs0, d0, ds0, p0, q0, hargs, rfl, rfl, h0, r0⟩ := trodAll_cons hA
  obtain ⟨v1, vs1, d1, ds1, p1, q1, rfl, rfl, rfl, h1, r1⟩ := trodAll_cons r0
  obtain ⟨rfl, rfl, rfl⟩ := trodAll_nil r1
  obtain rfl : args = #[v0, v1] := by cases args; simp_all
  obtain ⟨rfl, rfl⟩ := trodVars_none hV
  have k0 := h0
  have lt0 : ∀ x ∈ p0, x.block < W.heap.size := by obtain ⟨m, hm⟩ := k0; exact DataW.trod_lt m _ _ _ hm
  have ok0 := hval 0 23 v0 rfl rfl
  have k1 := h1
  have lt1 : ∀ x ∈ p1, x.block < W.heap.size := by obtain ⟨m, hm⟩ := k1; exact DataW.trod_lt m _ _ _ hm
  have ok1 := hval 1 3 v1 rfl rfl
  have hG := glob_of_laid hL
  obtain ⟨ys0, f0, g0⟩ := open_g (ks := [.int .i64, .int .i64]) Tryd.underlying23 (by kernel_rfl) ok0 h0
  obtain ⟨n0, r0, rfl, wn0, f0⟩ := fitsL_int f0
  obtain ⟨m0, s0, rfl, wm0, f0⟩ := fitsL_int f0
  obtain rfl := fitsL_nil f0
  obtain ⟨y1, ⟨k, rfl, wk⟩, g1⟩ := open_a (k := .int .i64) (by kernel_rfl) ok1 h1
  clear hA0 hval0
  refine (law_call k_simulatorlaw02_FracFloors (Tryd.call7 _ _) (vs := [v0, v1]) (args2 g0 g1) (floors_F (n0, m0) k ⟨wf_i64 wn0, wf_i64 wm0⟩ (wf_i64 wk)) rfl hG).mono fun e W' ⟨he, bel⟩ => ?_
  subst he
  exact ⟨_, rfl, _, _, _, [], _, [], hW', trodAll_mk1 (shut_bool Tryd.underlying4 _), (trodAll_cons_mk (Below.trod laidOut (by kernel_rfl) (of_decide_eq_true (by kernel_rfl)) k0 bel lt0) (trodAll_cons_mk (Below.trod laidOut (by kernel_rfl) (of_decide_eq_true (by kernel_rfl)) k1 bel lt1) trodAll_mk0)), rfl, bel.frame _, fun h => by cases h⟩
theorem over : Rows.fracFloorsRow.holds Tryd.pinned (OpenSpec.ofChange Rows.fracFloorsSpec) :=
  OpenClaim.holds_of_wide 7 Tryd.f7 rfl rfl rfl rfl rfl rfl rfl ⟨rfl, rfl, rfl, rfl, rfl⟩ rfl rfl rfl rfl rfl (by kernel_rfl) Tryd.func7 (by kernel_rfl)
    (of_decide_eq_true (by kernel_rfl)) (by unfold Func.isWrapper; first | (rw [if_pos (by decide +kernel)]; kernel_rfl) | (rw [if_neg (by decide +kernel)]; exact ⟨rfl, rfl⟩))
    (fun os started H enc _ => lifted os started H enc)
theorem proved : Rows.FracFloorsCardSaid :=
  Claim7.holds_tied_plain_at .later [] [.data, .data, .data] true (true, "d42c871acdf449387827df040e187115335dd90a8baa5e29e5756e1790b7e0a8") false over (fun _ h => by cases h) (by kernel_rfl) (fun _ h => by cases h) fracFloors_row_tie rfl ⟨rfl, rfl⟩ (by kernel_rfl) rfl
    (fun f fn hf hfn => by
      obtain rfl : f = 7 := Option.some.inj ((show Tryd.prog.funcNamed Rows.fracFloorsRow.func = some 7 by kernel_rfl).symm.trans hf) |>.symm
      obtain rfl : fn = Tryd.f7 := (Option.some.inj (Tryd.func7.symm.trans hfn)).symm
      refine ⟨by kernel_rfl, fun j t ht => ?_⟩
      have hall : (Tryd.f7.params.toList.all fun t => !Tryd.prog.wantsStandIn t) = true := by kernel_rfl
      have hm : t ∈ Tryd.f7.params.toList := Array.mem_toList_iff.2 (Array.mem_of_getElem? ht)
      exact (by simpa using List.all_eq_true.1 hall t hm : Tryd.prog.wantsStandIn t = false))
    (by kernel_rfl)
end fracFloors

end Go.Proofs.YtkjgcalkkfgmlaaDoor
