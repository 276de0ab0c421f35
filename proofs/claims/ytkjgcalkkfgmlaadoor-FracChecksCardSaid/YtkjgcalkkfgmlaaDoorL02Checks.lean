/-
  FracChecks: Valid and Text return what the chapter says for all fractions, and two valid ones with the same text are equal. No condition.
-/
import Derived.Test.YtkjgcalkkfgmlaaDoorRows
import Derived.Test.YtkjgcalkkfgmlaaDoorCards
import Derived.Test.YtkjgcalkkfgmlaaDoorTie
import Derived.Test.YtkjgcalkkfgmlaaDoorGlR
import Derived.SevenTiedAt
import Derived.LaidMore
import Derived.OpenShut
import Derived.Stop.Joined
import Derived.Test.YtkjgcalkkfgmlaaDoorOpnR
import Derived.Test.YtkjgcalkkfgmlaaDoorA02
import Derived.Test.YtkjgcalkkfgmlaaDoorFlF
namespace Go.Proofs.YtkjgcalkkfgmlaaDoor
open Go.ChangeShapes Go.WideShapes Go.ChangeAt Go.RowKit
set_option linter.unusedSimpArgs false

/-- The number that digits spell. -/
def spell (l : List UInt8) : Nat := l.foldl (fun a c => 10 * a + (c.toNat - 48)) 0
theorem dig_toNat {k : Nat} (h : k < 10) : (UInt8.ofNat (48 + k)).toNat = 48 + k := by
  rw [UInt8.toNat_ofNat']; omega
theorem spell_dec (u : Nat) : spell (Lib.decDigits u) = u := by
  induction u using Nat.strongRecOn with
  | _ u ih =>
    by_cases h : u < 10
    · rw [Lib.decDigits_one h]
      show 10 * 0 + ((UInt8.ofNat (48 + u)).toNat - 48) = u
      rw [dig_toNat h]; omega
    · rw [Lib.decDigits, dif_neg h]
      unfold spell at ih ⊢
      rw [List.foldl_append, ih (u / 10) (by omega)]
      show 10 * (u / 10) + ((UInt8.ofNat (48 + u % 10)).toNat - 48) = u
      rw [dig_toNat (by omega)]; omega
theorem dec_digit (u : Nat) : ∀ c ∈ Lib.decDigits u, 48 ≤ c.toNat := by
  induction u using Nat.strongRecOn with
  | _ u ih =>
    intro c hc
    by_cases h : u < 10
    · rw [Lib.decDigits_one h, List.mem_singleton] at hc
      rw [hc, dig_toNat h]; omega
    · rw [Lib.decDigits, dif_neg h] at hc
      rcases List.mem_append.1 hc with hc | hc
      · exact ih (u / 10) (by omega) c hc
      · rw [List.mem_singleton.1 hc, dig_toNat (by omega)]; omega
theorem dec_inj {u v : Nat} (h : Lib.decDigits u = Lib.decDigits v) : u = v := by rw [← spell_dec u, h, spell_dec]
theorem itoa_inj {n m : Int} (h : Lib.itoa n = Lib.itoa m) : n = m := by
  by_cases h1 : n < 0
  · rw [itoa_neg' n h1] at h
    by_cases h2 : m < 0
    · rw [itoa_neg' m h2] at h
      injection h with _ h
      have := dec_inj h; omega
    · rw [itoa_pos' m h2] at h
      have := dec_digit m.natAbs 45 (by rw [← h]; exact List.mem_cons_self ..)
      simp at this
  · rw [itoa_pos' n h1] at h
    by_cases h2 : m < 0
    · rw [itoa_neg' m h2] at h
      have := dec_digit n.natAbs 45 (by rw [h]; exact List.mem_cons_self ..)
      simp at this
    · rw [itoa_pos' m h2] at h
      have := dec_inj h; omega
theorem itoa_no47 (n : Int) : ∀ c ∈ Lib.itoa n, (c != 47) = true := by
  intro c hc
  have h45 : c = 45 ∨ 48 ≤ c.toNat := by
    by_cases h : n < 0
    · rw [itoa_neg' n h] at hc
      rcases List.mem_cons.1 hc with h | h
      · exact .inl h
      · exact .inr (dec_digit _ c h)
    · rw [itoa_pos' n h] at hc; exact .inr (dec_digit _ c hc)
  rw [bne_iff_ne]
  rintro rfl
  rcases h45 with h | h
  · cases h
  · simp at h
theorem cut47 (n : Int) (t : List UInt8) (ht : t = [] ∨ ∃ r, t = 47 :: r) : (Lib.itoa n ++ t).takeWhile (· != 47) = Lib.itoa n := by
  rw [List.takeWhile_append_of_pos (itoa_no47 n)]
  rcases ht with rfl | ⟨r, rfl⟩
  · simp
  · simp
theorem text_inj {n d m e : Int} (h1 : okF n d = true) (h2 : okF m e = true) (h : textQ n d = textQ m e) : n = m ∧ d = e := by
  unfold textQ at h
  rw [if_pos h1, if_pos h2] at h
  have f1 : ∀ d : Int, (if d = 1 then [] else (47 : UInt8) :: Lib.itoa d) = [] ∨ ∃ r, (if d = 1 then [] else (47 : UInt8) :: Lib.itoa d) = 47 :: r := fun d => by
    split
    · exact .inl rfl
    · exact .inr ⟨_, rfl⟩
  have c := congrArg (List.takeWhile (· != 47)) h
  rw [cut47 n _ (f1 d), cut47 m _ (f1 e)] at c
  have hn := itoa_inj c
  subst hn
  refine ⟨rfl, ?_⟩
  have h := List.append_cancel_left h
  by_cases g1 : d = 1
  · by_cases g2 : e = 1
    · rw [g1, g2]
    · rw [if_pos g1, if_neg g2] at h; cases h
  · by_cases g2 : e = 1
    · rw [if_neg g1, if_pos g2] at h; cases h
    · rw [if_neg g1, if_neg g2] at h
      injection h with _ h
      exact itoa_inj h
theorem seq_same (l : List UInt8) : ((ByteArray.mk l.toArray).toList == (ByteArray.mk l.toArray).toList) = true := beq_self_eq_true _
theorem seq_bytes (a b : List UInt8) : ((ByteArray.mk a.toArray).toList == (ByteArray.mk b.toArray).toList) = decide (a = b) := by
  rw [ByteArray.toList_mk, ByteArray.toList_mk]
  rw [Bool.eq_iff_iff, beq_iff_eq, decide_eq_true_eq]
theorem checks_F (p q : Int × Int) (hp : FP p) (hq : FP q) : k_simulatorlaw02_FracChecks.F [.i p.1, .i p.2, .i q.1, .i q.2] = some [.b true] := by
  have a := valid_F p.1 p.2 hp.1 hp.2
  have b := rValid_F p.1 p.2 hp.1 hp.2
  have c := valid_F q.1 q.2 hq.1 hq.2
  have d := fText_F p.1 p.2 hp.1 hp.2
  have e := rText_F p.1 p.2 hp.1 hp.2
  have f := fText_F q.1 q.2 hq.1 hq.2
  have g := rText_F q.1 q.2 hq.1 hq.2
  have s1 := seq_same (textQ p.1 p.2)
  have s2 := seq_same (textQ q.1 q.2)
  have s3 := seq_bytes (textQ p.1 p.2) (textQ q.1 q.2)
  have key : okF p.1 p.2 = true → okF q.1 q.2 = true → decide (textQ p.1 p.2 = textQ q.1 q.2) = (p.1 == q.1 && p.2 == q.2) := by
    intro h1 h2
    rw [Bool.eq_iff_iff, decide_eq_true_eq, Bool.and_eq_true, beq_iff_eq, beq_iff_eq]
    exact ⟨fun h => text_inj h1 h2 h, fun h => by rw [h.1, h.2]⟩
  unfold bS at d e f g
  simp only [k_simulatorlaw02_FracChecks_F, tk_simulatorlaw02_FracChecks, k_frac_Valid_f, k_simulatorref02_Valid_f, k_frac_Text_f, k_simulatorref02_Text_f, k_simulatorlaw02_awake_f, awake02, a, b, c, d, e, f, g, Go.Proofs.YtkjgcalkkfgmlaaDoor.T.den, Ex.ev, U1.ev, U2.ev, U3.ev, gam, List.map, List.getD_cons_zero, List.getD_cons_succ, List.length, List.cons_append, List.nil_append, if_true, Sc.int_i, Sc.bool_b, Sc.list_l, Sc.str_s, Nat.reduceEqDiff, if_false, List.getElem?_cons_zero, List.getElem?_cons_succ]
  rw [s1, s2, s3]
  cases h1 : okF p.1 p.2
  · simp only [Int.natCast_nonneg, bne_iff_ne, beq_iff_eq, ne_eq, decide_eq_true_eq, Bool.and_eq_true, Bool.or_eq_true, Bool.not_eq_true', decide_eq_false_iff_not, beq_eq_false_iff_ne, bne_eq_false_iff_eq, not_true_eq_false, not_false_eq_true, if_true, if_false, reduceIte, and_true, true_and, and_false, false_and, or_false, false_or, or_true, true_or, List.getD_cons_zero, List.getD_cons_succ, List.length_cons, List.length_nil, List.cons_append, List.nil_append, Nat.reduceAdd, Nat.reduceEqDiff, reduceCtorEq, Bool.not_true, Bool.not_false, Bool.true_and, Bool.and_true, Bool.false_and, Bool.and_false, Bool.or_true, Bool.true_or, Bool.or_false, Bool.false_or, Bool.false_eq_true, Bool.true_eq_false, Sc.int_i, Sc.bool_b, Sc.list_l, Sc.str_s, Int.reduceEq, Int.reduceLT, Int.reduceLE, Int.reduceNe, decide_true, decide_false, decide_not, eq_self, Classical.not_not, List.getElem?_cons_zero, List.getElem?_cons_succ, beq_self_eq_true, bne_self_eq_false]
  · cases h2 : okF q.1 q.2
    · simp only [Int.natCast_nonneg, bne_iff_ne, beq_iff_eq, ne_eq, decide_eq_true_eq, Bool.and_eq_true, Bool.or_eq_true, Bool.not_eq_true', decide_eq_false_iff_not, beq_eq_false_iff_ne, bne_eq_false_iff_eq, not_true_eq_false, not_false_eq_true, if_true, if_false, reduceIte, and_true, true_and, and_false, false_and, or_false, false_or, or_true, true_or, List.getD_cons_zero, List.getD_cons_succ, List.length_cons, List.length_nil, List.cons_append, List.nil_append, Nat.reduceAdd, Nat.reduceEqDiff, reduceCtorEq, Bool.not_true, Bool.not_false, Bool.true_and, Bool.and_true, Bool.false_and, Bool.and_false, Bool.or_true, Bool.true_or, Bool.or_false, Bool.false_or, Bool.false_eq_true, Bool.true_eq_false, Sc.int_i, Sc.bool_b, Sc.list_l, Sc.str_s, Int.reduceEq, Int.reduceLT, Int.reduceLE, Int.reduceNe, decide_true, decide_false, decide_not, eq_self, Classical.not_not, List.getElem?_cons_zero, List.getElem?_cons_succ, beq_self_eq_true, bne_self_eq_false]
    · have kz : (p.1 == q.1 && (p.2 == q.2 && true)) = decide (textQ p.1 p.2 = textQ q.1 q.2) := by rw [Bool.and_true]; exact (key h1 h2).symm
      rw [kz]
      generalize decide (textQ p.1 p.2 = textQ q.1 q.2) = z
      cases z <;> simp only [Int.natCast_nonneg, bne_iff_ne, beq_iff_eq, ne_eq, decide_eq_true_eq, Bool.and_eq_true, Bool.or_eq_true, Bool.not_eq_true', decide_eq_false_iff_not, beq_eq_false_iff_ne, bne_eq_false_iff_eq, not_true_eq_false, not_false_eq_true, if_true, if_false, reduceIte, and_true, true_and, and_false, false_and, or_false, false_or, or_true, true_or, List.getD_cons_zero, List.getD_cons_succ, List.length_cons, List.length_nil, List.cons_append, List.nil_append, Nat.reduceAdd, Nat.reduceEqDiff, reduceCtorEq, Bool.not_true, Bool.not_false, Bool.true_and, Bool.and_true, Bool.false_and, Bool.and_false, Bool.or_true, Bool.true_or, Bool.or_false, Bool.false_or, Bool.false_eq_true, Bool.true_eq_false, Sc.int_i, Sc.bool_b, Sc.list_l, Sc.str_s, Int.reduceEq, Int.reduceLT, Int.reduceLE, Int.reduceNe, decide_true, decide_false, decide_not, eq_self, Classical.not_not, List.getElem?_cons_zero, List.getElem?_cons_succ, beq_self_eq_true, bne_self_eq_false]

namespace fracChecks
theorem own : ownKnob Tryd.prog.godebug = none := by kernel_rfl
theorem laidOut : laidOutB Tryd.prog = true := by kernel_rfl
theorem door_met (os : Os) (args : Array Value) : laidMetH Tryd.prog Rows.fracChecksRow.laid ((World.doorLaid Tryd.prog 24 os).forCall (fun _ _ => 0) ⟨#[], args, []⟩).memory :=
  laidMetH_of_parts3 (fuel := 8) (laidMet_of_run' 8 (by kernel_rfl) (by kernel_rfl)) (by kernel_rfl) (by kernel_rfl)
set_option maxRecDepth 100000 in
theorem lifted (os : Os) (started : os.Started) (H : Type) (enc : TypeId × Value → H) :
    ReturnsInHanded {} Tryd.checked os 4 .any (fun w args => (Rows.fracChecksSpec.pre enc Tryd.prog Tryd.f4 [] false w args ∧ laidMetH Tryd.prog Rows.fracChecksRow.laid w) ∧ sizedMet enc Tryd.prog Tryd.f4 (OpenSpec.ofChange Rows.fracChecksSpec) false w args) (Rows.fracChecksSpec.post enc Tryd.prog Tryd.f4 false true false false) := by
  refine returnsInHanded_of_change_and (C := Tryd.checked) (X := fun w _ => laidMetH Tryd.prog Rows.fracChecksRow.laid w) (fun _ _ _ hh h => h.of_heap hh) own started (by kernel_rfl) Tryd.func4
    (ChangeSpec.witness_shaped (enc := enc) (C := Tryd.checked) (os := os) (X := fun w _ => laidMetH Tryd.prog Rows.fracChecksRow.laid w) false (World.doorLaid Tryd.prog 24 os) #[.agg #[.int .i64 0, .int .i64 0], .agg #[.int .i64 0, .int .i64 0]] 8 rfl (World.shaped_of_RefB (by kernel_rfl) (by kernel_rfl)) (by kernel_rfl) (by kernel_rfl) (by kernel_rfl) (door_met os _)) ?_
  intro W base args ds gs before hval0 hW _ _ hL _
  have hval : ∀ (j : Nat) t v, Tryd.f4.params[j]? = some t → args[j]? = some v → Value.okWide Tryd.prog W .any base t v := hval0
  have hW' := hW
  obtain ⟨p, q, hA0, hV, rfl, hfz, hnd⟩ := hW
  have hA : DataW.TrodAll enc Tryd.prog W 0 (fun _ => true) true Tryd.f4.params.toList args.toList ds p := hA0
  rw [Tryd.params4] at hA hval
  obtain ⟨v0, vs0, d0, ds0, p0, q0, hargs, rfl, rfl, h0, r0⟩ := trodAll_cons hA
  obtain ⟨v1, vs1, d1, ds1, p1, q1, rfl, rfl, rfl, h1, r1⟩ := trodAll_cons r0
  obtain ⟨rfl, rfl, rfl⟩ := trodAll_nil r1
  obtain rfl : args = #[v0, v1] := by cases args; simp_all
  obtain ⟨rfl, rfl⟩ := trodVars_none hV
  have k0 := h0
  have lt0 : ∀ x ∈ p0, x.block < W.heap.size := by obtain ⟨m, hm⟩ := k0; exact DataW.trod_lt m _ _ _ hm
  have ok0 := hval 0 23 v0 rfl rfl
  have k1 := h1
  have lt1 : ∀ x ∈ p1, x.block < W.heap.size := by obtain ⟨m, hm⟩ := k1; exact DataW.trod_lt m _ _ _ hm
  have ok1 := hval 1 23 v1 rfl rfl
  have hG := glob_of_laid hL
  obtain ⟨ys0, f0, g0⟩ := open_g (ks := [.int .i64, .int .i64]) Tryd.underlying23 (by kernel_rfl) ok0 h0
  obtain ⟨n0, r0, rfl, wn0, f0⟩ := fitsL_int f0
  obtain ⟨m0, s0, rfl, wm0, f0⟩ := fitsL_int f0
  obtain rfl := fitsL_nil f0
  obtain ⟨ys1, f1, g1⟩ := open_g (ks := [.int .i64, .int .i64]) Tryd.underlying23 (by kernel_rfl) ok1 h1
  obtain ⟨n1, r1, rfl, wn1, f1⟩ := fitsL_int f1
  obtain ⟨m1, s1, rfl, wm1, f1⟩ := fitsL_int f1
  obtain rfl := fitsL_nil f1
  clear hA0 hval0
  refine (law_call k_simulatorlaw02_FracChecks (Tryd.call4 _ _) (vs := [v0, v1]) (args2 g0 g1) (checks_F (n0, m0) (n1, m1) ⟨wf_i64 wn0, wf_i64 wm0⟩ ⟨wf_i64 wn1, wf_i64 wm1⟩) rfl hG).mono fun e W' ⟨he, bel⟩ => ?_
  subst he
  exact ⟨_, rfl, _, _, _, [], _, [], hW', trodAll_mk1 (shut_bool Tryd.underlying4 _), (trodAll_cons_mk (Below.trod laidOut (by kernel_rfl) (of_decide_eq_true (by kernel_rfl)) k0 bel lt0) (trodAll_cons_mk (Below.trod laidOut (by kernel_rfl) (of_decide_eq_true (by kernel_rfl)) k1 bel lt1) trodAll_mk0)), rfl, bel.frame _, fun h => by cases h⟩
theorem over : Rows.fracChecksRow.holds Tryd.pinned (OpenSpec.ofChange Rows.fracChecksSpec) :=
  OpenClaim.holds_of_wide 4 Tryd.f4 rfl rfl rfl rfl rfl rfl rfl ⟨rfl, rfl, rfl, rfl, rfl⟩ rfl rfl rfl rfl rfl (by kernel_rfl) Tryd.func4 (by kernel_rfl)
    (of_decide_eq_true (by kernel_rfl)) (by unfold Func.isWrapper; first | (rw [if_pos (by decide +kernel)]; kernel_rfl) | (rw [if_neg (by decide +kernel)]; exact ⟨rfl, rfl⟩))
    (fun os started H enc _ => lifted os started H enc)
theorem proved : Rows.FracChecksCardSaid :=
  Claim7.holds_tied_plain_at .later [] [.data, .data, .data] true (true, "d42c871acdf449387827df040e187115335dd90a8baa5e29e5756e1790b7e0a8") false over (fun _ h => by cases h) (by kernel_rfl) (fun _ h => by cases h) fracChecks_row_tie rfl ⟨rfl, rfl⟩ (by kernel_rfl) rfl
    (fun f fn hf hfn => by
      obtain rfl : f = 4 := Option.some.inj ((show Tryd.prog.funcNamed Rows.fracChecksRow.func = some 4 by kernel_rfl).symm.trans hf) |>.symm
      obtain rfl : fn = Tryd.f4 := (Option.some.inj (Tryd.func4.symm.trans hfn)).symm
      refine ⟨by kernel_rfl, fun j t ht => ?_⟩
      have hall : (Tryd.f4.params.toList.all fun t => !Tryd.prog.wantsStandIn t) = true := by kernel_rfl
      have hm : t ∈ Tryd.f4.params.toList := Array.mem_toList_iff.2 (Array.mem_of_getElem? ht)
      exact (by simpa using List.all_eq_true.1 hall t hm : Tryd.prog.wantsStandIn t = false))
    (by kernel_rfl)
end fracChecks

end Go.Proofs.YtkjgcalkkfgmlaaDoor
