/-
  StreamSplits: substreams of a valid stream have different keys exactly if their numbers are different, and do not depend on the position. No condition.
-/
import Derived.Test.YtjfhhlfjfcgcmaaL03Awake
import Derived.Test.YtjfhhlfjfcgcmaaAlloc
namespace Go.Proofs.Ytjfhhlfjfcgcmaa
open Go.ChangeShapes Go.WideShapes Go.ChangeAt Go.RowKit

theorem ok_skip {p n : Int} (h : okB p = true) : okB (skipP p n) = true := by
  have h0 := okB_lo h
  have h1 := okB_hi h
  unfold skipP
  by_cases hn : 0 ≤ n
  · simp only [h, hn, decide_true, Bool.and_true, cond_true]
    exact okB_of (by omega) (by omega)
  · simp [h, hn]

set_option maxHeartbeats 2000000 in
theorem splits_no {k p i j : Int} {b : Bool} (h : okB p = false) : Pure Try.prog 9 #[.agg #[.int .u64 k, .int .i64 p, .bool b], .int .i64 i, .int .i64 j] (.bool true) := by
  intro w0
  have hst := St.start w0
  have e1 := chk_no h
  go_enter Try.func9, Try.ntmps9
  go_wp2_with (first | (refine own_load hst rfl rfl rfl rfl ?_) | (refine own_load1 hst rfl rfl rfl rfl ?_) | (refine own_storeA hst rfl rfl rfl rfl rfl rfl rfl rfl ?_; clear hst; intro w hst) | (refine own_alloc hst rfl rfl ?_; clear hst; intro b w hst) | (refine own_boxA hst rfl rfl rfl ?_; clear hst; intro b w hst) | (go_at_call 15; refine (check_f _).mono ?_; rintro e w ⟨rfl, hb⟩; have hst := hst.call hb; clear hb) | (go_at_call 12; refine (awake_f _).mono ?_; rintro e w ⟨rfl, hb⟩; have hst := hst.call hb; clear hb))
  go_ret
  exact ⟨rfl, hst.below⟩

set_option maxHeartbeats 2000000 in
theorem splits_yes {k p i j s q : Int} {b : Bool} (hc : chk p = 0) (e2 : splK k p i = s) (e3 : splK k p j = q) (e4 : splP p = 0) (e5 : splK k (skipP p i) j = q) (e6 : splP (skipP p i) = 0) (e7 : (i == j) = (s == q)) : Pure Try.prog 9 #[.agg #[.int .u64 k, .int .i64 p, .bool b], .int .i64 i, .int .i64 j] (.bool true) := by
  intro w0
  have hst := St.start w0
  have e7 := Lib.hid e7
  go_enter Try.func9, Try.ntmps9
  go_wp2_with (first | (refine own_load hst rfl rfl rfl rfl ?_) | (refine own_load1 hst rfl rfl rfl rfl ?_) | (refine own_storeA hst rfl rfl rfl rfl rfl rfl rfl rfl ?_; clear hst; intro w hst) | (refine own_alloc hst rfl rfl ?_; clear hst; intro b w hst) | (refine own_boxA hst rfl rfl rfl ?_; clear hst; intro b w hst) | (go_at_call 15; refine (check_f _).mono ?_; rintro e w ⟨rfl, hb⟩; have hst := hst.call hb; clear hb))
  ((try simp only [Act.put, List.setIfInBounds_toArray, List.set_cons_zero, List.set_cons_succ]); refine wp_region_alloc 6 8 hst (by kernel_rfl) (by kernel_rfl) ?_; clear hst; simp only [List.take_succ_cons, List.take_zero, List.drop_succ_cons, List.drop_zero]; (repeat ((first | (refine hd_skip rfl ?_) | (refine hd_load rfl rfl rfl rfl ?_) | (refine hd_load1 rfl rfl rfl rfl ?_) | (refine hd_call 23 rfl ?_; apply Exists.intro; refine ⟨fun w => ?_, ?_⟩; (· (go_simp; rfl)); apply Exists.intro; refine ⟨split_f, ?_⟩) | (refine hd_ex rfl ?_; apply Exists.intro; refine ⟨fun w => ?_, ?_⟩; (· (go_simp; rfl)))); (try simp only [Act.put, List.setIfInBounds_toArray, List.set_cons_zero, List.set_cons_succ]))); (try unfold wpHead); (repeat (refine al_step rfl ?_; intro b; (try simp only [Act.put, List.setIfInBounds_toArray, List.set_cons_zero, List.set_cons_succ]))); (try unfold wpAls); intro w hst)
  go_wp2_with (first | (refine own_load hst rfl rfl rfl rfl ?_) | (refine own_load1 hst rfl rfl rfl rfl ?_) | (refine own_storeA hst rfl rfl rfl rfl rfl rfl rfl rfl ?_; clear hst; intro w hst) | (refine own_alloc hst rfl rfl ?_; clear hst; intro b w hst) | (refine own_boxA hst rfl rfl rfl ?_; clear hst; intro b w hst))
  rw [← e2, ← e3] at e7
  have e7 := e7.out
  ((try simp only [Act.put, List.setIfInBounds_toArray, List.set_cons_zero, List.set_cons_succ]); refine wp_region_st hst (by kernel_rfl) (by kernel_rfl) ?_; clear hst; intro D val ne cls; (repeat (first | go_big_quiet_skip | (go_big_quiet_want; first | ((first | refine quiet_load cls rfl rfl rfl ?_ | refine quiet_load1 cls rfl rfl rfl ?_ | refine quiet_field rfl rfl rfl ?_ | refine quiet_fieldA rfl rfl rfl ?_); simp only [Act.put, List.setIfInBounds_toArray, List.set_cons_zero, List.set_cons_succ]; go_big_quiet_on) | (go_big_quiet_op; first | go_big_quiet_on | go_big_quiet_call ((first | (go_at_call 23; exact (split_f).quiet cls _) | (go_at_call 16; exact (skip_f).quiet cls _) | (go_at_call 12; exact (awake_f).quiet cls _))))))); refine wpQuiet_nil ?_; intro w hst)
  go_wp2_with (first | (refine own_load hst rfl rfl rfl rfl ?_) | (refine own_load1 hst rfl rfl rfl rfl ?_) | (refine own_storeA hst rfl rfl rfl rfl rfl rfl rfl rfl ?_; clear hst; intro w hst) | (refine own_alloc hst rfl rfl ?_; clear hst; intro b w hst) | (refine own_boxA hst rfl rfl rfl ?_; clear hst; intro b w hst))
  go_ret
  exact ⟨rfl, hst.below⟩

theorem splits_w {k p i j : Int} {b : Bool} (hk : R64 k) (hi : I64 i) (hj : I64 j) : Pure Try.prog 9 #[.agg #[.int .u64 k, .int .i64 p, .bool b], .int .i64 i, .int .i64 j] (.bool true) := by
  cases h : okB p
  · exact splits_no h
  · refine splits_yes (chk_yes h) (show splK k p i = splA k i by simp [splK, h]) (show splK k p j = splA k j by simp [splK, h]) (by simp [splP, h]) (by simp [splK, ok_skip h]) (by simp [splP, ok_skip h]) ?_
    by_cases hij : i = j
    · subst hij; simp
    · have e7 : (i == j) = false := by simpa using hij
      have e8 : (splA k i == splA k j) = false := by
        simp only [beq_eq_false_iff_ne]
        exact fun e => hij (spl_inj hk hi hj e)
      rw [e7, e8]

namespace streamSplits
theorem own : ownKnob Try.prog.godebug = none := by kernel_rfl
theorem laidOut : laidOutB Try.prog = true := by kernel_rfl
set_option maxRecDepth 100000 in
theorem lifted (os : Os) (started : os.Started) (H : Type) (enc : TypeId × Value → H) :
    ReturnsInHanded {} Try.checked os 9 .any (Rows.streamSplitsSpec.pre6 enc Try.prog Try.f9 Rows.streamSplitsRow.domain false) (Rows.streamSplitsSpec.post enc Try.prog Try.f9 false true false false) := by
  refine returnsInHanded_of_change (C := Try.checked) own started (by kernel_rfl) Try.func9
    (ChangeSpec.witness6 (enc := enc) (C := Try.checked) false ⟨#[], #[.agg #[.int .u64 0, .int .i64 0, .bool false], .int .i64 0, .int .i64 0], []⟩ 8 (by kernel_rfl) (by kernel_rfl) (by kernel_rfl) (by kernel_rfl)) ?_
  intro W base args ds gs before hval0 hW hcnd _
  have hval : ∀ (j : Nat) t v, Try.f9.params[j]? = some t → args[j]? = some v → Value.okWide Try.prog W .any base t v := hval0
  have hW' := hW
  obtain ⟨p, q, hA0, hV, rfl, hfz, hnd⟩ := hW
  have hA : DataW.TrodAll enc Try.prog W 0 (fun _ => true) true Try.f9.params.toList args.toList ds p := hA0
  rw [Try.params9] at hA hval
  obtain ⟨v0, vs0, d0, ds0, p0, q0, hargs, rfl, rfl, h0, r0⟩ := trodAll_cons hA
  obtain ⟨v1, vs1, d1, ds1, p1, q1, rfl, rfl, rfl, h1, r1⟩ := trodAll_cons r0
  obtain ⟨v2, vs2, d2, ds2, p2, q2, rfl, rfl, rfl, h2, r2⟩ := trodAll_cons r1
  obtain ⟨rfl, rfl, rfl⟩ := trodAll_nil r2
  obtain rfl : args = #[v0, v1, v2] := by cases args; simp_all
  obtain ⟨rfl, rfl⟩ := trodVars_none hV
  have k0 := h0
  have lt0 : ∀ x ∈ p0, x.block < W.heap.size := by obtain ⟨m, hm⟩ := k0; exact DataW.trod_lt m _ _ _ hm
  have ok0 := hval 0 27 v0 rfl rfl
  have k1 := h1
  have lt1 : ∀ x ∈ p1, x.block < W.heap.size := by obtain ⟨m, hm⟩ := k1; exact DataW.trod_lt m _ _ _ hm
  have ok1 := hval 1 3 v1 rfl rfl
  have k2 := h2
  have lt2 : ∀ x ∈ p2, x.block < W.heap.size := by obtain ⟨m, hm⟩ := k2; exact DataW.trod_lt m _ _ _ hm
  have ok2 := hval 2 3 v2 rfl rfl
  obtain ⟨k, q, b, rfl, hk, hq⟩ := open_stream Try.underlying27 (by kernel_rfl) (by kernel_rfl) Try.underlying22 Try.underlying3 Try.underlying4 ok0 h0
  obtain ⟨x, rfl, hx⟩ := open_i64 Try.underlying3 ok1 h1
  obtain ⟨y, rfl, hy⟩ := open_i64 Try.underlying3 ok2 h2
  clear hA0 hval0
  refine (splits_w hk hx hy W).mono fun e W' ⟨he, bel⟩ => ?_
  subst he
  exact ⟨_, rfl, _, _, _, [], _, [], hW', trodAll_mk1 (shut_bool Try.underlying4 _), (trodAll_cons_mk (Below.trod laidOut (by kernel_rfl) (of_decide_eq_true (by kernel_rfl)) k0 bel lt0) (trodAll_cons_mk (Below.trod laidOut (by kernel_rfl) (of_decide_eq_true (by kernel_rfl)) k1 bel lt1) (trodAll_cons_mk (Below.trod laidOut (by kernel_rfl) (of_decide_eq_true (by kernel_rfl)) k2 bel lt2) trodAll_mk0))), rfl, bel.frame _, fun h => by cases h⟩
theorem over : Rows.streamSplitsRow.holds Try.pinned (OpenSpec.ofChange Rows.streamSplitsSpec) :=
  OpenClaim.holds_of_wide 9 Try.f9 rfl rfl rfl rfl rfl rfl rfl ⟨rfl, rfl, rfl, rfl, rfl⟩ rfl rfl rfl rfl rfl (by kernel_rfl) Try.func9 (by kernel_rfl)
    (of_decide_eq_true (by kernel_rfl)) (by unfold Func.isWrapper; first | (rw [if_pos (by decide +kernel)]; kernel_rfl) | (rw [if_neg (by decide +kernel)]; exact ⟨rfl, rfl⟩))
    (fun os started H enc _ => lifted os started H enc)
theorem proved : Rows.StreamSplitsSaid := over
end streamSplits

end Go.Proofs.Ytjfhhlfjfcgcmaa
