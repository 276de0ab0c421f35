/-
  StreamSkips: taking at most 60 numbers one after the other leads to the same stream as skipping them. No condition.
-/
import Derived.Test.YtjfhhlfjfcgcmaaL03Awake
namespace Go.Proofs.Ytjfhhlfjfcgcmaa
open Go.ChangeShapes Go.WideShapes Go.ChangeAt Go.RowKit

theorem skip_zero (p : Int) : skipP p 0 = p := by
  unfold skipP
  cases h : okB p
  · simp
  · have h1 := okB_hi h
    simp only [Int.le_refl, decide_true, Bool.and_true, cond_true]; omega
theorem skip_val {p n : Int} (h : okB p = true) (hn : 0 ≤ n) : skipP p n = p + min n (1000000000000 - p) := by simp [skipP, h, hn]
theorem skip_bad {p n : Int} (h : okB p = false) : skipP p n = p := by simp [skipP, h]
theorem skip_succ (p : Int) (i : Nat) : nextP (skipP p i) = skipP p ((i + 1 : Nat) : Int) := by
  cases h : okB p
  · rw [skip_bad h, skip_bad h]; simp [nextP, endB, h]
  · have h0 := okB_lo h
    have h1 := okB_hi h
    rw [skip_val h (by omega), skip_val h (by omega)]
    unfold nextP endB
    rw [okB_of (by omega) (by omega)]
    by_cases e : p + min (i : Int) (1000000000000 - p) = 1000000000000
    · simp only [e, Bool.not_true, BEq.rfl, Bool.or_true, cond_true]; omega
    · have : (p + min (i : Int) (1000000000000 - p) == 1000000000000) = false := by simpa using e
      simp only [this, Bool.not_true, Bool.or_false, cond_false]; omega
theorem skip_two (p k : Int) (hk : 0 ≤ k) : skipP (skipP p k) k = skipP p (2 * k) := by
  cases h : okB p
  · rw [skip_bad h, skip_bad h, skip_bad h]
  · have h0 := okB_lo h
    have h1 := okB_hi h
    have e : okB (skipP p k) = true := by rw [skip_val h hk]; exact okB_of (by omega) (by omega)
    rw [skip_val e hk, skip_val h hk, skip_val h (by omega)]
    omega

set_option maxHeartbeats 1000000 in
theorem skips_w {k p n : Int} {an : Bool} (h0 : 0 ≤ n) (h1 : n < 256) : Pure Try.prog 5 #[.agg #[.int .u64 k, .int .i64 p, .bool an], .int .u8 n] (.bool true) := by
  intro w0
  have hst := St.start w0
  obtain ⟨m, hm, hm2⟩ : ∃ m : Nat, n % 61 = (m : Int) ∧ m ≤ 60 := ⟨(n % 61).toNat, by omega, by omega⟩
  have s1 := Lib.hid (skip_zero p)
  have s2 := Lib.hid (skip_succ p)
  have s3 := Lib.hid (skip_two p m (by omega))
  go_enter Try.func5, Try.ntmps5
  go_wp2_with (first | (refine own_load hst rfl rfl rfl rfl ?_) | (refine own_storeA hst rfl rfl rfl rfl rfl rfl rfl rfl ?_; clear hst; intro w hst) | (refine own_alloc hst rfl rfl ?_; clear hst; intro b w hst) | (refine own_boxA hst rfl rfl rfl ?_; clear hst; intro b w hst) | (go_at_call 17; refine (next_f _).mono ?_; rintro e w ⟨rfl, hb⟩; have hst := hst.call hb; clear hb) | (go_at_call 16; refine (skip_f _).mono ?_; rintro e w ⟨rfl, hb⟩; have hst := hst.call hb; clear hb))
  rename_i bs _ _ _ bf _ _ _ _ _
  go_loopw [8] (fun i wr => ∃ j : Nat, j ≤ m ∧ i = .int .i64 j ∧ St w0.heap.size w0 [⟨b, [.int .u64 k, .int .i64 (skipP p j), .bool an], 27⟩, ⟨bf, [.int .u64 k, .int .i64 (skipP p m), .bool an], 27⟩, ⟨bs, [.int .u64 k, .int .i64 p, .bool an], 27⟩] [] wr) (fun i _ => m - (intOf i).toNat)
  case atStart => exact ⟨0, Nat.zero_le _, rfl, by rw [show ((0 : Nat) : Int) = 0 from rfl, s1.out]; exact hst⟩
  case round =>
    clear hst
    obtain ⟨j, hj, rfl, hst⟩ := hrel
    by_cases hlt : j < m
    · go_wp2_with (first | (refine own_load hst rfl rfl rfl rfl ?_) | (refine own_storeA hst rfl rfl rfl rfl rfl rfl rfl rfl ?_; clear hst; intro w hst) | (refine own_alloc hst rfl rfl ?_; clear hst; intro b w hst) | (refine own_boxA hst rfl rfl rfl ?_; clear hst; intro b w hst) | (go_at_call 17; refine (next_f _).mono ?_; rintro e w ⟨rfl, hb⟩; have hst := hst.call hb; clear hb))
      go_roundw
      case rel => exact ⟨j + 1, by omega, by go_num, by rw [← s2.out j]; exact hst⟩
      case measure => simp [intOf]; omega
    · obtain rfl : j = m := by omega
      have e3 := s3.out
      go_wp2_with (first | (refine own_load hst rfl rfl rfl rfl ?_) | (refine own_storeA hst rfl rfl rfl rfl rfl rfl rfl rfl ?_; clear hst; intro w hst) | (refine own_alloc hst rfl rfl ?_; clear hst; intro b w hst) | (refine own_boxA hst rfl rfl rfl ?_; clear hst; intro b w hst) | (go_at_call 17; refine (next_f _).mono ?_; rintro e w ⟨rfl, hb⟩; have hst := hst.call hb; clear hb))
      ((try simp only [Act.put, List.setIfInBounds_toArray, List.set_cons_zero, List.set_cons_succ]); refine wp_region_st hst (by kernel_rfl) (by kernel_rfl) ?_; clear hst; intro D val ne cls; (repeat (first | go_big_quiet_skip | (go_big_quiet_want; first | ((first | refine quiet_load cls rfl rfl rfl ?_ | refine quiet_load1 cls rfl rfl rfl ?_ | refine quiet_field rfl rfl rfl ?_ | refine quiet_fieldA rfl rfl rfl ?_); simp only [Act.put, List.setIfInBounds_toArray, List.set_cons_zero, List.set_cons_succ]; go_big_quiet_on) | (go_big_quiet_op; first | go_big_quiet_on | go_big_quiet_call ((first | (go_at_call 16; exact (skip_f).quiet cls _) | (go_at_call 12; exact (awake_f).quiet cls _))))))); refine wpQuiet_nil ?_; intro w hst)
      go_wp2_with (first | (refine own_load hst rfl rfl rfl rfl ?_) | (refine own_storeA hst rfl rfl rfl rfl rfl rfl rfl rfl ?_; clear hst; intro w hst) | (refine own_alloc hst rfl rfl ?_; clear hst; intro b w hst) | (refine own_boxA hst rfl rfl rfl ?_; clear hst; intro b w hst))
      refine own_ret1 rfl (res_tmp rfl) rfl ⟨?_, hst.below⟩
      rfl

namespace streamSkips
theorem own : ownKnob Try.prog.godebug = none := by kernel_rfl
theorem laidOut : laidOutB Try.prog = true := by kernel_rfl
set_option maxRecDepth 100000 in
theorem lifted (os : Os) (started : os.Started) (H : Type) (enc : TypeId × Value → H) :
    ReturnsInHanded {} Try.checked os 5 .any (Rows.streamSkipsSpec.pre6 enc Try.prog Try.f5 Rows.streamSkipsRow.domain false) (Rows.streamSkipsSpec.post enc Try.prog Try.f5 false true false false) := by
  refine returnsInHanded_of_change (C := Try.checked) own started (by kernel_rfl) Try.func5
    (ChangeSpec.witness6 (enc := enc) (C := Try.checked) false ⟨#[], #[.agg #[.int .u64 0, .int .i64 0, .bool false], .int .u8 0], []⟩ 8 (by kernel_rfl) (by kernel_rfl) (by kernel_rfl) (by kernel_rfl)) ?_
  intro W base args ds gs before hval0 hW hcnd _
  have hval : ∀ (j : Nat) t v, Try.f5.params[j]? = some t → args[j]? = some v → Value.okWide Try.prog W .any base t v := hval0
  have hW' := hW
  obtain ⟨p, q, hA0, hV, rfl, hfz, hnd⟩ := hW
  have hA : DataW.TrodAll enc Try.prog W 0 (fun _ => true) true Try.f5.params.toList args.toList ds p := hA0
  rw [Try.params5] at hA hval
  obtain ⟨v0, vs0, d0, ds0, p0, q0, hargs, rfl, rfl, h0, r0⟩ := trodAll_cons hA
  obtain ⟨v1, vs1, d1, ds1, p1, q1, rfl, rfl, rfl, h1, r1⟩ := trodAll_cons r0
  obtain ⟨rfl, rfl, rfl⟩ := trodAll_nil r1
  obtain rfl : args = #[v0, v1] := by cases args; simp_all
  obtain ⟨rfl, rfl⟩ := trodVars_none hV
  have k0 := h0
  have lt0 : ∀ x ∈ p0, x.block < W.heap.size := by obtain ⟨m, hm⟩ := k0; exact DataW.trod_lt m _ _ _ hm
  have ok0 := hval 0 27 v0 rfl rfl
  have k1 := h1
  have lt1 : ∀ x ∈ p1, x.block < W.heap.size := by obtain ⟨m, hm⟩ := k1; exact DataW.trod_lt m _ _ _ hm
  have ok1 := hval 1 5 v1 rfl rfl
  obtain ⟨k, q, b, rfl, hk, hq⟩ := open_stream Try.underlying27 (by kernel_rfl) (by kernel_rfl) Try.underlying22 Try.underlying3 Try.underlying4 ok0 h0
  obtain ⟨x, rfl, hx0, hx1⟩ := open_u8 Try.underlying5 ok1 h1
  clear hA0 hval0
  refine (skips_w hx0 hx1 W).mono fun e W' ⟨he, bel⟩ => ?_
  subst he
  exact ⟨_, rfl, _, _, _, [], _, [], hW', trodAll_mk1 (shut_bool Try.underlying4 _), (trodAll_cons_mk (Below.trod laidOut (by kernel_rfl) (of_decide_eq_true (by kernel_rfl)) k0 bel lt0) (trodAll_cons_mk (Below.trod laidOut (by kernel_rfl) (of_decide_eq_true (by kernel_rfl)) k1 bel lt1) trodAll_mk0)), rfl, bel.frame _, fun h => by cases h⟩
theorem over : Rows.streamSkipsRow.holds Try.pinned (OpenSpec.ofChange Rows.streamSkipsSpec) :=
  OpenClaim.holds_of_wide 5 Try.f5 rfl rfl rfl rfl rfl rfl rfl ⟨rfl, rfl, rfl, rfl, rfl⟩ rfl rfl rfl rfl rfl (by kernel_rfl) Try.func5 (by kernel_rfl)
    (of_decide_eq_true (by kernel_rfl)) (by unfold Func.isWrapper; first | (rw [if_pos (by decide +kernel)]; kernel_rfl) | (rw [if_neg (by decide +kernel)]; exact ⟨rfl, rfl⟩))
    (fun os started H enc _ => lifted os started H enc)
theorem proved : Rows.StreamSkipsSaid := over
end streamSkips

end Go.Proofs.Ytjfhhlfjfcgcmaa
