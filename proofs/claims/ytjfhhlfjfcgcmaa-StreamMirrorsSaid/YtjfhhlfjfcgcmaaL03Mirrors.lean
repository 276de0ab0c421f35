/-
  StreamMirrors: the numbers of a mirrored valid stream are the inverted ones, also of its substreams; Below is symmetric but for 1. No condition.
-/
import Derived.Test.YtjfhhlfjfcgcmaaL03Awake
namespace Go.Proofs.Ytjfhhlfjfcgcmaa
open Go.ChangeShapes Go.WideShapes Go.ChangeAt Go.RowKit

theorem ok_skip' {p n : Int} (h : okB p = true) : okB (skipP p n) = true := by
  have h0 := okB_lo h
  have h1 := okB_hi h
  unfold skipP
  by_cases hn : 0 ≤ n
  · simp only [h, hn, decide_true, Bool.and_true, cond_true]
    exact okB_of (by omega) (by omega)
  · simp [h, hn]
theorem next_mir {k p : Int} {b : Bool} (h : endB p = false) : nextU k p (!b) = inv (nextU k p b) := by
  simp only [nextU, h, cond_false]; exact num_mir _ _ _
theorem bel_mir {k p n : Int} {b : Bool} (h : badB p n = false) : belI k p b n + belI k p (!b) n = n - 1 ∨ belI k p b n + belI k p (!b) n = n - 2 := by
  have h' := h
  simp [badB] at h'
  obtain ⟨⟨h1, h2⟩, h3⟩ := h'
  have r1 := hi_range (r64_next k p b) h2 h3
  have r2 := hi_range (r64_next k p (!b)) h2 h3
  simp only [belI, h, cond_false]
  rw [u64_small (by omega) h3, i64_small r1.1 (by omega), i64_small r2.1 (by omega), next_mir h1]
  exact hi_mir (r64_next k p b) h2 h3
theorem bel_range {k p n : Int} {b : Bool} (h : badB p n = false) : 0 ≤ belI k p b n ∧ belI k p b n ≤ 1000000000000 := by
  simp [badB] at h
  have r1 := hi_range (r64_next k p b) h.1.2 h.2
  simp only [belI, badB, h.1.1, Bool.false_or]
  have e1 : decide (n < 1) = false := by simp; omega
  have e2 : decide (1000000000000 < n) = false := by simp; omega
  simp only [e1, e2, Bool.or_false, cond_false]
  rw [u64_small (by omega) h.2, i64_small r1.1 (by omega)]
  omega

set_option maxRecDepth 100000 in
set_option maxHeartbeats 1000000 in
theorem mirrors_no {k p n : Int} {an : Bool} (h : okB p = false) : Pure Try.prog 8 #[.agg #[.int .u64 k, .int .i64 p, .bool an], .int .i64 n] (.bool true) := by
  intro w0
  have hst := St.start w0
  have e1 := chk_no h
  have e2 : mirB p an = an := by simp [mirB, h]
  clear h
  go_enter Try.func8, Try.ntmps8
  go_wp2_with (first | go_skip | (refine own_load hst rfl rfl rfl rfl ?_) | (refine own_load1 hst rfl rfl rfl rfl ?_) | (refine own_storeA hst rfl rfl rfl rfl rfl rfl rfl rfl ?_; clear hst; intro w hst) | (refine own_alloc hst rfl rfl ?_; clear hst; intro b w hst) | (refine own_boxA hst rfl rfl rfl ?_; clear hst; intro b w hst) | (go_at_call 15; refine (check_f _).mono ?_; rintro e w ⟨rfl, hb⟩; have hst := hst.call hb; clear hb))
  ((try simp only [Act.put, List.setIfInBounds_toArray, List.set_cons_zero, List.set_cons_succ]); refine wp_region_st hst (by kernel_rfl) (by kernel_rfl) ?_; clear hst; intro D val ne cls; (repeat (first | go_big_quiet_skip | (go_big_quiet_want; first | ((first | refine quiet_load cls rfl rfl rfl ?_ | refine quiet_load1 cls rfl rfl rfl ?_ | refine quiet_field rfl rfl rfl ?_ | refine quiet_fieldA rfl rfl rfl ?_); simp only [Act.put, List.setIfInBounds_toArray, List.set_cons_zero, List.set_cons_succ]; go_big_quiet_on) | (go_big_quiet_op; first | go_big_quiet_on | go_big_quiet_call ((first | (go_at_call 25; exact (mirror_f).quiet cls _) | (go_at_call 12; exact (awake_f).quiet cls _))))))); refine wpQuiet_nil ?_; intro w hst)
  go_wp2_with (first | go_skip | (refine own_load hst rfl rfl rfl rfl ?_) | (refine own_load1 hst rfl rfl rfl rfl ?_) | (refine own_storeA hst rfl rfl rfl rfl rfl rfl rfl rfl ?_; clear hst; intro w hst) | (refine own_alloc hst rfl rfl ?_; clear hst; intro b w hst) | (refine own_boxA hst rfl rfl rfl ?_; clear hst; intro b w hst))
  go_ret
  exact ⟨rfl, hst.below⟩

set_option maxRecDepth 100000 in
set_option maxHeartbeats 2000000 in
theorem mirrors_end {k p n u v np I J p2 sk sp sq : Int} {an : Bool} (e1 : chk p = 0) (e2 : mirB p an = !an) (e3 : nextU k p an = u) (e4 : nextP p = np) (e6 : belI k p an n = I) (e7 : belI k p (!an) n = J) (e8 : belP p n = p2) (e10 : mirB p (!an) = an) (e11 : splK k p n = sk) (e12 : splP p = sp) (e13 : mirB sp an = !an) (e14 : skipP p n = sq) (e15 : mirB sq an = !an) (lt : decide (p < 1000000000000) = false) (ev : nextU k p (!an) = v) (e9 : badB p n = true) : Pure Try.prog 8 #[.agg #[.int .u64 k, .int .i64 p, .bool an], .int .i64 n] (.bool true) := by
  intro w0
  have hst := St.start w0
  have hs : IntKind.u64.signed = false := rfl
  go_enter Try.func8, Try.ntmps8
  go_wp2_with (first | go_skip | (refine own_load hst rfl rfl rfl rfl ?_) | (refine own_load1 hst rfl rfl rfl rfl ?_) | (refine own_storeA hst rfl rfl rfl rfl rfl rfl rfl rfl ?_; clear hst; intro w hst) | (refine own_alloc hst rfl rfl ?_; clear hst; intro b w hst) | (refine own_boxA hst rfl rfl rfl ?_; clear hst; intro b w hst) | (go_at_call 15; refine (check_f _).mono ?_; rintro e w ⟨rfl, hb⟩; have hst := hst.call hb; clear hb) | (go_at_call 25; refine (mirror_f _).mono ?_; rintro e w ⟨rfl, hb⟩; have hst := hst.call hb; clear hb) | (go_at_call 17; refine (next_f _).mono ?_; rintro e w ⟨rfl, hb⟩; have hst := hst.call hb; clear hb) | (go_at_call 18; refine (below_f _).mono ?_; rintro e w ⟨rfl, hb⟩; have hst := hst.call hb; clear hb))
  ((try simp only [Act.put, List.setIfInBounds_toArray, List.set_cons_zero, List.set_cons_succ]); refine wp_region_st hst (by kernel_rfl) (by kernel_rfl) ?_; clear hst; intro D val ne cls; (repeat (first | go_big_quiet_skip | (go_big_quiet_want; first | ((first | refine quiet_load cls rfl rfl rfl ?_ | refine quiet_load1 cls rfl rfl rfl ?_ | refine quiet_field rfl rfl rfl ?_ | refine quiet_fieldA rfl rfl rfl ?_); simp only [Act.put, List.setIfInBounds_toArray, List.set_cons_zero, List.set_cons_succ]; go_big_quiet_on) | (go_big_quiet_op; first | go_big_quiet_on | go_big_quiet_call ((first | (go_at_call 25; exact (mirror_f).quiet cls _))))))); refine wpQuiet_nil ?_; intro w hst)
  go_wp2_with (first | go_skip | (refine own_load hst rfl rfl rfl rfl ?_) | (refine own_load1 hst rfl rfl rfl rfl ?_) | (refine own_storeA hst rfl rfl rfl rfl rfl rfl rfl rfl ?_; clear hst; intro w hst) | (refine own_alloc hst rfl rfl ?_; clear hst; intro b w hst) | (refine own_boxA hst rfl rfl rfl ?_; clear hst; intro b w hst) | (go_at_call 18; refine (below_f _).mono ?_; rintro e w ⟨rfl, hb⟩; have hst := hst.call hb; clear hb))
  ((try simp only [Act.put, List.setIfInBounds_toArray, List.set_cons_zero, List.set_cons_succ]); refine wp_region_st hst (by kernel_rfl) (by kernel_rfl) ?_; clear hst; intro D val ne cls; (repeat (first | go_big_quiet_skip | (go_big_quiet_want; first | ((first | refine quiet_load cls rfl rfl rfl ?_ | refine quiet_load1 cls rfl rfl rfl ?_ | refine quiet_field rfl rfl rfl ?_ | refine quiet_fieldA rfl rfl rfl ?_); simp only [Act.put, List.setIfInBounds_toArray, List.set_cons_zero, List.set_cons_succ]; go_big_quiet_on) | (go_big_quiet_op; first | go_big_quiet_on | go_big_quiet_call ((first | (go_at_call 25; exact (mirror_f).quiet cls _) | (go_at_call 23; exact (split_f).quiet cls _) | (go_at_call 16; exact (skip_f).quiet cls _) | (go_at_call 12; exact (awake_f).quiet cls _))))))); refine wpQuiet_nil ?_; intro w hst)
  go_wp2_with (first | go_skip | (refine own_load hst rfl rfl rfl rfl ?_) | (refine own_load1 hst rfl rfl rfl rfl ?_) | (refine own_storeA hst rfl rfl rfl rfl rfl rfl rfl rfl ?_; clear hst; intro w hst) | (refine own_alloc hst rfl rfl ?_; clear hst; intro b w hst) | (refine own_boxA hst rfl rfl rfl ?_; clear hst; intro b w hst))
  refine own_ret1 rfl (res_tmp rfl) rfl ⟨?_, hst.below⟩
  rfl

set_option maxRecDepth 100000 in
set_option maxHeartbeats 2000000 in
theorem mirrors_bad {k p n u np I J p2 sk sp sq : Int} {an : Bool} (e1 : chk p = 0) (e2 : mirB p an = !an) (e3 : nextU k p an = u) (e4 : nextP p = np) (e6 : belI k p an n = I) (e7 : belI k p (!an) n = J) (e8 : belP p n = p2) (e10 : mirB p (!an) = an) (e11 : splK k p n = sk) (e12 : splP p = sp) (e13 : mirB sp an = !an) (e14 : skipP p n = sq) (e15 : mirB sq an = !an) (lt : decide (p < 1000000000000) = true) (e5 : mirB np an = !an) (ev : nextU k p (!an) = bits BinOp.xor IntKind.u64 IntKind.u64.max u) (e9 : badB p n = true) : Pure Try.prog 8 #[.agg #[.int .u64 k, .int .i64 p, .bool an], .int .i64 n] (.bool true) := by
  intro w0
  have hst := St.start w0
  have hs : IntKind.u64.signed = false := rfl
  go_enter Try.func8, Try.ntmps8
  go_wp2_with (first | go_skip | (refine own_load hst rfl rfl rfl rfl ?_) | (refine own_load1 hst rfl rfl rfl rfl ?_) | (refine own_storeA hst rfl rfl rfl rfl rfl rfl rfl rfl ?_; clear hst; intro w hst) | (refine own_alloc hst rfl rfl ?_; clear hst; intro b w hst) | (refine own_boxA hst rfl rfl rfl ?_; clear hst; intro b w hst) | (go_at_call 15; refine (check_f _).mono ?_; rintro e w ⟨rfl, hb⟩; have hst := hst.call hb; clear hb) | (go_at_call 25; refine (mirror_f _).mono ?_; rintro e w ⟨rfl, hb⟩; have hst := hst.call hb; clear hb) | (go_at_call 17; refine (next_f _).mono ?_; rintro e w ⟨rfl, hb⟩; have hst := hst.call hb; clear hb) | (go_at_call 18; refine (below_f _).mono ?_; rintro e w ⟨rfl, hb⟩; have hst := hst.call hb; clear hb))
  ((try simp only [Act.put, List.setIfInBounds_toArray, List.set_cons_zero, List.set_cons_succ]); refine wp_region_st hst (by kernel_rfl) (by kernel_rfl) ?_; clear hst; intro D val ne cls; (repeat (first | go_big_quiet_skip | (go_big_quiet_want; first | ((first | refine quiet_load cls rfl rfl rfl ?_ | refine quiet_load1 cls rfl rfl rfl ?_ | refine quiet_field rfl rfl rfl ?_ | refine quiet_fieldA rfl rfl rfl ?_); simp only [Act.put, List.setIfInBounds_toArray, List.set_cons_zero, List.set_cons_succ]; go_big_quiet_on) | (go_big_quiet_op; first | go_big_quiet_on | go_big_quiet_call ((first | (go_at_call 25; exact (mirror_f).quiet cls _))))))); refine wpQuiet_nil ?_; intro w hst)
  go_wp2_with (first | go_skip | (refine own_load hst rfl rfl rfl rfl ?_) | (refine own_load1 hst rfl rfl rfl rfl ?_) | (refine own_storeA hst rfl rfl rfl rfl rfl rfl rfl rfl ?_; clear hst; intro w hst) | (refine own_alloc hst rfl rfl ?_; clear hst; intro b w hst) | (refine own_boxA hst rfl rfl rfl ?_; clear hst; intro b w hst) | (go_at_call 18; refine (below_f _).mono ?_; rintro e w ⟨rfl, hb⟩; have hst := hst.call hb; clear hb))
  ((try simp only [Act.put, List.setIfInBounds_toArray, List.set_cons_zero, List.set_cons_succ]); refine wp_region_st hst (by kernel_rfl) (by kernel_rfl) ?_; clear hst; intro D val ne cls; (repeat (first | go_big_quiet_skip | (go_big_quiet_want; first | ((first | refine quiet_load cls rfl rfl rfl ?_ | refine quiet_load1 cls rfl rfl rfl ?_ | refine quiet_field rfl rfl rfl ?_ | refine quiet_fieldA rfl rfl rfl ?_); simp only [Act.put, List.setIfInBounds_toArray, List.set_cons_zero, List.set_cons_succ]; go_big_quiet_on) | (go_big_quiet_op; first | go_big_quiet_on | go_big_quiet_call ((first | (go_at_call 25; exact (mirror_f).quiet cls _) | (go_at_call 23; exact (split_f).quiet cls _) | (go_at_call 16; exact (skip_f).quiet cls _) | (go_at_call 12; exact (awake_f).quiet cls _))))))); refine wpQuiet_nil ?_; intro w hst)
  go_wp2_with (first | go_skip | (refine own_load hst rfl rfl rfl rfl ?_) | (refine own_load1 hst rfl rfl rfl rfl ?_) | (refine own_storeA hst rfl rfl rfl rfl rfl rfl rfl rfl ?_; clear hst; intro w hst) | (refine own_alloc hst rfl rfl ?_; clear hst; intro b w hst) | (refine own_boxA hst rfl rfl rfl ?_; clear hst; intro b w hst))
  refine own_ret1 rfl (res_tmp rfl) rfl ⟨?_, hst.below⟩
  rfl

set_option maxRecDepth 100000 in
set_option maxHeartbeats 2000000 in
theorem mirrors_one {k p n u np I J p2 sk sp sq : Int} {an : Bool} (e1 : chk p = 0) (e2 : mirB p an = !an) (e3 : nextU k p an = u) (e4 : nextP p = np) (e6 : belI k p an n = I) (e7 : belI k p (!an) n = J) (e8 : belP p n = p2) (e10 : mirB p (!an) = an) (e11 : splK k p n = sk) (e12 : splP p = sp) (e13 : mirB sp an = !an) (e14 : skipP p n = sq) (e15 : mirB sq an = !an) (lt : decide (p < 1000000000000) = true) (e5 : mirB np an = !an) (ev : nextU k p (!an) = bits BinOp.xor IntKind.u64 IntKind.u64.max u) (e9 : badB p n = false) (b0 : 0 ≤ I) (b1 : I ≤ 1000000000000) (b2 : 0 ≤ J) (b3 : J ≤ 1000000000000) (b4 : 1 ≤ n) (b5 : n ≤ 1000000000000) (q : (I + J != n - 1) = false) : Pure Try.prog 8 #[.agg #[.int .u64 k, .int .i64 p, .bool an], .int .i64 n] (.bool true) := by
  intro w0
  have hst := St.start w0
  have hs : IntKind.u64.signed = false := rfl
  go_enter Try.func8, Try.ntmps8
  go_wp2_with (first | go_skip | (refine own_load hst rfl rfl rfl rfl ?_) | (refine own_load1 hst rfl rfl rfl rfl ?_) | (refine own_storeA hst rfl rfl rfl rfl rfl rfl rfl rfl ?_; clear hst; intro w hst) | (refine own_alloc hst rfl rfl ?_; clear hst; intro b w hst) | (refine own_boxA hst rfl rfl rfl ?_; clear hst; intro b w hst) | (go_at_call 15; refine (check_f _).mono ?_; rintro e w ⟨rfl, hb⟩; have hst := hst.call hb; clear hb) | (go_at_call 25; refine (mirror_f _).mono ?_; rintro e w ⟨rfl, hb⟩; have hst := hst.call hb; clear hb) | (go_at_call 17; refine (next_f _).mono ?_; rintro e w ⟨rfl, hb⟩; have hst := hst.call hb; clear hb) | (go_at_call 18; refine (below_f _).mono ?_; rintro e w ⟨rfl, hb⟩; have hst := hst.call hb; clear hb))
  ((try simp only [Act.put, List.setIfInBounds_toArray, List.set_cons_zero, List.set_cons_succ]); refine wp_region_st hst (by kernel_rfl) (by kernel_rfl) ?_; clear hst; intro D val ne cls; (repeat (first | go_big_quiet_skip | (go_big_quiet_want; first | ((first | refine quiet_load cls rfl rfl rfl ?_ | refine quiet_load1 cls rfl rfl rfl ?_ | refine quiet_field rfl rfl rfl ?_ | refine quiet_fieldA rfl rfl rfl ?_); simp only [Act.put, List.setIfInBounds_toArray, List.set_cons_zero, List.set_cons_succ]; go_big_quiet_on) | (go_big_quiet_op; first | go_big_quiet_on | go_big_quiet_call ((first | (go_at_call 25; exact (mirror_f).quiet cls _))))))); refine wpQuiet_nil ?_; intro w hst)
  go_wp2_with (first | go_skip | (refine own_load hst rfl rfl rfl rfl ?_) | (refine own_load1 hst rfl rfl rfl rfl ?_) | (refine own_storeA hst rfl rfl rfl rfl rfl rfl rfl rfl ?_; clear hst; intro w hst) | (refine own_alloc hst rfl rfl ?_; clear hst; intro b w hst) | (refine own_boxA hst rfl rfl rfl ?_; clear hst; intro b w hst) | (go_at_call 18; refine (below_f _).mono ?_; rintro e w ⟨rfl, hb⟩; have hst := hst.call hb; clear hb))
  ((try simp only [Act.put, List.setIfInBounds_toArray, List.set_cons_zero, List.set_cons_succ]); refine wp_region_st hst (by kernel_rfl) (by kernel_rfl) ?_; clear hst; intro D val ne cls; (repeat (first | go_big_quiet_skip | (go_big_quiet_want; first | ((first | refine quiet_load cls rfl rfl rfl ?_ | refine quiet_load1 cls rfl rfl rfl ?_ | refine quiet_field rfl rfl rfl ?_ | refine quiet_fieldA rfl rfl rfl ?_); simp only [Act.put, List.setIfInBounds_toArray, List.set_cons_zero, List.set_cons_succ]; go_big_quiet_on) | (go_big_quiet_op; first | go_big_quiet_on | go_big_quiet_call ((first | (go_at_call 25; exact (mirror_f).quiet cls _) | (go_at_call 23; exact (split_f).quiet cls _) | (go_at_call 16; exact (skip_f).quiet cls _) | (go_at_call 12; exact (awake_f).quiet cls _))))))); refine wpQuiet_nil ?_; intro w hst)
  go_wp2_with (first | go_skip | (refine own_load hst rfl rfl rfl rfl ?_) | (refine own_load1 hst rfl rfl rfl rfl ?_) | (refine own_storeA hst rfl rfl rfl rfl rfl rfl rfl rfl ?_; clear hst; intro w hst) | (refine own_alloc hst rfl rfl ?_; clear hst; intro b w hst) | (refine own_boxA hst rfl rfl rfl ?_; clear hst; intro b w hst))
  refine own_ret1 rfl (res_tmp rfl) rfl ⟨?_, hst.below⟩
  rfl

set_option maxRecDepth 100000 in
set_option maxHeartbeats 2000000 in
theorem mirrors_two {k p n u np I J p2 sk sp sq : Int} {an : Bool} (e1 : chk p = 0) (e2 : mirB p an = !an) (e3 : nextU k p an = u) (e4 : nextP p = np) (e6 : belI k p an n = I) (e7 : belI k p (!an) n = J) (e8 : belP p n = p2) (e10 : mirB p (!an) = an) (e11 : splK k p n = sk) (e12 : splP p = sp) (e13 : mirB sp an = !an) (e14 : skipP p n = sq) (e15 : mirB sq an = !an) (lt : decide (p < 1000000000000) = true) (e5 : mirB np an = !an) (ev : nextU k p (!an) = bits BinOp.xor IntKind.u64 IntKind.u64.max u) (e9 : badB p n = false) (b0 : 0 ≤ I) (b1 : I ≤ 1000000000000) (b2 : 0 ≤ J) (b3 : J ≤ 1000000000000) (b4 : 1 ≤ n) (b5 : n ≤ 1000000000000) (q : (I + J != n - 1) = true) (q2 : (I + J != n - 2) = false) : Pure Try.prog 8 #[.agg #[.int .u64 k, .int .i64 p, .bool an], .int .i64 n] (.bool true) := by
  intro w0
  have hst := St.start w0
  have hs : IntKind.u64.signed = false := rfl
  go_enter Try.func8, Try.ntmps8
  go_wp2_with (first | go_skip | (refine own_load hst rfl rfl rfl rfl ?_) | (refine own_load1 hst rfl rfl rfl rfl ?_) | (refine own_storeA hst rfl rfl rfl rfl rfl rfl rfl rfl ?_; clear hst; intro w hst) | (refine own_alloc hst rfl rfl ?_; clear hst; intro b w hst) | (refine own_boxA hst rfl rfl rfl ?_; clear hst; intro b w hst) | (go_at_call 15; refine (check_f _).mono ?_; rintro e w ⟨rfl, hb⟩; have hst := hst.call hb; clear hb) | (go_at_call 25; refine (mirror_f _).mono ?_; rintro e w ⟨rfl, hb⟩; have hst := hst.call hb; clear hb) | (go_at_call 17; refine (next_f _).mono ?_; rintro e w ⟨rfl, hb⟩; have hst := hst.call hb; clear hb) | (go_at_call 18; refine (below_f _).mono ?_; rintro e w ⟨rfl, hb⟩; have hst := hst.call hb; clear hb))
  ((try simp only [Act.put, List.setIfInBounds_toArray, List.set_cons_zero, List.set_cons_succ]); refine wp_region_st hst (by kernel_rfl) (by kernel_rfl) ?_; clear hst; intro D val ne cls; (repeat (first | go_big_quiet_skip | (go_big_quiet_want; first | ((first | refine quiet_load cls rfl rfl rfl ?_ | refine quiet_load1 cls rfl rfl rfl ?_ | refine quiet_field rfl rfl rfl ?_ | refine quiet_fieldA rfl rfl rfl ?_); simp only [Act.put, List.setIfInBounds_toArray, List.set_cons_zero, List.set_cons_succ]; go_big_quiet_on) | (go_big_quiet_op; first | go_big_quiet_on | go_big_quiet_call ((first | (go_at_call 25; exact (mirror_f).quiet cls _))))))); refine wpQuiet_nil ?_; intro w hst)
  go_wp2_with (first | go_skip | (refine own_load hst rfl rfl rfl rfl ?_) | (refine own_load1 hst rfl rfl rfl rfl ?_) | (refine own_storeA hst rfl rfl rfl rfl rfl rfl rfl rfl ?_; clear hst; intro w hst) | (refine own_alloc hst rfl rfl ?_; clear hst; intro b w hst) | (refine own_boxA hst rfl rfl rfl ?_; clear hst; intro b w hst) | (go_at_call 18; refine (below_f _).mono ?_; rintro e w ⟨rfl, hb⟩; have hst := hst.call hb; clear hb))
  ((try simp only [Act.put, List.setIfInBounds_toArray, List.set_cons_zero, List.set_cons_succ]); refine wp_region_st hst (by kernel_rfl) (by kernel_rfl) ?_; clear hst; intro D val ne cls; (repeat (first | go_big_quiet_skip | (go_big_quiet_want; first | ((first | refine quiet_load cls rfl rfl rfl ?_ | refine quiet_load1 cls rfl rfl rfl ?_ | refine quiet_field rfl rfl rfl ?_ | refine quiet_fieldA rfl rfl rfl ?_); simp only [Act.put, List.setIfInBounds_toArray, List.set_cons_zero, List.set_cons_succ]; go_big_quiet_on) | (go_big_quiet_op; first | go_big_quiet_on | go_big_quiet_call ((first | (go_at_call 25; exact (mirror_f).quiet cls _) | (go_at_call 23; exact (split_f).quiet cls _) | (go_at_call 16; exact (skip_f).quiet cls _) | (go_at_call 12; exact (awake_f).quiet cls _))))))); refine wpQuiet_nil ?_; intro w hst)
  go_wp2_with (first | go_skip | (refine own_load hst rfl rfl rfl rfl ?_) | (refine own_load1 hst rfl rfl rfl rfl ?_) | (refine own_storeA hst rfl rfl rfl rfl rfl rfl rfl rfl ?_; clear hst; intro w hst) | (refine own_alloc hst rfl rfl ?_; clear hst; intro b w hst) | (refine own_boxA hst rfl rfl rfl ?_; clear hst; intro b w hst))
  refine own_ret1 rfl (res_tmp rfl) rfl ⟨?_, hst.below⟩
  rfl

theorem mir_not {p : Int} {b : Bool} (h : okB p = true) : mirB p b = !b := by simp [mirB, h]
theorem mirrors_w {k p n : Int} {an : Bool} : Pure Try.prog 8 #[.agg #[.int .u64 k, .int .i64 p, .bool an], .int .i64 n] (.bool true) := by
  cases h : okB p
  · exact mirrors_no h
  · have hs : okB (splP p) = true := by simp only [splP, h, cond_true]; decide
    have hq := ok_skip' (n := n) h
    cases he : endB p
    · have lt : decide (p < 1000000000000) = true := by
        simp [endB] at he
        have := okB_hi h
        simp; omega
      have hn : okB (nextP p) = true := by
        have := okB_lo h
        simp only [decide_eq_true_eq] at lt
        simp only [nextP, he, cond_false]; exact okB_of (by omega) (by omega)
      have ev : nextU k p (!an) = bits BinOp.xor IntKind.u64 IntKind.u64.max (nextU k p an) := next_mir he
      cases hb : badB p n
      · have r1 := bel_range (k := k) (b := an) hb
        have r2 := bel_range (k := k) (b := !an) hb
        have hb' := hb
        simp [badB] at hb'
        by_cases q : belI k p an n + belI k p (!an) n = n - 1
        · exact mirrors_one (chk_yes h) (mir_not h) rfl rfl rfl rfl rfl (by rw [mir_not h, Bool.not_not]) rfl rfl (mir_not hs) rfl (mir_not hq) lt (mir_not hn) ev hb r1.1 r1.2 r2.1 r2.2 hb'.1.2 hb'.2 (by simp [q])
        · have q2 := (bel_mir (k := k) (b := an) hb).resolve_left q
          exact mirrors_two (chk_yes h) (mir_not h) rfl rfl rfl rfl rfl (by rw [mir_not h, Bool.not_not]) rfl rfl (mir_not hs) rfl (mir_not hq) lt (mir_not hn) ev hb r1.1 r1.2 r2.1 r2.2 hb'.1.2 hb'.2 (by simpa using q) (by simp [q2])
      · exact mirrors_bad (chk_yes h) (mir_not h) rfl rfl rfl rfl rfl (by rw [mir_not h, Bool.not_not]) rfl rfl (mir_not hs) rfl (mir_not hq) lt (mir_not hn) ev hb
    · have lt : decide (p < 1000000000000) = false := by
        simp [endB, h] at he
        simp; omega
      exact mirrors_end (chk_yes h) (mir_not h) rfl rfl rfl rfl rfl (by rw [mir_not h, Bool.not_not]) rfl rfl (mir_not hs) rfl (mir_not hq) lt rfl (by simp [badB, he])

namespace streamMirrors
theorem own : ownKnob Try.prog.godebug = none := by kernel_rfl
theorem laidOut : laidOutB Try.prog = true := by kernel_rfl
set_option maxRecDepth 100000 in
theorem lifted (os : Os) (started : os.Started) (H : Type) (enc : TypeId × Value → H) :
    ReturnsInHanded {} Try.checked os 8 .any (Rows.streamMirrorsSpec.pre6 enc Try.prog Try.f8 Rows.streamMirrorsRow.domain false) (Rows.streamMirrorsSpec.post enc Try.prog Try.f8 false true false false) := by
  refine returnsInHanded_of_change (C := Try.checked) own started (by kernel_rfl) Try.func8
    (ChangeSpec.witness6 (enc := enc) (C := Try.checked) false ⟨#[], #[.agg #[.int .u64 0, .int .i64 0, .bool false], .int .i64 0], []⟩ 8 (by kernel_rfl) (by kernel_rfl) (by kernel_rfl) (by kernel_rfl)) ?_
  intro W base args ds gs before hval0 hW hcnd _
  have hval : ∀ (j : Nat) t v, Try.f8.params[j]? = some t → args[j]? = some v → Value.okWide Try.prog W .any base t v := hval0
  have hW' := hW
  obtain ⟨p, q, hA0, hV, rfl, hfz, hnd⟩ := hW
  have hA : DataW.TrodAll enc Try.prog W 0 (fun _ => true) true Try.f8.params.toList args.toList ds p := hA0
  rw [Try.params8] at hA hval
  obtain ⟨v0, vs0, d0, ds0, p0, q0, hargs, rfl, rfl, h0, r0⟩ := trodAll_cons hA
  obtain ⟨v1, vs1, d1, ds1, p1, q1, rfl, rfl, rfl, h1, r1⟩ := trodAll_cons r0
  obtain ⟨rfl, rfl, rfl⟩ := trodAll_nil r1
  obtain rfl : args = #[v0, v1] := by cases args; simp_all
  obtain ⟨rfl, rfl⟩ := trodVars_none hV
  have k0 := h0
  have lt0 : ∀ x ∈ p0, x.block < W.heap.size := by obtain ⟨m, hm⟩ := k0; exact DataW.trod_lt m _ _ _ hm
  have ok0 := hval 0 27 v0 rfl rfl
  have k1 := h1
  have lt1 : ∀ x ∈ p1, x.block < W.heap.size := by obtain ⟨m, hm⟩ := k1; exact DataW.trod_lt m _ _ _ hm
  have ok1 := hval 1 3 v1 rfl rfl
  obtain ⟨k, q, b, rfl, hk, hq⟩ := open_stream Try.underlying27 (by kernel_rfl) (by kernel_rfl) Try.underlying22 Try.underlying3 Try.underlying4 ok0 h0
  obtain ⟨x, rfl, hx⟩ := open_i64 Try.underlying3 ok1 h1
  clear hA0 hval0
  refine (mirrors_w W).mono fun e W' ⟨he, bel⟩ => ?_
  subst he
  exact ⟨_, rfl, _, _, _, [], _, [], hW', trodAll_mk1 (shut_bool Try.underlying4 _), (trodAll_cons_mk (Below.trod laidOut (by kernel_rfl) (of_decide_eq_true (by kernel_rfl)) k0 bel lt0) (trodAll_cons_mk (Below.trod laidOut (by kernel_rfl) (of_decide_eq_true (by kernel_rfl)) k1 bel lt1) trodAll_mk0)), rfl, bel.frame _, fun h => by cases h⟩
theorem over : Rows.streamMirrorsRow.holds Try.pinned (OpenSpec.ofChange Rows.streamMirrorsSpec) :=
  OpenClaim.holds_of_wide 8 Try.f8 rfl rfl rfl rfl rfl rfl rfl ⟨rfl, rfl, rfl, rfl, rfl⟩ rfl rfl rfl rfl rfl (by kernel_rfl) Try.func8 (by kernel_rfl)
    (of_decide_eq_true (by kernel_rfl)) (by unfold Func.isWrapper; first | (rw [if_pos (by decide +kernel)]; kernel_rfl) | (rw [if_neg (by decide +kernel)]; exact ⟨rfl, rfl⟩))
    (fun os started H enc _ => lifted os started H enc)
theorem proved : Rows.StreamMirrorsSaid := over
end streamMirrors

end Go.Proofs.Ytjfhhlfjfcgcmaa
