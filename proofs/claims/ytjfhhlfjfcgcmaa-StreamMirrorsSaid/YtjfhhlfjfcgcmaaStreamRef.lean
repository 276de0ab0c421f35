/-
  The reference's functions of package stream: each computes what the plain functions say, and leaves all memory that was there as it was.
-/
import Derived.Test.YtjfhhlfjfcgcmaaStream2
namespace Go.Proofs.Ytjfhhlfjfcgcmaa
open Go.ChangeShapes Go.WideShapes Go.ChangeAt Go.RowKit

theorem mix_r {x : Int} : Pure Try.prog 11 #[.int .u64 x] (.int .u64 (mixZ x)) := by
  intro w
  have e := Lib.hid (mixZ_def x)
  go_enter Try.func11, Try.ntmps11
  go_wp2
  go_ret
  exact ⟨by rw [e.out]; rfl, Below.refl _ _⟩

theorem check_r {k p : Int} {b : Bool} : Pure Try.prog 21 #[.agg #[.int .u64 k, .int .i64 p, .bool b]] (.int .i64 (chk p)) := by
  intro w
  have hst := St.start w
  by_cases h : 0 ≤ p
  · have h1 : decide (p < 0) = false := by simpa using h
    by_cases h2 : p ≤ 1000000000000
    · have e := Lib.hid (show chk p = 0 by simp [chk, okB, h, h2])
      go_enter Try.func21, Try.ntmps21
      go_wp2_with (first | (refine own_load1 hst rfl rfl rfl rfl ?_) | (refine own_boxA hst rfl rfl rfl ?_; clear hst; intro b w hst))
      go_ret
      exact ⟨by rw [e.out]; rfl, hst.below⟩
    · have e := Lib.hid (show chk p = 2 by simp [chk, okB, h2])
      go_enter Try.func21, Try.ntmps21
      go_wp2_with (first | (refine own_load1 hst rfl rfl rfl rfl ?_) | (refine own_boxA hst rfl rfl rfl ?_; clear hst; intro b w hst))
      go_ret
      exact ⟨by rw [e.out]; rfl, hst.below⟩
  · have e := Lib.hid (show chk p = 2 by simp [chk, okB, h])
    have h1 : decide (p < 0) = true := by simpa using h
    go_enter Try.func21, Try.ntmps21
    go_wp2_with (first | (refine own_load1 hst rfl rfl rfl rfl ?_) | (refine own_boxA hst rfl rfl rfl ?_; clear hst; intro b w hst))
    go_ret
    exact ⟨by rw [e.out]; rfl, hst.below⟩

theorem ended_r {k p : Int} {b : Bool} : Pure Try.prog 30 #[.agg #[.int .u64 k, .int .i64 p, .bool b]] (.bool (endB p)) := by
  intro w
  have hst := St.start w
  cases h : okB p
  · have e := Lib.hid (show endB p = true by simp [endB, h])
    have e2 := chk_no h
    clear h
    go_enter Try.func30, Try.ntmps30
    go_wp2_with (first | (refine own_load hst rfl rfl rfl rfl ?_) | (refine own_load1 hst rfl rfl rfl rfl ?_) | (refine own_boxA hst rfl rfl rfl ?_; clear hst; intro b w hst) | (go_at_call 21; refine (check_r _).mono ?_; rintro e w ⟨rfl, hb⟩; have hst := hst.call hb; clear hb))
    go_ret
    exact ⟨by rw [e.out]; rfl, hst.below⟩
  · have e := Lib.hid (show endB p = (p == 1000000000000) by simp [endB, h])
    have e2 := chk_yes h
    clear h
    go_enter Try.func30, Try.ntmps30
    go_wp2_with (first | (refine own_load hst rfl rfl rfl rfl ?_) | (refine own_load1 hst rfl rfl rfl rfl ?_) | (refine own_boxA hst rfl rfl rfl ?_; clear hst; intro b w hst) | (go_at_call 21; refine (check_r _).mono ?_; rintro e w ⟨rfl, hb⟩; have hst := hst.call hb; clear hb))
    go_ret
    exact ⟨by rw [e.out]; rfl, hst.below⟩

theorem next_r {k p : Int} {b : Bool} : Pure Try.prog 19 #[.agg #[.int .u64 k, .int .i64 p, .bool b]] (.tuple #[.int .u64 (nextU k p b), .agg #[.int .u64 k, .int .i64 (nextP p), .bool b]]) := by
  intro w
  have hst := St.start w
  cases he : endB p
  · have e2 := Lib.hid (show nextP p = p + 1 by simp [nextP, he])
    have h0 : 0 ≤ p := by simp [endB] at he; exact okB_lo he.1
    have h1 : p < 1000000000000 := by simp [endB] at he; have := okB_hi he.1; omega
    have hs : IntKind.u64.signed = false := rfl
    have hw := Lib.hid (u64_small (x := p + 1) (by omega) (by omega))
    cases b
    · have e1 := Lib.hid (show nextU k p false = mixZ (IntKind.u64.wrap (k + IntKind.u64.wrap ((p + 1) * 11400714819323198485))) by simp [nextU, he, numZ, numA, hw.out])
      go_enter Try.func19, Try.ntmps19
      go_wp2_with (first | (refine own_load hst rfl rfl rfl rfl ?_) | (refine own_load1 hst rfl rfl rfl rfl ?_) | (refine own_storeA hst rfl rfl rfl rfl rfl rfl rfl rfl ?_; clear hst; intro w hst) | (refine own_storeI hst rfl rfl rfl rfl rfl rfl rfl ?_; clear hst; intro w hst) | (refine own_alloc hst rfl rfl ?_; clear hst; intro b w hst) | (refine own_boxA hst rfl rfl rfl ?_; clear hst; intro b w hst) | (go_at_call 30; refine (ended_r _).mono ?_; rintro e w ⟨rfl, hb⟩; have hst := hst.call hb; clear hb) | (go_at_call 11; refine (mix_r _).mono ?_; rintro e w ⟨rfl, hb⟩; have hst := hst.call hb; clear hb))
      ((try simp only [Act.put, List.setIfInBounds_toArray, List.set_cons_zero, List.set_cons_succ]); refine wp_region_st_tail 3 hst (by kernel_rfl) (by kernel_rfl) ?_; clear hst; intro D val ne cls; simp only [List.take_succ_cons, List.take_zero, List.drop_succ_cons, List.drop_zero]; (repeat (first | go_big_quiet_skip | (go_big_quiet_want; first | ((first | refine quiet_load cls rfl rfl rfl ?_ | refine quiet_load1 cls rfl rfl rfl ?_ | refine quiet_field rfl rfl rfl ?_ | refine quiet_fieldA rfl rfl rfl ?_); simp only [Act.put, List.setIfInBounds_toArray, List.set_cons_zero, List.set_cons_succ]; go_big_quiet_on) | (go_big_quiet_op; first | go_big_quiet_on | go_big_quiet_call (fail))))); refine wpQuiet_nil ?_; intro w hst)
      go_wp2_with (first | (refine own_load hst rfl rfl rfl rfl ?_) | (refine own_load1 hst rfl rfl rfl rfl ?_) | (refine own_storeA hst rfl rfl rfl rfl rfl rfl rfl rfl ?_; clear hst; intro w hst) | (refine own_storeI hst rfl rfl rfl rfl rfl rfl rfl ?_; clear hst; intro w hst) | (refine own_alloc hst rfl rfl ?_; clear hst; intro b w hst) | (refine own_boxA hst rfl rfl rfl ?_; clear hst; intro b w hst))
      refine own_ret2 rfl (res_tmp rfl) (res_cell hst rfl rfl) rfl ⟨?_, hst.below⟩
      rw [e1.out, e2.out]; rfl
    · have e1 := Lib.hid (show nextU k p true = bits BinOp.xor IntKind.u64 IntKind.u64.max (mixZ (IntKind.u64.wrap (k + IntKind.u64.wrap ((p + 1) * 11400714819323198485)))) by simp [nextU, he, numZ, numA, inv, hw.out])
      go_enter Try.func19, Try.ntmps19
      go_wp2_with (first | (refine own_load hst rfl rfl rfl rfl ?_) | (refine own_load1 hst rfl rfl rfl rfl ?_) | (refine own_storeA hst rfl rfl rfl rfl rfl rfl rfl rfl ?_; clear hst; intro w hst) | (refine own_storeI hst rfl rfl rfl rfl rfl rfl rfl ?_; clear hst; intro w hst) | (refine own_alloc hst rfl rfl ?_; clear hst; intro b w hst) | (refine own_boxA hst rfl rfl rfl ?_; clear hst; intro b w hst) | (go_at_call 30; refine (ended_r _).mono ?_; rintro e w ⟨rfl, hb⟩; have hst := hst.call hb; clear hb) | (go_at_call 11; refine (mix_r _).mono ?_; rintro e w ⟨rfl, hb⟩; have hst := hst.call hb; clear hb))
      ((try simp only [Act.put, List.setIfInBounds_toArray, List.set_cons_zero, List.set_cons_succ]); refine wp_region_st_tail 3 hst (by kernel_rfl) (by kernel_rfl) ?_; clear hst; intro D val ne cls; simp only [List.take_succ_cons, List.take_zero, List.drop_succ_cons, List.drop_zero]; (repeat (first | go_big_quiet_skip | (go_big_quiet_want; first | ((first | refine quiet_load cls rfl rfl rfl ?_ | refine quiet_load1 cls rfl rfl rfl ?_ | refine quiet_field rfl rfl rfl ?_ | refine quiet_fieldA rfl rfl rfl ?_); simp only [Act.put, List.setIfInBounds_toArray, List.set_cons_zero, List.set_cons_succ]; go_big_quiet_on) | (go_big_quiet_op; first | go_big_quiet_on | go_big_quiet_call (fail))))); refine wpQuiet_nil ?_; intro w hst)
      go_wp2_with (first | (refine own_load hst rfl rfl rfl rfl ?_) | (refine own_load1 hst rfl rfl rfl rfl ?_) | (refine own_storeA hst rfl rfl rfl rfl rfl rfl rfl rfl ?_; clear hst; intro w hst) | (refine own_storeI hst rfl rfl rfl rfl rfl rfl rfl ?_; clear hst; intro w hst) | (refine own_alloc hst rfl rfl ?_; clear hst; intro b w hst) | (refine own_boxA hst rfl rfl rfl ?_; clear hst; intro b w hst))
      refine own_ret2 rfl (res_tmp rfl) (res_cell hst rfl rfl) rfl ⟨?_, hst.below⟩
      rw [e1.out, e2.out]; rfl
  · have e1 := Lib.hid (show nextU k p b = 0 by simp [nextU, he])
    have e2 := Lib.hid (show nextP p = p by simp [nextP, he])
    go_enter Try.func19, Try.ntmps19
    go_wp2_with (first | (refine own_load hst rfl rfl rfl rfl ?_) | (refine own_load1 hst rfl rfl rfl rfl ?_) | (refine own_storeA hst rfl rfl rfl rfl rfl rfl rfl rfl ?_; clear hst; intro w hst) | (refine own_storeI hst rfl rfl rfl rfl rfl rfl rfl ?_; clear hst; intro w hst) | (refine own_alloc hst rfl rfl ?_; clear hst; intro b w hst) | (refine own_boxA hst rfl rfl rfl ?_; clear hst; intro b w hst) | (go_at_call 30; refine (ended_r _).mono ?_; rintro e w ⟨rfl, hb⟩; have hst := hst.call hb; clear hb))
    ((try simp only [Act.put, List.setIfInBounds_toArray, List.set_cons_zero, List.set_cons_succ]); refine wp_region_st_tail 2 hst (by kernel_rfl) (by kernel_rfl) ?_; clear hst; intro D val ne cls; simp only [List.take_succ_cons, List.take_zero, List.drop_succ_cons, List.drop_zero]; (repeat (first | go_big_quiet_skip | (go_big_quiet_want; first | ((first | refine quiet_load cls rfl rfl rfl ?_ | refine quiet_load1 cls rfl rfl rfl ?_ | refine quiet_field rfl rfl rfl ?_ | refine quiet_fieldA rfl rfl rfl ?_); simp only [Act.put, List.setIfInBounds_toArray, List.set_cons_zero, List.set_cons_succ]; go_big_quiet_on) | (go_big_quiet_op; first | go_big_quiet_on | go_big_quiet_call (fail))))); refine wpQuiet_nil ?_; intro w hst)
    go_wp2_with (first | (refine own_load hst rfl rfl rfl rfl ?_) | (refine own_load1 hst rfl rfl rfl rfl ?_) | (refine own_storeA hst rfl rfl rfl rfl rfl rfl rfl rfl ?_; clear hst; intro w hst) | (refine own_storeI hst rfl rfl rfl rfl rfl rfl rfl ?_; clear hst; intro w hst) | (refine own_alloc hst rfl rfl ?_; clear hst; intro b w hst) | (refine own_boxA hst rfl rfl rfl ?_; clear hst; intro b w hst))
    refine own_ret2 rfl (res_tmp rfl) (res_cell hst rfl rfl) rfl ⟨?_, hst.below⟩
    rw [e1.out, e2.out]; rfl

theorem skip_r {k p n : Int} {b : Bool} : Pure Try.prog 22 #[.agg #[.int .u64 k, .int .i64 p, .bool b], .int .i64 n] (.agg #[.int .u64 k, .int .i64 (skipP p n), .bool b]) := by
  intro w
  have hst := St.start w
  cases h : okB p
  · have e := Lib.hid (show skipP p n = p by simp [skipP, h])
    have e2 := chk_no h
    clear h
    go_enter Try.func22, Try.ntmps22
    go_wp2_with (first | (refine own_load hst rfl rfl rfl rfl ?_) | (refine own_load1 hst rfl rfl rfl rfl ?_) | (refine own_storeA hst rfl rfl rfl rfl rfl rfl rfl rfl ?_; clear hst; intro w hst) | (refine own_storeI hst rfl rfl rfl rfl rfl rfl rfl ?_; clear hst; intro w hst) | (refine own_alloc hst rfl rfl ?_; clear hst; intro b w hst) | (refine own_boxA hst rfl rfl rfl ?_; clear hst; intro b w hst) | (go_at_call 21; refine (check_r _).mono ?_; rintro e w ⟨rfl, hb⟩; have hst := hst.call hb; clear hb))
    refine own_ret1 rfl (res_cell hst rfl rfl) rfl ⟨?_, hst.below⟩
    rw [e.out]
  · have e2 := chk_yes h
    by_cases hn : 0 ≤ n
    · have h0 := okB_lo h
      have h1 := okB_hi h
      have h2 : decide (n < 0) = false := by simpa using hn
      by_cases hm : 1000000000000 - p < n
      · have e := Lib.hid (show skipP p n = p + (1000000000000 - p) by simp [skipP, h, hn]; omega)
        clear h
        go_enter Try.func22, Try.ntmps22
        go_wp2_with (first | (refine own_load hst rfl rfl rfl rfl ?_) | (refine own_load1 hst rfl rfl rfl rfl ?_) | (refine own_storeA hst rfl rfl rfl rfl rfl rfl rfl rfl ?_; clear hst; intro w hst) | (refine own_storeI hst rfl rfl rfl rfl rfl rfl rfl ?_; clear hst; intro w hst) | (refine own_alloc hst rfl rfl ?_; clear hst; intro b w hst) | (refine own_boxA hst rfl rfl rfl ?_; clear hst; intro b w hst) | (go_at_call 21; refine (check_r _).mono ?_; rintro e w ⟨rfl, hb⟩; have hst := hst.call hb; clear hb))
        refine own_ret1 rfl (res_cell hst rfl rfl) rfl ⟨?_, hst.below⟩
        rw [e.out]
      · have e := Lib.hid (show skipP p n = p + n by simp [skipP, h, hn]; omega)
        clear h
        go_enter Try.func22, Try.ntmps22
        go_wp2_with (first | (refine own_load hst rfl rfl rfl rfl ?_) | (refine own_load1 hst rfl rfl rfl rfl ?_) | (refine own_storeA hst rfl rfl rfl rfl rfl rfl rfl rfl ?_; clear hst; intro w hst) | (refine own_storeI hst rfl rfl rfl rfl rfl rfl rfl ?_; clear hst; intro w hst) | (refine own_alloc hst rfl rfl ?_; clear hst; intro b w hst) | (refine own_boxA hst rfl rfl rfl ?_; clear hst; intro b w hst) | (go_at_call 21; refine (check_r _).mono ?_; rintro e w ⟨rfl, hb⟩; have hst := hst.call hb; clear hb))
        refine own_ret1 rfl (res_cell hst rfl rfl) rfl ⟨?_, hst.below⟩
        rw [e.out]
    · have e := Lib.hid (show skipP p n = p by simp [skipP, hn])
      have h2 : decide (n < 0) = true := by simpa using hn
      clear h
      go_enter Try.func22, Try.ntmps22
      go_wp2_with (first | (refine own_load hst rfl rfl rfl rfl ?_) | (refine own_load1 hst rfl rfl rfl rfl ?_) | (refine own_storeA hst rfl rfl rfl rfl rfl rfl rfl rfl ?_; clear hst; intro w hst) | (refine own_storeI hst rfl rfl rfl rfl rfl rfl rfl ?_; clear hst; intro w hst) | (refine own_alloc hst rfl rfl ?_; clear hst; intro b w hst) | (refine own_boxA hst rfl rfl rfl ?_; clear hst; intro b w hst) | (go_at_call 21; refine (check_r _).mono ?_; rintro e w ⟨rfl, hb⟩; have hst := hst.call hb; clear hb))
      refine own_ret1 rfl (res_cell hst rfl rfl) rfl ⟨?_, hst.below⟩
      rw [e.out]

theorem split_r {k p i : Int} {b : Bool} : Pure Try.prog 24 #[.agg #[.int .u64 k, .int .i64 p, .bool b], .int .i64 i] (.agg #[.int .u64 (splK k p i), .int .i64 (splP p), .bool b]) := by
  intro w
  have hst := St.start w
  cases h : okB p
  · have e := Lib.hid (show splK k p i = k by simp [splK, h])
    have e1 := Lib.hid (show splP p = p by simp [splP, h])
    have e2 := chk_no h
    clear h
    go_enter Try.func24, Try.ntmps24
    go_wp2_with (first | (refine own_load hst rfl rfl rfl rfl ?_) | (refine own_load1 hst rfl rfl rfl rfl ?_) | (refine own_storeA hst rfl rfl rfl rfl rfl rfl rfl rfl ?_; clear hst; intro w hst) | (refine own_alloc hst rfl rfl ?_; clear hst; intro b w hst) | (refine own_boxA hst rfl rfl rfl ?_; clear hst; intro b w hst) | (go_at_call 21; refine (check_r _).mono ?_; rintro e w ⟨rfl, hb⟩; have hst := hst.call hb; clear hb))
    refine own_ret1 rfl (res_cell hst rfl rfl) rfl ⟨?_, hst.below⟩
    rw [e.out, e1.out]
  · have e := Lib.hid (show splK k p i = mixZ (bits BinOp.xor IntKind.u64 k (mixZ (IntKind.u64.wrap (IntKind.u64.wrap i + 11400714819323198485)))) by simp [splK, h, splA])
    have e1 := Lib.hid (show splP p = 0 by simp [splP, h])
    have e2 := chk_yes h
    clear h
    go_enter Try.func24, Try.ntmps24
    go_wp2_with (first | (refine own_load hst rfl rfl rfl rfl ?_) | (refine own_load1 hst rfl rfl rfl rfl ?_) | (refine own_storeA hst rfl rfl rfl rfl rfl rfl rfl rfl ?_; clear hst; intro w hst) | (refine own_alloc hst rfl rfl ?_; clear hst; intro b w hst) | (refine own_boxA hst rfl rfl rfl ?_; clear hst; intro b w hst) | (go_at_call 21; refine (check_r _).mono ?_; rintro e w ⟨rfl, hb⟩; have hst := hst.call hb; clear hb))
    ((try simp only [Act.put, List.setIfInBounds_toArray, List.set_cons_zero, List.set_cons_succ]); refine wp_region_st_tail 11 hst (by kernel_rfl) (by kernel_rfl) ?_; clear hst; intro D val ne cls; simp only [List.take_succ_cons, List.take_zero, List.drop_succ_cons, List.drop_zero]; (repeat (first | go_big_quiet_skip | (go_big_quiet_want; first | ((first | refine quiet_load cls rfl rfl rfl ?_ | refine quiet_load1 cls rfl rfl rfl ?_ | refine quiet_field rfl rfl rfl ?_ | refine quiet_fieldA rfl rfl rfl ?_); simp only [Act.put, List.setIfInBounds_toArray, List.set_cons_zero, List.set_cons_succ]; go_big_quiet_on) | (go_big_quiet_op; first | go_big_quiet_on | go_big_quiet_call ((first | (go_at_call 11; exact (mix_r).quiet cls _))))))); refine wpQuiet_nil ?_; intro w hst)
    go_wp2_with (first | (refine own_load hst rfl rfl rfl rfl ?_) | (refine own_load1 hst rfl rfl rfl rfl ?_) | (refine own_storeA hst rfl rfl rfl rfl rfl rfl rfl rfl ?_; clear hst; intro w hst) | (refine own_alloc hst rfl rfl ?_; clear hst; intro b w hst) | (refine own_boxA hst rfl rfl rfl ?_; clear hst; intro b w hst))
    refine own_ret1 rfl (res_cell hst rfl rfl) rfl ⟨?_, hst.below⟩
    rw [e.out, e1.out]

theorem mirror_r {k p : Int} {b : Bool} : Pure Try.prog 26 #[.agg #[.int .u64 k, .int .i64 p, .bool b]] (.agg #[.int .u64 k, .int .i64 p, .bool (mirB p b)]) := by
  intro w
  have hst := St.start w
  cases h : okB p
  · have e := Lib.hid (show mirB p b = b by simp [mirB, h])
    have e2 := chk_no h
    clear h
    go_enter Try.func26, Try.ntmps26
    go_wp2_with (first | (refine own_load hst rfl rfl rfl rfl ?_) | (refine own_load1 hst rfl rfl rfl rfl ?_) | (refine own_storeA hst rfl rfl rfl rfl rfl rfl rfl rfl ?_; clear hst; intro w hst) | (refine own_storeB hst rfl rfl rfl rfl rfl rfl rfl ?_; clear hst; intro w hst) | (refine own_alloc hst rfl rfl ?_; clear hst; intro b w hst) | (refine own_boxA hst rfl rfl rfl ?_; clear hst; intro b w hst) | (go_at_call 21; refine (check_r _).mono ?_; rintro e w ⟨rfl, hb⟩; have hst := hst.call hb; clear hb))
    refine own_ret1 rfl (res_cell hst rfl rfl) rfl ⟨?_, hst.below⟩
    rw [e.out]
  · have e := Lib.hid (show mirB p b = !b by simp [mirB, h])
    have e2 := chk_yes h
    clear h
    go_enter Try.func26, Try.ntmps26
    go_wp2_with (first | (refine own_load hst rfl rfl rfl rfl ?_) | (refine own_load1 hst rfl rfl rfl rfl ?_) | (refine own_storeA hst rfl rfl rfl rfl rfl rfl rfl rfl ?_; clear hst; intro w hst) | (refine own_storeB hst rfl rfl rfl rfl rfl rfl rfl ?_; clear hst; intro w hst) | (refine own_alloc hst rfl rfl ?_; clear hst; intro b w hst) | (refine own_boxA hst rfl rfl rfl ?_; clear hst; intro b w hst) | (go_at_call 21; refine (check_r _).mono ?_; rintro e w ⟨rfl, hb⟩; have hst := hst.call hb; clear hb))
    refine own_ret1 rfl (res_cell hst rfl rfl) rfl ⟨?_, hst.below⟩
    rw [e.out]
theorem high_r {x y : Int} (hx : R64 x) (hy : R64 y) : Pure Try.prog 31 #[.int .u64 x, .int .u64 y] (.int .u64 (hi64 x y)) := by
  intro w
  have hst := St.start w
  have e := Lib.hid (mul_raw2 hx hy)
  clear hx hy
  go_enter Try.func31, Try.ntmps31
  go_wp2
  go_ret
  exact ⟨by rw [e.out]; rfl, hst.below⟩

theorem below_r {k p n : Int} {b : Bool} : Pure Try.prog 20 #[.agg #[.int .u64 k, .int .i64 p, .bool b], .int .i64 n] (.tuple #[.int .i64 (belI k p b n), .agg #[.int .u64 k, .int .i64 (belP p n), .bool b], .bool (!badB p n)]) := by
  intro w
  have hst := St.start w
  cases h : badB p n
  · have e1 := Lib.hid (show belI k p b n = wrap64 (hi64 (nextU k p b) (IntKind.u64.wrap n)) by simp [belI, h])
    have e2 := Lib.hid (show belP p n = nextP p by simp [belP, h])
    simp only [badB, Bool.or_eq_false_iff] at h
    obtain ⟨⟨h1, h2⟩, h3⟩ := h
    go_enter Try.func20, Try.ntmps20
    go_wp2_with (first | (refine own_load hst rfl rfl rfl rfl ?_) | (refine own_storeA hst rfl rfl rfl rfl rfl rfl rfl rfl ?_; clear hst; intro w hst) | (refine own_alloc hst rfl rfl ?_; clear hst; intro b w hst) | (refine own_boxA hst rfl rfl rfl ?_; clear hst; intro b w hst) | (go_at_call 30; refine (ended_r _).mono ?_; rintro e w ⟨rfl, hb⟩; have hst := hst.call hb; clear hb) | (go_at_call 19; refine (next_r _).mono ?_; rintro e w ⟨rfl, hb⟩; have hst := hst.call hb; clear hb))
    ((try simp only [Act.put, List.setIfInBounds_toArray, List.set_cons_zero, List.set_cons_succ]); refine wp_region_st_tail 7 hst (by kernel_rfl) (by kernel_rfl) ?_; clear hst; intro D val ne cls; simp only [List.take_succ_cons, List.take_zero, List.drop_succ_cons, List.drop_zero]; (repeat (first | go_big_quiet_skip | (go_big_quiet_want; first | ((first | refine quiet_load cls rfl rfl rfl ?_ | refine quiet_load1 cls rfl rfl rfl ?_ | refine quiet_field rfl rfl rfl ?_ | refine quiet_fieldA rfl rfl rfl ?_); simp only [Act.put, List.setIfInBounds_toArray, List.set_cons_zero, List.set_cons_succ]; go_big_quiet_on) | (go_big_quiet_op; first | go_big_quiet_on | go_big_quiet_call ((first | (go_at_call 31; exact (high_r (r64_next _ _ _) (r64_wrap _)).quiet cls _))))))); refine wpQuiet_nil ?_; intro w hst)
    go_wp2_with (first | (refine own_load hst rfl rfl rfl rfl ?_) | (refine own_storeA hst rfl rfl rfl rfl rfl rfl rfl rfl ?_; clear hst; intro w hst) | (refine own_alloc hst rfl rfl ?_; clear hst; intro b w hst) | (refine own_boxA hst rfl rfl rfl ?_; clear hst; intro b w hst))
    refine own_ret3 rfl (res_tmp rfl) (res_cell hst rfl rfl) (res_tmp rfl) rfl ⟨?_, hst.below⟩
    rw [e1.out, e2.out]; rfl
  · have e1 := Lib.hid (show belI k p b n = 0 by simp [belI, h])
    have e2 := Lib.hid (show belP p n = p by simp [belP, h])
    cases h1 : endB p
    · cases h2 : decide (n < 1)
      · have h3 : decide (1000000000000 < n) = true := by simpa [badB, h1, h2] using h
        clear h
        go_enter Try.func20, Try.ntmps20
        go_wp2_with (first | (refine own_load hst rfl rfl rfl rfl ?_) | (refine own_storeA hst rfl rfl rfl rfl rfl rfl rfl rfl ?_; clear hst; intro w hst) | (refine own_alloc hst rfl rfl ?_; clear hst; intro b w hst) | (refine own_boxA hst rfl rfl rfl ?_; clear hst; intro b w hst) | (go_at_call 30; refine (ended_r _).mono ?_; rintro e w ⟨rfl, hb⟩; have hst := hst.call hb; clear hb))
        ((try simp only [Act.put, List.setIfInBounds_toArray, List.set_cons_zero, List.set_cons_succ]); refine wp_region_st_tail 2 hst (by kernel_rfl) (by kernel_rfl) ?_; clear hst; intro D val ne cls; simp only [List.take_succ_cons, List.take_zero, List.drop_succ_cons, List.drop_zero]; (repeat (first | go_big_quiet_skip | (go_big_quiet_want; first | ((first | refine quiet_load cls rfl rfl rfl ?_ | refine quiet_load1 cls rfl rfl rfl ?_ | refine quiet_field rfl rfl rfl ?_ | refine quiet_fieldA rfl rfl rfl ?_); simp only [Act.put, List.setIfInBounds_toArray, List.set_cons_zero, List.set_cons_succ]; go_big_quiet_on) | (go_big_quiet_op; first | go_big_quiet_on | go_big_quiet_call (fail))))); refine wpQuiet_nil ?_; intro w hst)
        go_wp2_with (first | (refine own_load hst rfl rfl rfl rfl ?_) | (refine own_storeA hst rfl rfl rfl rfl rfl rfl rfl rfl ?_; clear hst; intro w hst) | (refine own_alloc hst rfl rfl ?_; clear hst; intro b w hst) | (refine own_boxA hst rfl rfl rfl ?_; clear hst; intro b w hst))
        refine own_ret3 rfl (res_tmp rfl) (res_cell hst rfl rfl) (res_tmp rfl) rfl ⟨?_, hst.below⟩
        rw [e1.out, e2.out]; rfl
      · clear h
        go_enter Try.func20, Try.ntmps20
        go_wp2_with (first | (refine own_load hst rfl rfl rfl rfl ?_) | (refine own_storeA hst rfl rfl rfl rfl rfl rfl rfl rfl ?_; clear hst; intro w hst) | (refine own_alloc hst rfl rfl ?_; clear hst; intro b w hst) | (refine own_boxA hst rfl rfl rfl ?_; clear hst; intro b w hst) | (go_at_call 30; refine (ended_r _).mono ?_; rintro e w ⟨rfl, hb⟩; have hst := hst.call hb; clear hb))
        ((try simp only [Act.put, List.setIfInBounds_toArray, List.set_cons_zero, List.set_cons_succ]); refine wp_region_st_tail 2 hst (by kernel_rfl) (by kernel_rfl) ?_; clear hst; intro D val ne cls; simp only [List.take_succ_cons, List.take_zero, List.drop_succ_cons, List.drop_zero]; (repeat (first | go_big_quiet_skip | (go_big_quiet_want; first | ((first | refine quiet_load cls rfl rfl rfl ?_ | refine quiet_load1 cls rfl rfl rfl ?_ | refine quiet_field rfl rfl rfl ?_ | refine quiet_fieldA rfl rfl rfl ?_); simp only [Act.put, List.setIfInBounds_toArray, List.set_cons_zero, List.set_cons_succ]; go_big_quiet_on) | (go_big_quiet_op; first | go_big_quiet_on | go_big_quiet_call (fail))))); refine wpQuiet_nil ?_; intro w hst)
        go_wp2_with (first | (refine own_load hst rfl rfl rfl rfl ?_) | (refine own_storeA hst rfl rfl rfl rfl rfl rfl rfl rfl ?_; clear hst; intro w hst) | (refine own_alloc hst rfl rfl ?_; clear hst; intro b w hst) | (refine own_boxA hst rfl rfl rfl ?_; clear hst; intro b w hst))
        refine own_ret3 rfl (res_tmp rfl) (res_cell hst rfl rfl) (res_tmp rfl) rfl ⟨?_, hst.below⟩
        rw [e1.out, e2.out]; rfl
    · clear h
      go_enter Try.func20, Try.ntmps20
      go_wp2_with (first | (refine own_load hst rfl rfl rfl rfl ?_) | (refine own_storeA hst rfl rfl rfl rfl rfl rfl rfl rfl ?_; clear hst; intro w hst) | (refine own_alloc hst rfl rfl ?_; clear hst; intro b w hst) | (refine own_boxA hst rfl rfl rfl ?_; clear hst; intro b w hst) | (go_at_call 30; refine (ended_r _).mono ?_; rintro e w ⟨rfl, hb⟩; have hst := hst.call hb; clear hb))
      ((try simp only [Act.put, List.setIfInBounds_toArray, List.set_cons_zero, List.set_cons_succ]); refine wp_region_st_tail 2 hst (by kernel_rfl) (by kernel_rfl) ?_; clear hst; intro D val ne cls; simp only [List.take_succ_cons, List.take_zero, List.drop_succ_cons, List.drop_zero]; (repeat (first | go_big_quiet_skip | (go_big_quiet_want; first | ((first | refine quiet_load cls rfl rfl rfl ?_ | refine quiet_load1 cls rfl rfl rfl ?_ | refine quiet_field rfl rfl rfl ?_ | refine quiet_fieldA rfl rfl rfl ?_); simp only [Act.put, List.setIfInBounds_toArray, List.set_cons_zero, List.set_cons_succ]; go_big_quiet_on) | (go_big_quiet_op; first | go_big_quiet_on | go_big_quiet_call (fail))))); refine wpQuiet_nil ?_; intro w hst)
      go_wp2_with (first | (refine own_load hst rfl rfl rfl rfl ?_) | (refine own_storeA hst rfl rfl rfl rfl rfl rfl rfl rfl ?_; clear hst; intro w hst) | (refine own_alloc hst rfl rfl ?_; clear hst; intro b w hst) | (refine own_boxA hst rfl rfl rfl ?_; clear hst; intro b w hst))
      refine own_ret3 rfl (res_tmp rfl) (res_cell hst rfl rfl) (res_tmp rfl) rfl ⟨?_, hst.below⟩
      rw [e1.out, e2.out]; rfl

theorem new_r {seed : Int} {s : ByteArray} (hs : s.size ≤ 1000) : Pure Try.prog 14 #[.int .i64 seed, .string s] (.agg #[.int .u64 (newK seed s.data.toList), .int .i64 0, .bool false]) := by
  intro w0
  have hst := St.start w0
  go_enter Try.func14, Try.ntmps14
  go_wp2_with (first | (refine own_storeA hst rfl rfl rfl rfl rfl rfl rfl rfl ?_; clear hst; intro w hst) | (refine own_alloc hst rfl rfl ?_; clear hst; intro b w hst) | (go_at_call 11; refine (mix_r _).mono ?_; rintro e w ⟨rfl, hb⟩; have hst := hst.call hb; clear hb))
  go_loopw [5, 6] (fun key i wr => ∃ k : Nat, k ≤ s.size ∧ i = .int .i64 k ∧ key = .int .u64 (newK seed (s.data.toList.take k)) ∧ St w0.heap.size w0 [⟨b, [.int .u64 0, .int .i64 0, .bool false], 27⟩] [] wr) (fun _ i _ => s.size - (intOf i).toNat)
  case atStart => exact ⟨0, Nat.zero_le _, rfl, rfl, hst⟩
  case round =>
    clear hst
    obtain ⟨k, hk, rfl, rfl, hst⟩ := hrel
    by_cases hlt : k < s.size
    · have e := Lib.hid (show newK seed (s.data.toList.take (k + 1)) = mixZ (IntKind.u64.wrap (bits BinOp.xor IntKind.u64 (newK seed (s.data.toList.take k)) (IntKind.u64.wrap (s[k].toNat : Int)) + 11400714819323198485)) by rw [take_snoc hlt, newK_snoc]; rfl)
      go_wp2_with (first | (refine own_storeA hst rfl rfl rfl rfl rfl rfl rfl rfl ?_; clear hst; intro w hst) | (refine own_alloc hst rfl rfl ?_; clear hst; intro b w hst) | (go_at_call 11; refine (mix_r _).mono ?_; rintro e w ⟨rfl, hb⟩; have hst := hst.call hb; clear hb))
      go_roundw
      case rel => exact ⟨k + 1, by omega, by go_num, by rw [e.out], hst⟩
      case measure => simp [intOf]; omega
    · obtain rfl : k = s.size := by omega
      have e := Lib.hid (show newK seed s.data.toList = newK seed (s.data.toList.take s.size) by rw [List.take_of_length_le (by simp)])
      go_wp2_with (first | (refine own_storeA hst rfl rfl rfl rfl rfl rfl rfl rfl ?_; clear hst; intro w hst) | (refine own_alloc hst rfl rfl ?_; clear hst; intro b w hst))
      refine own_ret1 rfl (res_cell hst rfl rfl) rfl ⟨?_, hst.below⟩
      rw [e.out]
end Go.Proofs.Ytjfhhlfjfcgcmaa
