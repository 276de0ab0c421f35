/-
  The functions of package stream: each computes what the plain functions of this text say, and leaves all memory that was there as it was.
-/
import Derived.Test.YtjfhhlfjfcgcmaaRows
import Derived.Test.YtjfhhlfjfcgcmaaSMath
namespace Go.Proofs.Ytjfhhlfjfcgcmaa
open Go.ChangeShapes Go.WideShapes Go.ChangeAt Go.RowKit

instance : TyI Try.prog 27 true 3 := ⟨Try.isAgg27, Try.sizeOf27⟩
instance : FldI Try.prog 27 0 0 22 := ⟨⟨_, _, Try.underlying27, rfl, rfl, rfl⟩⟩
instance : FldI Try.prog 27 1 1 3 := ⟨⟨_, _, Try.underlying27, rfl, rfl, rfl⟩⟩
instance : FldI Try.prog 27 2 2 4 := ⟨⟨_, _, Try.underlying27, rfl, rfl, rfl⟩⟩
instance : TyZ Try.prog 27 [.int .u64 0, .int .i64 0, .bool false] := ⟨fun w => ⟨_, Try.zeroValue27 w, rfl⟩⟩
instance : TyI Try.prog 3 false 1 := ⟨Try.isAgg3, Try.sizeOf3⟩
instance : TyZ Try.prog 3 [.int .i64 0] := ⟨fun w => ⟨_, Try.zeroValue3 w, rfl⟩⟩
instance : TyI Try.prog 4 false 1 := ⟨Try.isAgg4, Try.sizeOf4⟩
instance : TyZ Try.prog 4 [.bool false] := ⟨fun w => ⟨_, Try.zeroValue4 w, rfl⟩⟩
instance : TyI Try.prog 22 false 1 := ⟨Try.isAgg22, Try.sizeOf22⟩
instance : TyZ Try.prog 22 [.int .u64 0] := ⟨fun w => ⟨_, Try.zeroValue22 w, rfl⟩⟩
instance : TyI Try.prog 5 false 1 := ⟨Try.isAgg5, Try.sizeOf5⟩
instance : TyZ Try.prog 5 [.int .u8 0] := ⟨fun w => ⟨_, Try.zeroValue5 w, rfl⟩⟩

theorem mixZ_def (x : Int) : mixZ x = bits BinOp.xor IntKind.u64 (IntKind.u64.wrap (bits BinOp.xor IntKind.u64 (IntKind.u64.wrap (bits BinOp.xor IntKind.u64 x (x / 1073741824) * 13787848793156543929)) (IntKind.u64.wrap (bits BinOp.xor IntKind.u64 x (x / 1073741824) * 13787848793156543929) / 134217728) * 10723151780598845931)) (IntKind.u64.wrap (bits BinOp.xor IntKind.u64 (IntKind.u64.wrap (bits BinOp.xor IntKind.u64 x (x / 1073741824) * 13787848793156543929)) (IntKind.u64.wrap (bits BinOp.xor IntKind.u64 x (x / 1073741824) * 13787848793156543929) / 134217728) * 10723151780598845931) / 2147483648) := by
  simp only [mixZ, xsh]
theorem mix_f {x : Int} : Pure Try.prog 10 #[.int .u64 x] (.int .u64 (mixZ x)) := by
  intro w
  have e := Lib.hid (mixZ_def x)
  go_enter Try.func10, Try.ntmps10
  go_wp2
  go_ret
  exact ⟨by rw [e.out]; rfl, Below.refl _ _⟩

theorem check_f {k p : Int} {b : Bool} : Pure Try.prog 15 #[.agg #[.int .u64 k, .int .i64 p, .bool b]] (.int .i64 (chk p)) := by
  intro w
  have hst := St.start w
  by_cases h : 0 ≤ p
  · have h1 : decide (p < 0) = false := by simpa using h
    by_cases h2 : p ≤ 1000000000000
    · have e := Lib.hid (show chk p = 0 by simp [chk, okB, h, h2])
      go_enter Try.func15, Try.ntmps15
      go_wp2_with (first | (refine own_load1 hst rfl rfl rfl rfl ?_) | (refine own_boxA hst rfl rfl rfl ?_; clear hst; intro b w hst))
      go_ret
      exact ⟨by rw [e.out]; rfl, hst.below⟩
    · have e := Lib.hid (show chk p = 2 by simp [chk, okB, h2])
      go_enter Try.func15, Try.ntmps15
      go_wp2_with (first | (refine own_load1 hst rfl rfl rfl rfl ?_) | (refine own_boxA hst rfl rfl rfl ?_; clear hst; intro b w hst))
      go_ret
      exact ⟨by rw [e.out]; rfl, hst.below⟩
  · have e := Lib.hid (show chk p = 2 by simp [chk, okB, h])
    have h1 : decide (p < 0) = true := by simpa using h
    go_enter Try.func15, Try.ntmps15
    go_wp2_with (first | (refine own_load1 hst rfl rfl rfl rfl ?_) | (refine own_boxA hst rfl rfl rfl ?_; clear hst; intro b w hst))
    go_ret
    exact ⟨by rw [e.out]; rfl, hst.below⟩

theorem number_f {k p n : Int} {b : Bool} : Pure Try.prog 28 #[.agg #[.int .u64 k, .int .i64 p, .bool b], .int .i64 n] (.int .u64 (numZ k n b)) := by
  intro w
  have hst := St.start w
  cases b
  · have e := Lib.hid (show numZ k n false = mixZ (IntKind.u64.wrap (k + IntKind.u64.wrap (IntKind.u64.wrap n * 11400714819323198485))) by simp only [numZ, numA, cond_false])
    go_enter Try.func28, Try.ntmps28
    go_wp2_with (first | (refine own_load1 hst rfl rfl rfl rfl ?_) | (refine own_boxA hst rfl rfl rfl ?_; clear hst; intro b w hst) | (go_at_call 10; refine (mix_f _).mono ?_; rintro e w ⟨rfl, hb⟩; have hst := hst.call hb; clear hb))
    go_ret
    exact ⟨by rw [e.out]; rfl, hst.below⟩
  · have e := Lib.hid (show numZ k n true = bits BinOp.xor IntKind.u64 IntKind.u64.max (mixZ (IntKind.u64.wrap (k + IntKind.u64.wrap (IntKind.u64.wrap n * 11400714819323198485)))) by simp only [numZ, numA, cond_true, inv])
    have hs : IntKind.u64.signed = false := rfl
    go_enter Try.func28, Try.ntmps28
    go_wp2_with (first | (refine own_load1 hst rfl rfl rfl rfl ?_) | (refine own_boxA hst rfl rfl rfl ?_; clear hst; intro b w hst) | (go_at_call 10; refine (mix_f _).mono ?_; rintro e w ⟨rfl, hb⟩; have hst := hst.call hb; clear hb))
    go_ret
    exact ⟨by rw [e.out]; rfl, hst.below⟩

theorem ended_f {k p : Int} {b : Bool} : Pure Try.prog 27 #[.agg #[.int .u64 k, .int .i64 p, .bool b]] (.bool (endB p)) := by
  intro w
  have hst := St.start w
  cases h : okB p
  · have e := Lib.hid (show endB p = true by simp [endB, h])
    have e2 := chk_no h
    clear h
    go_enter Try.func27, Try.ntmps27
    go_wp2_with (first | (refine own_load hst rfl rfl rfl rfl ?_) | (refine own_load1 hst rfl rfl rfl rfl ?_) | (refine own_boxA hst rfl rfl rfl ?_; clear hst; intro b w hst) | (go_at_call 15; refine (check_f _).mono ?_; rintro e w ⟨rfl, hb⟩; have hst := hst.call hb; clear hb))
    go_ret
    exact ⟨by rw [e.out]; rfl, hst.below⟩
  · have e := Lib.hid (show endB p = (p == 1000000000000) by simp [endB, h])
    have e2 := chk_yes h
    clear h
    go_enter Try.func27, Try.ntmps27
    go_wp2_with (first | (refine own_load hst rfl rfl rfl rfl ?_) | (refine own_load1 hst rfl rfl rfl rfl ?_) | (refine own_boxA hst rfl rfl rfl ?_; clear hst; intro b w hst) | (go_at_call 15; refine (check_f _).mono ?_; rintro e w ⟨rfl, hb⟩; have hst := hst.call hb; clear hb))
    go_ret
    exact ⟨by rw [e.out]; rfl, hst.below⟩

theorem next_f {k p : Int} {b : Bool} : Pure Try.prog 17 #[.agg #[.int .u64 k, .int .i64 p, .bool b]] (.tuple #[.int .u64 (nextU k p b), .agg #[.int .u64 k, .int .i64 (nextP p), .bool b]]) := by
  intro w
  have hst := St.start w
  cases he : endB p
  · have e1 := Lib.hid (show nextU k p b = numZ k (p + 1) b by simp [nextU, he])
    have e2 := Lib.hid (show nextP p = p + 1 by simp [nextP, he])
    have h0 : 0 ≤ p := by simp [endB] at he; exact okB_lo he.1
    have h1 : p < 1000000000000 := by simp [endB] at he; have := okB_hi he.1; omega
    go_enter Try.func17, Try.ntmps17
    go_wp2_with (first | (refine own_load hst rfl rfl rfl rfl ?_) | (refine own_load1 hst rfl rfl rfl rfl ?_) | (refine own_storeA hst rfl rfl rfl rfl rfl rfl rfl rfl ?_; clear hst; intro w hst) | (refine own_storeI hst rfl rfl rfl rfl rfl rfl rfl ?_; clear hst; intro w hst) | (refine own_alloc hst rfl rfl ?_; clear hst; intro b w hst) | (refine own_boxA hst rfl rfl rfl ?_; clear hst; intro b w hst) | (go_at_call 27; refine (ended_f _).mono ?_; rintro e w ⟨rfl, hb⟩; have hst := hst.call hb; clear hb))
    ((try simp only [Act.put, List.setIfInBounds_toArray, List.set_cons_zero, List.set_cons_succ]); refine wp_region_st_tail 6 hst (by kernel_rfl) (by kernel_rfl) ?_; clear hst; intro D val ne cls; simp only [List.take_succ_cons, List.take_zero, List.drop_succ_cons, List.drop_zero]; (repeat (first | go_big_quiet_skip | (go_big_quiet_want; first | ((first | refine quiet_load cls rfl rfl rfl ?_ | refine quiet_load1 cls rfl rfl rfl ?_ | refine quiet_field rfl rfl rfl ?_ | refine quiet_fieldA rfl rfl rfl ?_); simp only [Act.put, List.setIfInBounds_toArray, List.set_cons_zero, List.set_cons_succ]; go_big_quiet_on) | (go_big_quiet_op; first | go_big_quiet_on | go_big_quiet_call ((first | (go_at_call 28; exact (number_f).quiet cls _))))))); refine wpQuiet_nil ?_; intro w hst)
    go_wp2_with (first | (refine own_load hst rfl rfl rfl rfl ?_) | (refine own_load1 hst rfl rfl rfl rfl ?_) | (refine own_storeA hst rfl rfl rfl rfl rfl rfl rfl rfl ?_; clear hst; intro w hst) | (refine own_storeI hst rfl rfl rfl rfl rfl rfl rfl ?_; clear hst; intro w hst) | (refine own_alloc hst rfl rfl ?_; clear hst; intro b w hst) | (refine own_boxA hst rfl rfl rfl ?_; clear hst; intro b w hst))
    refine own_ret2 rfl (res_tmp rfl) (res_cell hst rfl rfl) rfl ⟨?_, hst.below⟩
    rw [e1.out, e2.out]; rfl
  · have e1 := Lib.hid (show nextU k p b = 0 by simp [nextU, he])
    have e2 := Lib.hid (show nextP p = p by simp [nextP, he])
    go_enter Try.func17, Try.ntmps17
    go_wp2_with (first | (refine own_load hst rfl rfl rfl rfl ?_) | (refine own_load1 hst rfl rfl rfl rfl ?_) | (refine own_storeA hst rfl rfl rfl rfl rfl rfl rfl rfl ?_; clear hst; intro w hst) | (refine own_storeI hst rfl rfl rfl rfl rfl rfl rfl ?_; clear hst; intro w hst) | (refine own_alloc hst rfl rfl ?_; clear hst; intro b w hst) | (refine own_boxA hst rfl rfl rfl ?_; clear hst; intro b w hst) | (go_at_call 27; refine (ended_f _).mono ?_; rintro e w ⟨rfl, hb⟩; have hst := hst.call hb; clear hb))
    ((try simp only [Act.put, List.setIfInBounds_toArray, List.set_cons_zero, List.set_cons_succ]); refine wp_region_st_tail 2 hst (by kernel_rfl) (by kernel_rfl) ?_; clear hst; intro D val ne cls; simp only [List.take_succ_cons, List.take_zero, List.drop_succ_cons, List.drop_zero]; (repeat (first | go_big_quiet_skip | (go_big_quiet_want; first | ((first | refine quiet_load cls rfl rfl rfl ?_ | refine quiet_load1 cls rfl rfl rfl ?_ | refine quiet_field rfl rfl rfl ?_ | refine quiet_fieldA rfl rfl rfl ?_); simp only [Act.put, List.setIfInBounds_toArray, List.set_cons_zero, List.set_cons_succ]; go_big_quiet_on) | (go_big_quiet_op; first | go_big_quiet_on | go_big_quiet_call (fail))))); refine wpQuiet_nil ?_; intro w hst)
    go_wp2_with (first | (refine own_load hst rfl rfl rfl rfl ?_) | (refine own_load1 hst rfl rfl rfl rfl ?_) | (refine own_storeA hst rfl rfl rfl rfl rfl rfl rfl rfl ?_; clear hst; intro w hst) | (refine own_storeI hst rfl rfl rfl rfl rfl rfl rfl ?_; clear hst; intro w hst) | (refine own_alloc hst rfl rfl ?_; clear hst; intro b w hst) | (refine own_boxA hst rfl rfl rfl ?_; clear hst; intro b w hst))
    refine own_ret2 rfl (res_tmp rfl) (res_cell hst rfl rfl) rfl ⟨?_, hst.below⟩
    rw [e1.out, e2.out]; rfl

theorem skip_f {k p n : Int} {b : Bool} : Pure Try.prog 16 #[.agg #[.int .u64 k, .int .i64 p, .bool b], .int .i64 n] (.agg #[.int .u64 k, .int .i64 (skipP p n), .bool b]) := by
  intro w
  have hst := St.start w
  cases h : okB p
  · have e := Lib.hid (show skipP p n = p by simp [skipP, h])
    have e2 := chk_no h
    clear h
    go_enter Try.func16, Try.ntmps16
    go_wp2_with (first | (refine own_load hst rfl rfl rfl rfl ?_) | (refine own_load1 hst rfl rfl rfl rfl ?_) | (refine own_storeA hst rfl rfl rfl rfl rfl rfl rfl rfl ?_; clear hst; intro w hst) | (refine own_storeI hst rfl rfl rfl rfl rfl rfl rfl ?_; clear hst; intro w hst) | (refine own_alloc hst rfl rfl ?_; clear hst; intro b w hst) | (refine own_boxA hst rfl rfl rfl ?_; clear hst; intro b w hst) | (go_at_call 15; refine (check_f _).mono ?_; rintro e w ⟨rfl, hb⟩; have hst := hst.call hb; clear hb))
    refine own_ret1 rfl (res_cell hst rfl rfl) rfl ⟨?_, hst.below⟩
    rw [e.out]
  · have e2 := chk_yes h
    by_cases hn : 0 ≤ n
    · have h0 := okB_lo h
      have h1 := okB_hi h
      have h2 : decide (n < 0) = false := by simpa using hn
      by_cases hm : 1000000000000 - p < n
      · have e := Lib.hid (show skipP p n = p + (1000000000000 - p) by simp [skipP, h, hn]; omega)
        clear h
        go_enter Try.func16, Try.ntmps16
        go_wp2_with (first | (refine own_load hst rfl rfl rfl rfl ?_) | (refine own_load1 hst rfl rfl rfl rfl ?_) | (refine own_storeA hst rfl rfl rfl rfl rfl rfl rfl rfl ?_; clear hst; intro w hst) | (refine own_storeI hst rfl rfl rfl rfl rfl rfl rfl ?_; clear hst; intro w hst) | (refine own_alloc hst rfl rfl ?_; clear hst; intro b w hst) | (refine own_boxA hst rfl rfl rfl ?_; clear hst; intro b w hst) | (go_at_call 15; refine (check_f _).mono ?_; rintro e w ⟨rfl, hb⟩; have hst := hst.call hb; clear hb))
        refine own_ret1 rfl (res_cell hst rfl rfl) rfl ⟨?_, hst.below⟩
        rw [e.out]
      · have e := Lib.hid (show skipP p n = p + n by simp [skipP, h, hn]; omega)
        clear h
        go_enter Try.func16, Try.ntmps16
        go_wp2_with (first | (refine own_load hst rfl rfl rfl rfl ?_) | (refine own_load1 hst rfl rfl rfl rfl ?_) | (refine own_storeA hst rfl rfl rfl rfl rfl rfl rfl rfl ?_; clear hst; intro w hst) | (refine own_storeI hst rfl rfl rfl rfl rfl rfl rfl ?_; clear hst; intro w hst) | (refine own_alloc hst rfl rfl ?_; clear hst; intro b w hst) | (refine own_boxA hst rfl rfl rfl ?_; clear hst; intro b w hst) | (go_at_call 15; refine (check_f _).mono ?_; rintro e w ⟨rfl, hb⟩; have hst := hst.call hb; clear hb))
        refine own_ret1 rfl (res_cell hst rfl rfl) rfl ⟨?_, hst.below⟩
        rw [e.out]
    · have e := Lib.hid (show skipP p n = p by simp [skipP, hn])
      have h2 : decide (n < 0) = true := by simpa using hn
      clear h
      go_enter Try.func16, Try.ntmps16
      go_wp2_with (first | (refine own_load hst rfl rfl rfl rfl ?_) | (refine own_load1 hst rfl rfl rfl rfl ?_) | (refine own_storeA hst rfl rfl rfl rfl rfl rfl rfl rfl ?_; clear hst; intro w hst) | (refine own_storeI hst rfl rfl rfl rfl rfl rfl rfl ?_; clear hst; intro w hst) | (refine own_alloc hst rfl rfl ?_; clear hst; intro b w hst) | (refine own_boxA hst rfl rfl rfl ?_; clear hst; intro b w hst) | (go_at_call 15; refine (check_f _).mono ?_; rintro e w ⟨rfl, hb⟩; have hst := hst.call hb; clear hb))
      refine own_ret1 rfl (res_cell hst rfl rfl) rfl ⟨?_, hst.below⟩
      rw [e.out]

theorem split_f {k p i : Int} {b : Bool} : Pure Try.prog 23 #[.agg #[.int .u64 k, .int .i64 p, .bool b], .int .i64 i] (.agg #[.int .u64 (splK k p i), .int .i64 (splP p), .bool b]) := by
  intro w
  have hst := St.start w
  cases h : okB p
  · have e := Lib.hid (show splK k p i = k by simp [splK, h])
    have e1 := Lib.hid (show splP p = p by simp [splP, h])
    have e2 := chk_no h
    clear h
    go_enter Try.func23, Try.ntmps23
    go_wp2_with (first | (refine own_load hst rfl rfl rfl rfl ?_) | (refine own_load1 hst rfl rfl rfl rfl ?_) | (refine own_storeA hst rfl rfl rfl rfl rfl rfl rfl rfl ?_; clear hst; intro w hst) | (refine own_alloc hst rfl rfl ?_; clear hst; intro b w hst) | (refine own_boxA hst rfl rfl rfl ?_; clear hst; intro b w hst) | (go_at_call 15; refine (check_f _).mono ?_; rintro e w ⟨rfl, hb⟩; have hst := hst.call hb; clear hb))
    refine own_ret1 rfl (res_cell hst rfl rfl) rfl ⟨?_, hst.below⟩
    rw [e.out, e1.out]
  · have e := Lib.hid (show splK k p i = mixZ (bits BinOp.xor IntKind.u64 k (mixZ (IntKind.u64.wrap (IntKind.u64.wrap i + 11400714819323198485)))) by simp [splK, h, splA])
    have e1 := Lib.hid (show splP p = 0 by simp [splP, h])
    have e2 := chk_yes h
    clear h
    go_enter Try.func23, Try.ntmps23
    go_wp2_with (first | (refine own_load hst rfl rfl rfl rfl ?_) | (refine own_load1 hst rfl rfl rfl rfl ?_) | (refine own_storeA hst rfl rfl rfl rfl rfl rfl rfl rfl ?_; clear hst; intro w hst) | (refine own_alloc hst rfl rfl ?_; clear hst; intro b w hst) | (refine own_boxA hst rfl rfl rfl ?_; clear hst; intro b w hst) | (go_at_call 15; refine (check_f _).mono ?_; rintro e w ⟨rfl, hb⟩; have hst := hst.call hb; clear hb))
    ((try simp only [Act.put, List.setIfInBounds_toArray, List.set_cons_zero, List.set_cons_succ]); refine wp_region_st_tail 11 hst (by kernel_rfl) (by kernel_rfl) ?_; clear hst; intro D val ne cls; simp only [List.take_succ_cons, List.take_zero, List.drop_succ_cons, List.drop_zero]; (repeat (first | go_big_quiet_skip | (go_big_quiet_want; first | ((first | refine quiet_load cls rfl rfl rfl ?_ | refine quiet_load1 cls rfl rfl rfl ?_ | refine quiet_field rfl rfl rfl ?_ | refine quiet_fieldA rfl rfl rfl ?_); simp only [Act.put, List.setIfInBounds_toArray, List.set_cons_zero, List.set_cons_succ]; go_big_quiet_on) | (go_big_quiet_op; first | go_big_quiet_on | go_big_quiet_call ((first | (go_at_call 10; exact (mix_f).quiet cls _))))))); refine wpQuiet_nil ?_; intro w hst)
    go_wp2_with (first | (refine own_load hst rfl rfl rfl rfl ?_) | (refine own_load1 hst rfl rfl rfl rfl ?_) | (refine own_storeA hst rfl rfl rfl rfl rfl rfl rfl rfl ?_; clear hst; intro w hst) | (refine own_alloc hst rfl rfl ?_; clear hst; intro b w hst) | (refine own_boxA hst rfl rfl rfl ?_; clear hst; intro b w hst))
    refine own_ret1 rfl (res_cell hst rfl rfl) rfl ⟨?_, hst.below⟩
    rw [e.out, e1.out]

theorem mirror_f {k p : Int} {b : Bool} : Pure Try.prog 25 #[.agg #[.int .u64 k, .int .i64 p, .bool b]] (.agg #[.int .u64 k, .int .i64 p, .bool (mirB p b)]) := by
  intro w
  have hst := St.start w
  cases h : okB p
  · have e := Lib.hid (show mirB p b = b by simp [mirB, h])
    have e2 := chk_no h
    clear h
    go_enter Try.func25, Try.ntmps25
    go_wp2_with (first | (refine own_load hst rfl rfl rfl rfl ?_) | (refine own_load1 hst rfl rfl rfl rfl ?_) | (refine own_storeA hst rfl rfl rfl rfl rfl rfl rfl rfl ?_; clear hst; intro w hst) | (refine own_storeB hst rfl rfl rfl rfl rfl rfl rfl ?_; clear hst; intro w hst) | (refine own_alloc hst rfl rfl ?_; clear hst; intro b w hst) | (refine own_boxA hst rfl rfl rfl ?_; clear hst; intro b w hst) | (go_at_call 15; refine (check_f _).mono ?_; rintro e w ⟨rfl, hb⟩; have hst := hst.call hb; clear hb))
    refine own_ret1 rfl (res_cell hst rfl rfl) rfl ⟨?_, hst.below⟩
    rw [e.out]
  · have e := Lib.hid (show mirB p b = !b by simp [mirB, h])
    have e2 := chk_yes h
    clear h
    go_enter Try.func25, Try.ntmps25
    go_wp2_with (first | (refine own_load hst rfl rfl rfl rfl ?_) | (refine own_load1 hst rfl rfl rfl rfl ?_) | (refine own_storeA hst rfl rfl rfl rfl rfl rfl rfl rfl ?_; clear hst; intro w hst) | (refine own_storeB hst rfl rfl rfl rfl rfl rfl rfl ?_; clear hst; intro w hst) | (refine own_alloc hst rfl rfl ?_; clear hst; intro b w hst) | (refine own_boxA hst rfl rfl rfl ?_; clear hst; intro b w hst) | (go_at_call 15; refine (check_f _).mono ?_; rintro e w ⟨rfl, hb⟩; have hst := hst.call hb; clear hb))
    refine own_ret1 rfl (res_cell hst rfl rfl) rfl ⟨?_, hst.below⟩
    rw [e.out]
end Go.Proofs.Ytjfhhlfjfcgcmaa
