/-
  New, Below and the library's product of package stream: each computes what the plain functions say, and leaves all memory that was there as it was.
-/
import Derived.Test.YtjfhhlfjfcgcmaaStream
namespace Go.Proofs.Ytjfhhlfjfcgcmaa
open Go.ChangeShapes Go.WideShapes Go.ChangeAt Go.RowKit

theorem mul64_f {x y : Int} (hx : R64 x) (hy : R64 y) : Pure Try.prog 29 #[.int .u64 x, .int .u64 y] (.tuple #[.int .u64 (hi64 x y), .int .u64 (IntKind.u64.wrap (x * y))]) := by
  intro w
  have hst := St.start w
  have e := Lib.hid (mul_raw hx hy)
  clear hx hy
  go_enter Try.func29, Try.ntmps29
  go_wp2
  go_ret2
  exact ⟨by rw [e.out]; rfl, hst.below⟩

theorem below_f {k p n : Int} {b : Bool} : Pure Try.prog 18 #[.agg #[.int .u64 k, .int .i64 p, .bool b], .int .i64 n] (.tuple #[.int .i64 (belI k p b n), .agg #[.int .u64 k, .int .i64 (belP p n), .bool b], .bool (!badB p n)]) := by
  intro w
  have hst := St.start w
  cases h : badB p n
  · have e1 := Lib.hid (show belI k p b n = wrap64 (hi64 (nextU k p b) (IntKind.u64.wrap n)) by simp [belI, h])
    have e2 := Lib.hid (show belP p n = nextP p by simp [belP, h])
    simp only [badB, Bool.or_eq_false_iff] at h
    obtain ⟨⟨h1, h2⟩, h3⟩ := h
    go_enter Try.func18, Try.ntmps18
    go_wp2_with (first | (refine own_load hst rfl rfl rfl rfl ?_) | (refine own_storeA hst rfl rfl rfl rfl rfl rfl rfl rfl ?_; clear hst; intro w hst) | (refine own_alloc hst rfl rfl ?_; clear hst; intro b w hst) | (refine own_boxA hst rfl rfl rfl ?_; clear hst; intro b w hst) | (go_at_call 27; refine (ended_f _).mono ?_; rintro e w ⟨rfl, hb⟩; have hst := hst.call hb; clear hb) | (go_at_call 17; refine (next_f _).mono ?_; rintro e w ⟨rfl, hb⟩; have hst := hst.call hb; clear hb) | (go_at_call 29; refine (mul64_f (r64_next _ _ _) (r64_wrap _) _).mono ?_; rintro e w ⟨rfl, hb⟩; have hst := hst.call hb; clear hb))
    ((try simp only [Act.put, List.setIfInBounds_toArray, List.set_cons_zero, List.set_cons_succ]); refine wp_region_st_tail 4 hst (by kernel_rfl) (by kernel_rfl) ?_; clear hst; intro D val ne cls; simp only [List.take_succ_cons, List.take_zero, List.drop_succ_cons, List.drop_zero]; (repeat (first | go_big_quiet_skip | (go_big_quiet_want; first | ((first | refine quiet_load cls rfl rfl rfl ?_ | refine quiet_load1 cls rfl rfl rfl ?_ | refine quiet_field rfl rfl rfl ?_ | refine quiet_fieldA rfl rfl rfl ?_); simp only [Act.put, List.setIfInBounds_toArray, List.set_cons_zero, List.set_cons_succ]; go_big_quiet_on) | (go_big_quiet_op; first | go_big_quiet_on | go_big_quiet_call (fail))))); refine wpQuiet_nil ?_; intro w hst)
    go_wp2_with (first | (refine own_load hst rfl rfl rfl rfl ?_) | (refine own_storeA hst rfl rfl rfl rfl rfl rfl rfl rfl ?_; clear hst; intro w hst) | (refine own_alloc hst rfl rfl ?_; clear hst; intro b w hst) | (refine own_boxA hst rfl rfl rfl ?_; clear hst; intro b w hst))
    refine own_ret3 rfl (res_tmp rfl) (res_cell hst rfl rfl) (res_tmp rfl) rfl ⟨?_, hst.below⟩
    rw [e1.out, e2.out]; rfl
  · have e1 := Lib.hid (show belI k p b n = 0 by simp [belI, h])
    have e2 := Lib.hid (show belP p n = p by simp [belP, h])
    cases h1 : endB p
    · cases h2 : decide (n < 1)
      · have h3 : decide (1000000000000 < n) = true := by simpa [badB, h1, h2] using h
        clear h
        go_enter Try.func18, Try.ntmps18
        go_wp2_with (first | (refine own_load hst rfl rfl rfl rfl ?_) | (refine own_storeA hst rfl rfl rfl rfl rfl rfl rfl rfl ?_; clear hst; intro w hst) | (refine own_alloc hst rfl rfl ?_; clear hst; intro b w hst) | (refine own_boxA hst rfl rfl rfl ?_; clear hst; intro b w hst) | (go_at_call 27; refine (ended_f _).mono ?_; rintro e w ⟨rfl, hb⟩; have hst := hst.call hb; clear hb))
        ((try simp only [Act.put, List.setIfInBounds_toArray, List.set_cons_zero, List.set_cons_succ]); refine wp_region_st_tail 2 hst (by kernel_rfl) (by kernel_rfl) ?_; clear hst; intro D val ne cls; simp only [List.take_succ_cons, List.take_zero, List.drop_succ_cons, List.drop_zero]; (repeat (first | go_big_quiet_skip | (go_big_quiet_want; first | ((first | refine quiet_load cls rfl rfl rfl ?_ | refine quiet_load1 cls rfl rfl rfl ?_ | refine quiet_field rfl rfl rfl ?_ | refine quiet_fieldA rfl rfl rfl ?_); simp only [Act.put, List.setIfInBounds_toArray, List.set_cons_zero, List.set_cons_succ]; go_big_quiet_on) | (go_big_quiet_op; first | go_big_quiet_on | go_big_quiet_call (fail))))); refine wpQuiet_nil ?_; intro w hst)
        go_wp2_with (first | (refine own_load hst rfl rfl rfl rfl ?_) | (refine own_storeA hst rfl rfl rfl rfl rfl rfl rfl rfl ?_; clear hst; intro w hst) | (refine own_alloc hst rfl rfl ?_; clear hst; intro b w hst) | (refine own_boxA hst rfl rfl rfl ?_; clear hst; intro b w hst))
        refine own_ret3 rfl (res_tmp rfl) (res_cell hst rfl rfl) (res_tmp rfl) rfl ⟨?_, hst.below⟩
        rw [e1.out, e2.out]; rfl
      · clear h
        go_enter Try.func18, Try.ntmps18
        go_wp2_with (first | (refine own_load hst rfl rfl rfl rfl ?_) | (refine own_storeA hst rfl rfl rfl rfl rfl rfl rfl rfl ?_; clear hst; intro w hst) | (refine own_alloc hst rfl rfl ?_; clear hst; intro b w hst) | (refine own_boxA hst rfl rfl rfl ?_; clear hst; intro b w hst) | (go_at_call 27; refine (ended_f _).mono ?_; rintro e w ⟨rfl, hb⟩; have hst := hst.call hb; clear hb))
        ((try simp only [Act.put, List.setIfInBounds_toArray, List.set_cons_zero, List.set_cons_succ]); refine wp_region_st_tail 2 hst (by kernel_rfl) (by kernel_rfl) ?_; clear hst; intro D val ne cls; simp only [List.take_succ_cons, List.take_zero, List.drop_succ_cons, List.drop_zero]; (repeat (first | go_big_quiet_skip | (go_big_quiet_want; first | ((first | refine quiet_load cls rfl rfl rfl ?_ | refine quiet_load1 cls rfl rfl rfl ?_ | refine quiet_field rfl rfl rfl ?_ | refine quiet_fieldA rfl rfl rfl ?_); simp only [Act.put, List.setIfInBounds_toArray, List.set_cons_zero, List.set_cons_succ]; go_big_quiet_on) | (go_big_quiet_op; first | go_big_quiet_on | go_big_quiet_call (fail))))); refine wpQuiet_nil ?_; intro w hst)
        go_wp2_with (first | (refine own_load hst rfl rfl rfl rfl ?_) | (refine own_storeA hst rfl rfl rfl rfl rfl rfl rfl rfl ?_; clear hst; intro w hst) | (refine own_alloc hst rfl rfl ?_; clear hst; intro b w hst) | (refine own_boxA hst rfl rfl rfl ?_; clear hst; intro b w hst))
        refine own_ret3 rfl (res_tmp rfl) (res_cell hst rfl rfl) (res_tmp rfl) rfl ⟨?_, hst.below⟩
        rw [e1.out, e2.out]; rfl
    · clear h
      go_enter Try.func18, Try.ntmps18
      go_wp2_with (first | (refine own_load hst rfl rfl rfl rfl ?_) | (refine own_storeA hst rfl rfl rfl rfl rfl rfl rfl rfl ?_; clear hst; intro w hst) | (refine own_alloc hst rfl rfl ?_; clear hst; intro b w hst) | (refine own_boxA hst rfl rfl rfl ?_; clear hst; intro b w hst) | (go_at_call 27; refine (ended_f _).mono ?_; rintro e w ⟨rfl, hb⟩; have hst := hst.call hb; clear hb))
      ((try simp only [Act.put, List.setIfInBounds_toArray, List.set_cons_zero, List.set_cons_succ]); refine wp_region_st_tail 2 hst (by kernel_rfl) (by kernel_rfl) ?_; clear hst; intro D val ne cls; simp only [List.take_succ_cons, List.take_zero, List.drop_succ_cons, List.drop_zero]; (repeat (first | go_big_quiet_skip | (go_big_quiet_want; first | ((first | refine quiet_load cls rfl rfl rfl ?_ | refine quiet_load1 cls rfl rfl rfl ?_ | refine quiet_field rfl rfl rfl ?_ | refine quiet_fieldA rfl rfl rfl ?_); simp only [Act.put, List.setIfInBounds_toArray, List.set_cons_zero, List.set_cons_succ]; go_big_quiet_on) | (go_big_quiet_op; first | go_big_quiet_on | go_big_quiet_call (fail))))); refine wpQuiet_nil ?_; intro w hst)
      go_wp2_with (first | (refine own_load hst rfl rfl rfl rfl ?_) | (refine own_storeA hst rfl rfl rfl rfl rfl rfl rfl rfl ?_; clear hst; intro w hst) | (refine own_alloc hst rfl rfl ?_; clear hst; intro b w hst) | (refine own_boxA hst rfl rfl rfl ?_; clear hst; intro b w hst))
      refine own_ret3 rfl (res_tmp rfl) (res_cell hst rfl rfl) (res_tmp rfl) rfl ⟨?_, hst.below⟩
      rw [e1.out, e2.out]; rfl

theorem byte_at {s : ByteArray} {k : Nat} (h : k < s.size) : (s.data.toList.map (fun y => Value.int .u8 (y.toNat : Int)))[k]? = some (.int .u8 (s[k].toNat : Int)) := by
  have h' : k < s.data.toList.length := by simpa using h
  rw [List.getElem?_map, List.getElem?_eq_getElem h']
  rfl
theorem new_f {seed : Int} {s : ByteArray} (hs : s.size ≤ 1000) : Pure Try.prog 13 #[.int .i64 seed, .string s] (.agg #[.int .u64 (newK seed s.data.toList), .int .i64 0, .bool false]) := by
  intro w0
  have hst := St.start w0
  go_enter Try.func13, Try.ntmps13
  go_wp2_with (first | (refine own_bytes hst rfl rfl rfl Try.underlying9 Try.underlying42 Try.underlying5 ?_; clear hst; intro bb c w hst) | (refine own_load1 hst rfl rfl rfl rfl ?_) | (refine own_storeA hst rfl rfl rfl rfl rfl rfl rfl rfl ?_; clear hst; intro w hst) | (refine own_alloc hst rfl rfl ?_; clear hst; intro b w hst) | (go_at_call 10; refine (mix_f _).mono ?_; rintro e w ⟨rfl, hb⟩; have hst := hst.call hb; clear hb))
  go_loopw [5, 15] (fun key i wr => ∃ k : Nat, k ≤ s.size ∧ i = .int .i64 k ∧ key = .int .u64 (newK seed (s.data.toList.take k)) ∧ St w0.heap.size w0 [⟨b, [.int .u64 0, .int .i64 0, .bool false], 27⟩] [⟨bb, 0, s.data.toList.map (fun y => Value.int .u8 (y.toNat : Int))⟩] wr) (fun _ i _ => s.size - (intOf i).toNat)
  case atStart => exact ⟨0, Nat.zero_le _, rfl, rfl, hst⟩
  case round =>
    clear hst
    obtain ⟨k, hk, rfl, rfl, hst⟩ := hrel
    by_cases hlt : k < s.size
    · have hv := byte_at hlt
      have e := Lib.hid (show newK seed (s.data.toList.take (k + 1)) = mixZ (IntKind.u64.wrap (bits BinOp.xor IntKind.u64 (newK seed (s.data.toList.take k)) (IntKind.u64.wrap (s[k].toNat : Int)) + 11400714819323198485)) by rw [take_snoc hlt, newK_snoc]; rfl)
      go_wp2_with (first | (refine own_rload1 hst (r := ⟨bb, 0, _⟩) (by simp) rfl rfl rfl (Nat.zero_add _) hv ?_) | (refine own_load1 hst rfl rfl rfl rfl ?_) | (refine own_storeA hst rfl rfl rfl rfl rfl rfl rfl rfl ?_; clear hst; intro w hst) | (refine own_alloc hst rfl rfl ?_; clear hst; intro b w hst) | (go_at_call 10; refine (mix_f _).mono ?_; rintro e w ⟨rfl, hb⟩; have hst := hst.call hb; clear hb))
      go_roundw
      case rel => exact ⟨k + 1, by omega, by go_num, by rw [e.out], hst⟩
      case measure => simp [intOf]; omega
    · obtain rfl : k = s.size := by omega
      have e := Lib.hid (show newK seed s.data.toList = newK seed (s.data.toList.take s.size) by rw [List.take_of_length_le (by simp)])
      go_wp2_with (first | (refine own_load1 hst rfl rfl rfl rfl ?_) | (refine own_storeA hst rfl rfl rfl rfl rfl rfl rfl rfl ?_; clear hst; intro w hst) | (refine own_alloc hst rfl rfl ?_; clear hst; intro b w hst))
      refine own_ret1 rfl (res_cell hst rfl rfl) rfl ⟨?_, hst.below⟩
      rw [e.out]
end Go.Proofs.Ytjfhhlfjfcgcmaa
