/-
  StreamNews: New returns the specified stream for any seed and any name of at most 1000 bytes; it is valid. No condition.
-/
import Derived.Test.YtjfhhlfjfcgcmaaL03Awake
namespace Go.Proofs.Ytjfhhlfjfcgcmaa
open Go.ChangeShapes Go.WideShapes Go.ChangeAt Go.RowKit

set_option maxHeartbeats 1000000 in
theorem news_w {seed : Int} {s : ByteArray} : Pure Try.prog 4 #[.int .i64 seed, .string s] (.bool true) := by
  intro w0
  have hst := St.start w0
  by_cases h : s.size ≤ 1000
  · have h1 : decide (1000 < (s.size : Int)) = false := by simp; omega
    have h2 : chk 0 = 0 := by decide
    go_enter Try.func4, Try.ntmps4
    go_wp2_with (first | (refine own_load hst rfl rfl rfl rfl ?_) | (refine own_storeA hst rfl rfl rfl rfl rfl rfl rfl rfl ?_; clear hst; intro w hst) | (refine own_alloc hst rfl rfl ?_; clear hst; intro b w hst) | (go_at_call 13; refine (new_f h _).mono ?_; rintro e w ⟨rfl, hb⟩; have hst := hst.call hb; clear hb) | (go_at_call 14; refine (new_r h _).mono ?_; rintro e w ⟨rfl, hb⟩; have hst := hst.call hb; clear hb))
    ((try simp only [Act.put, List.setIfInBounds_toArray, List.set_cons_zero, List.set_cons_succ]); refine wp_region_st hst (by kernel_rfl) (by kernel_rfl) ?_; clear hst; intro D val ne cls; (repeat (first | go_big_quiet_skip | (go_big_quiet_want; first | ((first | refine quiet_load cls rfl rfl rfl ?_ | refine quiet_load1 cls rfl rfl rfl ?_ | refine quiet_field rfl rfl rfl ?_ | refine quiet_fieldA rfl rfl rfl ?_); simp only [Act.put, List.setIfInBounds_toArray, List.set_cons_zero, List.set_cons_succ]; go_big_quiet_on) | (go_big_quiet_op; first | go_big_quiet_on | go_big_quiet_call ((first | (go_at_call 15; exact (check_f).quiet cls _) | (go_at_call 14; exact (new_r h).quiet cls _) | (go_at_call 12; exact (awake_f).quiet cls _))))))); refine wpQuiet_nil ?_; intro w hst)
    go_wp2_with (first | (refine own_load hst rfl rfl rfl rfl ?_) | (refine own_storeA hst rfl rfl rfl rfl rfl rfl rfl rfl ?_; clear hst; intro w hst) | (refine own_alloc hst rfl rfl ?_; clear hst; intro b w hst))
    go_ret
    exact ⟨rfl, hst.below⟩
  · have h1 : decide (1000 < (s.size : Int)) = true := by simp; omega
    go_enter Try.func4, Try.ntmps4
    go_wp2_with (first | (refine own_load hst rfl rfl rfl rfl ?_) | (refine own_storeA hst rfl rfl rfl rfl rfl rfl rfl rfl ?_; clear hst; intro w hst) | (refine own_alloc hst rfl rfl ?_; clear hst; intro b w hst) | (go_at_call 12; refine (awake_f _).mono ?_; rintro e w ⟨rfl, hb⟩; have hst := hst.call hb; clear hb))
    go_ret
    exact ⟨rfl, hst.below⟩

namespace streamNews
theorem own : ownKnob Try.prog.godebug = none := by kernel_rfl
theorem laidOut : laidOutB Try.prog = true := by kernel_rfl
set_option maxRecDepth 100000 in
theorem lifted (os : Os) (started : os.Started) (H : Type) (enc : TypeId × Value → H) :
    ReturnsInHanded {} Try.checked os 4 .any (Rows.streamNewsSpec.pre6 enc Try.prog Try.f4 Rows.streamNewsRow.domain false) (Rows.streamNewsSpec.post enc Try.prog Try.f4 false true false false) := by
  refine returnsInHanded_of_change (C := Try.checked) own started (by kernel_rfl) Try.func4
    (ChangeSpec.witness6 (enc := enc) (C := Try.checked) false ⟨#[], #[.int .i64 0, .string ByteArray.empty], []⟩ 8 (by kernel_rfl) (by kernel_rfl) (by kernel_rfl) (by kernel_rfl)) ?_
  intro W base args ds gs before hval0 hW hcnd _
  have hval : ∀ (j : Nat) t v, Try.f4.params[j]? = some t → args[j]? = some v → Value.okWide Try.prog W .any base t v := hval0
  have hW' := hW
  obtain ⟨p, q, hA0, hV, rfl, hfz, hnd⟩ := hW
  have hA : DataW.TrodAll enc Try.prog W 0 (fun _ => true) true Try.f4.params.toList args.toList ds p := hA0
  rw [Try.params4] at hA hval
  obtain ⟨v0, vs0, d0, ds0, p0, q0, hargs, rfl, rfl, h0, r0⟩ := trodAll_cons hA
  obtain ⟨v1, vs1, d1, ds1, p1, q1, rfl, rfl, rfl, h1, r1⟩ := trodAll_cons r0
  obtain ⟨rfl, rfl, rfl⟩ := trodAll_nil r1
  obtain rfl : args = #[v0, v1] := by cases args; simp_all
  obtain ⟨rfl, rfl⟩ := trodVars_none hV
  have k0 := h0
  have lt0 : ∀ x ∈ p0, x.block < W.heap.size := by obtain ⟨m, hm⟩ := k0; exact DataW.trod_lt m _ _ _ hm
  have ok0 := hval 0 3 v0 rfl rfl
  have k1 := h1
  have lt1 : ∀ x ∈ p1, x.block < W.heap.size := by obtain ⟨m, hm⟩ := k1; exact DataW.trod_lt m _ _ _ hm
  have ok1 := hval 1 9 v1 rfl rfl
  obtain ⟨x, rfl, hx⟩ := open_i64 Try.underlying3 ok0 h0
  obtain ⟨s, rfl⟩ := open_str Try.underlying9 ok1 h1
  clear hA0 hval0
  refine (news_w W).mono fun e W' ⟨he, bel⟩ => ?_
  subst he
  exact ⟨_, rfl, _, _, _, [], _, [], hW', trodAll_mk1 (shut_bool Try.underlying4 _), (trodAll_cons_mk (Below.trod laidOut (by kernel_rfl) (of_decide_eq_true (by kernel_rfl)) k0 bel lt0) (trodAll_cons_mk (Below.trod laidOut (by kernel_rfl) (of_decide_eq_true (by kernel_rfl)) k1 bel lt1) trodAll_mk0)), rfl, bel.frame _, fun h => by cases h⟩
theorem over : Rows.streamNewsRow.holds Try.pinned (OpenSpec.ofChange Rows.streamNewsSpec) :=
  OpenClaim.holds_of_wide 4 Try.f4 rfl rfl rfl rfl rfl rfl rfl ⟨rfl, rfl, rfl, rfl, rfl⟩ rfl rfl rfl rfl rfl (by kernel_rfl) Try.func4 (by kernel_rfl)
    (of_decide_eq_true (by kernel_rfl)) (by unfold Func.isWrapper; first | (rw [if_pos (by decide +kernel)]; kernel_rfl) | (rw [if_neg (by decide +kernel)]; exact ⟨rfl, rfl⟩))
    (fun os started H enc _ => lifted os started H enc)
theorem proved : Rows.StreamNewsSaid := over
end streamNews

end Go.Proofs.Ytjfhhlfjfcgcmaa
