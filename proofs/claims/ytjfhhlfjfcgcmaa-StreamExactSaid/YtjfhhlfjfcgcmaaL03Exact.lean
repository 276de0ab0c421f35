/-
  StreamExact: Check, Next, Skip, Split, Mirror and Below return the specified results for any stream and number. No condition.
-/
import Derived.Test.YtjfhhlfjfcgcmaaL03Awake
namespace Go.Proofs.Ytjfhhlfjfcgcmaa
open Go.ChangeShapes Go.WideShapes Go.ChangeAt Go.RowKit

set_option maxHeartbeats 2000000 in
theorem exact_w {k p n : Int} {b : Bool} : Pure Try.prog 7 #[.agg #[.int .u64 k, .int .i64 p, .bool b], .int .i64 n] (.bool true) := by
  intro w0
  have hst := St.start w0
  go_enter Try.func7, Try.ntmps7
  go_wp2_with (first | (refine own_load hst rfl rfl rfl rfl ?_) | (refine own_storeA hst rfl rfl rfl rfl rfl rfl rfl rfl ?_; clear hst; intro w hst) | (refine own_alloc hst rfl rfl ?_; clear hst; intro b w hst) | (refine own_boxA hst rfl rfl rfl ?_; clear hst; intro b w hst) | (go_at_call 17; refine (next_f _).mono ?_; rintro e w ⟨rfl, hb⟩; have hst := hst.call hb; clear hb) | (go_at_call 19; refine (next_r _).mono ?_; rintro e w ⟨rfl, hb⟩; have hst := hst.call hb; clear hb) | (go_at_call 18; refine (below_f _).mono ?_; rintro e w ⟨rfl, hb⟩; have hst := hst.call hb; clear hb) | (go_at_call 20; refine (below_r _).mono ?_; rintro e w ⟨rfl, hb⟩; have hst := hst.call hb; clear hb))
  ((try simp only [Act.put, List.setIfInBounds_toArray, List.set_cons_zero, List.set_cons_succ]); refine wp_region_st hst (by kernel_rfl) (by kernel_rfl) ?_; clear hst; intro D val ne cls; (repeat (first | go_big_quiet_skip | (go_big_quiet_want; first | ((first | refine quiet_load cls rfl rfl rfl ?_ | refine quiet_load1 cls rfl rfl rfl ?_ | refine quiet_field rfl rfl rfl ?_ | refine quiet_fieldA rfl rfl rfl ?_); simp only [Act.put, List.setIfInBounds_toArray, List.set_cons_zero, List.set_cons_succ]; go_big_quiet_on) | (go_big_quiet_op; first | go_big_quiet_on | go_big_quiet_call ((first | (go_at_call 15; exact (check_f).quiet cls _) | (go_at_call 21; exact (check_r).quiet cls _) | (go_at_call 16; exact (skip_f).quiet cls _) | (go_at_call 22; exact (skip_r).quiet cls _) | (go_at_call 23; exact (split_f).quiet cls _) | (go_at_call 24; exact (split_r).quiet cls _) | (go_at_call 25; exact (mirror_f).quiet cls _) | (go_at_call 26; exact (mirror_r).quiet cls _) | (go_at_call 12; exact (awake_f).quiet cls _))))))); refine wpQuiet_nil ?_; intro w hst)
  go_wp2_with (first | (refine own_load hst rfl rfl rfl rfl ?_) | (refine own_storeA hst rfl rfl rfl rfl rfl rfl rfl rfl ?_; clear hst; intro w hst) | (refine own_alloc hst rfl rfl ?_; clear hst; intro b w hst) | (refine own_boxA hst rfl rfl rfl ?_; clear hst; intro b w hst))
  go_ret
  exact ⟨rfl, hst.below⟩

namespace streamExact
theorem own : ownKnob Try.prog.godebug = none := by kernel_rfl
theorem laidOut : laidOutB Try.prog = true := by kernel_rfl
set_option maxRecDepth 100000 in
theorem lifted (os : Os) (started : os.Started) (H : Type) (enc : TypeId × Value → H) :
    ReturnsInHanded {} Try.checked os 7 .any (Rows.streamExactSpec.pre6 enc Try.prog Try.f7 Rows.streamExactRow.domain false) (Rows.streamExactSpec.post enc Try.prog Try.f7 false true false false) := by
  refine returnsInHanded_of_change (C := Try.checked) own started (by kernel_rfl) Try.func7
    (ChangeSpec.witness6 (enc := enc) (C := Try.checked) false ⟨#[], #[.agg #[.int .u64 0, .int .i64 0, .bool false], .int .i64 0], []⟩ 8 (by kernel_rfl) (by kernel_rfl) (by kernel_rfl) (by kernel_rfl)) ?_
  intro W base args ds gs before hval0 hW hcnd _
  have hval : ∀ (j : Nat) t v, Try.f7.params[j]? = some t → args[j]? = some v → Value.okWide Try.prog W .any base t v := hval0
  have hW' := hW
  obtain ⟨p, q, hA0, hV, rfl, hfz, hnd⟩ := hW
  have hA : DataW.TrodAll enc Try.prog W 0 (fun _ => true) true Try.f7.params.toList args.toList ds p := hA0
  rw [Try.params7] at hA hval
  obtain ⟨v0, vs0, d0, ds0, p0, q0, hargs, rfl, rfl, h0, r0⟩ := trodAll_cons hA
  obtain ⟨v1, vs1, d1, ds1, p1, q1, rfl, rfl, rfl, h1, r1⟩ := trodAll_cons r0
  obtain ⟨rfl, rfl, rfl⟩ := trodAll_nil r1
  obtain rfl : args = #[v0, v1] := by cases args; simp_all
  obtain ⟨rfl, rfl⟩ := trodVars_none hV
  have k0 := h0
  have lt0 : ∀ x ∈ p0, x.block < W.heap.size := by obtain ⟨m, hm⟩ := k0; exact DataW.trod_lt m _ _ _ hm
  have ok0 := hval 0 27 v0 rfl rfl
  have k1 := h1
  have lt1 : ∀ x ∈ p1, x.block < W.heap.size := by obtain ⟨m, hm⟩ := k1; exact DataW.trod_lt m _ _ _ hm
  have ok1 := hval 1 3 v1 rfl rfl
  obtain ⟨k, q, b, rfl, hk, hq⟩ := open_stream Try.underlying27 (by kernel_rfl) (by kernel_rfl) Try.underlying22 Try.underlying3 Try.underlying4 ok0 h0
  obtain ⟨x, rfl, hx⟩ := open_i64 Try.underlying3 ok1 h1
  clear hA0 hval0
  refine (exact_w W).mono fun e W' ⟨he, bel⟩ => ?_
  subst he
  exact ⟨_, rfl, _, _, _, [], _, [], hW', trodAll_mk1 (shut_bool Try.underlying4 _), (trodAll_cons_mk (Below.trod laidOut (by kernel_rfl) (of_decide_eq_true (by kernel_rfl)) k0 bel lt0) (trodAll_cons_mk (Below.trod laidOut (by kernel_rfl) (of_decide_eq_true (by kernel_rfl)) k1 bel lt1) trodAll_mk0)), rfl, bel.frame _, fun h => by cases h⟩
theorem over : Rows.streamExactRow.holds Try.pinned (OpenSpec.ofChange Rows.streamExactSpec) :=
  OpenClaim.holds_of_wide 7 Try.f7 rfl rfl rfl rfl rfl rfl rfl ⟨rfl, rfl, rfl, rfl, rfl⟩ rfl rfl rfl rfl rfl (by kernel_rfl) Try.func7 (by kernel_rfl)
    (of_decide_eq_true (by kernel_rfl)) (by unfold Func.isWrapper; first | (rw [if_pos (by decide +kernel)]; kernel_rfl) | (rw [if_neg (by decide +kernel)]; exact ⟨rfl, rfl⟩))
    (fun os started H enc _ => lifted os started H enc)
theorem proved : Rows.StreamExactSaid := over
end streamExact

end Go.Proofs.Ytjfhhlfjfcgcmaa
