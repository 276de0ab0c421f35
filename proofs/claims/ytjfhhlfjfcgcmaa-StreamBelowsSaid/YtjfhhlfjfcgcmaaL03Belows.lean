/-
  StreamBelows: Below returns a number below n that does not decrease as n grows, and the stream after Next. No condition.
-/
import Derived.Test.YtjfhhlfjfcgcmaaL03Awake
namespace Go.Proofs.Ytjfhhlfjfcgcmaa
open Go.ChangeShapes Go.WideShapes Go.ChangeAt Go.RowKit

theorem bad_no {p n : Int} (h : badB p n = false) : endB p = false ∧ 1 ≤ n ∧ n ≤ 1000000000000 := by
  simp [badB] at h
  exact ⟨h.1.1, h.1.2, h.2⟩
theorem bel_val {k p n : Int} {b : Bool} (h : badB p n = false) : belI k p b n = hi64 (nextU k p b) n := by
  obtain ⟨_, h1, h2⟩ := bad_no h
  have h3 := hi_range (r64_next k p b) h1 h2
  simp only [belI, h, cond_false]
  rw [u64_small (by omega) h2, i64_small h3.1 (by omega)]
theorem bel_lo {k p n : Int} {b : Bool} (h : badB p n = false) : 0 ≤ belI k p b n ∧ belI k p b n < n := by
  obtain ⟨_, h1, h2⟩ := bad_no h
  rw [bel_val h]; exact hi_range (r64_next k p b) h1 h2
theorem bel_mono {k p n m : Int} {b : Bool} (h : badB p n = false) (h' : badB p m = false) (hnm : n ≤ m) : belI k p b n ≤ belI k p b m := by
  rw [bel_val h, bel_val h']; exact hi_mono (r64_next k p b) hnm

set_option maxHeartbeats 1000000 in
theorem belows_no {k p n m J p2 np u : Int} {b o2 : Bool} (e1 : belI k p b n = 0) (e2 : belI k p b m = J) (e3 : belP p n = p) (e4 : belP p m = p2) (e5 : nextP p = np) (e6 : badB p n = true) (e7 : badB p m = o2) (e8 : nextU k p b = u) : Pure Try.prog 6 #[.agg #[.int .u64 k, .int .i64 p, .bool b], .int .i64 n, .int .i64 m] (.bool true) := by
  intro w0
  have hst := St.start w0
  go_enter Try.func6, Try.ntmps6
  go_wp2_with (first | go_skip | (refine own_load hst rfl rfl rfl rfl ?_) | (refine own_storeA hst rfl rfl rfl rfl rfl rfl rfl rfl ?_; clear hst; intro w hst) | (refine own_alloc hst rfl rfl ?_; clear hst; intro b w hst) | (refine own_boxA hst rfl rfl rfl ?_; clear hst; intro b w hst) | (go_at_call 17; refine (next_f _).mono ?_; rintro e w ⟨rfl, hb⟩; have hst := hst.call hb; clear hb) | (go_at_call 18; refine (below_f _).mono ?_; rintro e w ⟨rfl, hb⟩; have hst := hst.call hb; clear hb) | (go_at_call 12; refine (awake_f _).mono ?_; rintro e w ⟨rfl, hb⟩; have hst := hst.call hb; clear hb))
  refine own_ret1 rfl (res_tmp rfl) rfl ⟨?_, hst.below⟩
  rfl

set_option maxHeartbeats 1000000 in
theorem belows_one {k p n m I J p2 np u : Int} {b : Bool} (e1 : belI k p b n = I) (e2 : belI k p b m = J) (e3 : belP p n = np) (e4 : belP p m = p2) (e5 : nextP p = np) (e6 : badB p n = false) (e7 : badB p m = true) (e8 : nextU k p b = u)
    (i0 : decide (I < 0) = false) (i1 : decide (n ≤ I) = false) : Pure Try.prog 6 #[.agg #[.int .u64 k, .int .i64 p, .bool b], .int .i64 n, .int .i64 m] (.bool true) := by
  intro w0
  have hst := St.start w0
  go_enter Try.func6, Try.ntmps6
  go_wp2_with (first | go_skip | (refine own_load hst rfl rfl rfl rfl ?_) | (refine own_storeA hst rfl rfl rfl rfl rfl rfl rfl rfl ?_; clear hst; intro w hst) | (refine own_alloc hst rfl rfl ?_; clear hst; intro b w hst) | (refine own_boxA hst rfl rfl rfl ?_; clear hst; intro b w hst) | (go_at_call 17; refine (next_f _).mono ?_; rintro e w ⟨rfl, hb⟩; have hst := hst.call hb; clear hb) | (go_at_call 18; refine (below_f _).mono ?_; rintro e w ⟨rfl, hb⟩; have hst := hst.call hb; clear hb) | (go_at_call 12; refine (awake_f _).mono ?_; rintro e w ⟨rfl, hb⟩; have hst := hst.call hb; clear hb))
  refine own_ret1 rfl (res_tmp rfl) rfl ⟨?_, hst.below⟩
  rfl

set_option maxHeartbeats 1000000 in
theorem belows_gt {k p n m I J np u : Int} {b : Bool} (e1 : belI k p b n = I) (e2 : belI k p b m = J) (e3 : belP p n = np) (e4 : belP p m = np) (e5 : nextP p = np) (e6 : badB p n = false) (e7 : badB p m = false) (e8 : nextU k p b = u)
    (i0 : decide (I < 0) = false) (i1 : decide (n ≤ I) = false) (i2 : decide (m < n) = true) : Pure Try.prog 6 #[.agg #[.int .u64 k, .int .i64 p, .bool b], .int .i64 n, .int .i64 m] (.bool true) := by
  intro w0
  have hst := St.start w0
  go_enter Try.func6, Try.ntmps6
  go_wp2_with (first | go_skip | (refine own_load hst rfl rfl rfl rfl ?_) | (refine own_storeA hst rfl rfl rfl rfl rfl rfl rfl rfl ?_; clear hst; intro w hst) | (refine own_alloc hst rfl rfl ?_; clear hst; intro b w hst) | (refine own_boxA hst rfl rfl rfl ?_; clear hst; intro b w hst) | (go_at_call 17; refine (next_f _).mono ?_; rintro e w ⟨rfl, hb⟩; have hst := hst.call hb; clear hb) | (go_at_call 18; refine (below_f _).mono ?_; rintro e w ⟨rfl, hb⟩; have hst := hst.call hb; clear hb) | (go_at_call 12; refine (awake_f _).mono ?_; rintro e w ⟨rfl, hb⟩; have hst := hst.call hb; clear hb))
  refine own_ret1 rfl (res_tmp rfl) rfl ⟨?_, hst.below⟩
  rfl

set_option maxHeartbeats 1000000 in
theorem belows_le {k p n m I J np u : Int} {b : Bool} (e1 : belI k p b n = I) (e2 : belI k p b m = J) (e3 : belP p n = np) (e4 : belP p m = np) (e5 : nextP p = np) (e6 : badB p n = false) (e7 : badB p m = false) (e8 : nextU k p b = u)
    (i0 : decide (I < 0) = false) (i1 : decide (n ≤ I) = false) (i2 : decide (m < n) = false) (i3 : decide (I ≤ J) = true) : Pure Try.prog 6 #[.agg #[.int .u64 k, .int .i64 p, .bool b], .int .i64 n, .int .i64 m] (.bool true) := by
  intro w0
  have hst := St.start w0
  go_enter Try.func6, Try.ntmps6
  go_wp2_with (first | go_skip | (refine own_load hst rfl rfl rfl rfl ?_) | (refine own_storeA hst rfl rfl rfl rfl rfl rfl rfl rfl ?_; clear hst; intro w hst) | (refine own_alloc hst rfl rfl ?_; clear hst; intro b w hst) | (refine own_boxA hst rfl rfl rfl ?_; clear hst; intro b w hst) | (go_at_call 17; refine (next_f _).mono ?_; rintro e w ⟨rfl, hb⟩; have hst := hst.call hb; clear hb) | (go_at_call 18; refine (below_f _).mono ?_; rintro e w ⟨rfl, hb⟩; have hst := hst.call hb; clear hb) | (go_at_call 12; refine (awake_f _).mono ?_; rintro e w ⟨rfl, hb⟩; have hst := hst.call hb; clear hb))
  refine own_ret1 rfl (res_tmp rfl) rfl ⟨?_, hst.below⟩
  rfl

theorem belows_w {k p n m : Int} {b : Bool} : Pure Try.prog 6 #[.agg #[.int .u64 k, .int .i64 p, .bool b], .int .i64 n, .int .i64 m] (.bool true) := by
  cases h : badB p n
  · have e3 : belP p n = nextP p := by simp [belP, h]
    have e2 := bel_lo (k := k) (b := b) h
    have i0 : decide (belI k p b n < 0) = false := by simp; omega
    have i1 : decide (n ≤ belI k p b n) = false := by simp; omega
    cases h' : badB p m
    · have e4 : belP p m = nextP p := by simp [belP, h']
      by_cases hnm : m < n
      · exact belows_gt rfl rfl e3 e4 rfl h h' rfl i0 i1 (by simpa using hnm)
      · exact belows_le rfl rfl e3 e4 rfl h h' rfl i0 i1 (by simpa using hnm) (by simpa using bel_mono h h' (by omega))
    · exact belows_one rfl rfl e3 rfl rfl h h' rfl i0 i1
  · exact belows_no (by simp [belI, h]) rfl (by simp [belP, h]) rfl rfl h rfl rfl

namespace streamBelows
theorem own : ownKnob Try.prog.godebug = none := by kernel_rfl
theorem laidOut : laidOutB Try.prog = true := by kernel_rfl
set_option maxRecDepth 100000 in
theorem lifted (os : Os) (started : os.Started) (H : Type) (enc : TypeId × Value → H) :
    ReturnsInHanded {} Try.checked os 6 .any (Rows.streamBelowsSpec.pre6 enc Try.prog Try.f6 Rows.streamBelowsRow.domain false) (Rows.streamBelowsSpec.post enc Try.prog Try.f6 false true false false) := by
  refine returnsInHanded_of_change (C := Try.checked) own started (by kernel_rfl) Try.func6
    (ChangeSpec.witness6 (enc := enc) (C := Try.checked) false ⟨#[], #[.agg #[.int .u64 0, .int .i64 0, .bool false], .int .i64 0, .int .i64 0], []⟩ 8 (by kernel_rfl) (by kernel_rfl) (by kernel_rfl) (by kernel_rfl)) ?_
  intro W base args ds gs before hval0 hW hcnd _
  have hval : ∀ (j : Nat) t v, Try.f6.params[j]? = some t → args[j]? = some v → Value.okWide Try.prog W .any base t v := hval0
  have hW' := hW
  obtain ⟨p, q, hA0, hV, rfl, hfz, hnd⟩ := hW
  have hA : DataW.TrodAll enc Try.prog W 0 (fun _ => true) true Try.f6.params.toList args.toList ds p := hA0
  rw [Try.params6] at hA hval
  obtain ⟨v0, vs0, d0, ds0, p0, q0, hargs, rfl, rfl, h0, r0⟩ := trodAll_cons hA
  obtain ⟨v1, vs1, d1, ds1, p1, q1, rfl, rfl, rfl, h1, r1⟩ := trodAll_cons r0
  obtain ⟨v2, vs2, d2, ds2, p2, q2, rfl, rfl, rfl, h2, r2⟩ := trodAll_cons r1
  obtain ⟨rfl, rfl, rfl⟩ := trodAll_nil r2
  obtain rfl : args = #[v0, v1, v2] := by cases args; simp_all
  obtain ⟨rfl, rfl⟩ := trodVars_none hV
  have k0 := h0
  have lt0 : ∀ x ∈ p0, x.block < W.heap.size := by obtain ⟨m, hm⟩ := k0; exact DataW.trod_lt m _ _ _ hm
  have ok0 := hval 0 27 v0 rfl rfl
  have k1 := h1
  have lt1 : ∀ x ∈ p1, x.block < W.heap.size := by obtain ⟨m, hm⟩ := k1; exact DataW.trod_lt m _ _ _ hm
  have ok1 := hval 1 3 v1 rfl rfl
  have k2 := h2
  have lt2 : ∀ x ∈ p2, x.block < W.heap.size := by obtain ⟨m, hm⟩ := k2; exact DataW.trod_lt m _ _ _ hm
  have ok2 := hval 2 3 v2 rfl rfl
  obtain ⟨k, q, b, rfl, hk, hq⟩ := open_stream Try.underlying27 (by kernel_rfl) (by kernel_rfl) Try.underlying22 Try.underlying3 Try.underlying4 ok0 h0
  obtain ⟨x, rfl, hx⟩ := open_i64 Try.underlying3 ok1 h1
  obtain ⟨y, rfl, hy⟩ := open_i64 Try.underlying3 ok2 h2
  clear hA0 hval0
  refine (belows_w W).mono fun e W' ⟨he, bel⟩ => ?_
  subst he
  exact ⟨_, rfl, _, _, _, [], _, [], hW', trodAll_mk1 (shut_bool Try.underlying4 _), (trodAll_cons_mk (Below.trod laidOut (by kernel_rfl) (of_decide_eq_true (by kernel_rfl)) k0 bel lt0) (trodAll_cons_mk (Below.trod laidOut (by kernel_rfl) (of_decide_eq_true (by kernel_rfl)) k1 bel lt1) (trodAll_cons_mk (Below.trod laidOut (by kernel_rfl) (of_decide_eq_true (by kernel_rfl)) k2 bel lt2) trodAll_mk0))), rfl, bel.frame _, fun h => by cases h⟩
theorem over : Rows.streamBelowsRow.holds Try.pinned (OpenSpec.ofChange Rows.streamBelowsSpec) :=
  OpenClaim.holds_of_wide 6 Try.f6 rfl rfl rfl rfl rfl rfl rfl ⟨rfl, rfl, rfl, rfl, rfl⟩ rfl rfl rfl rfl rfl (by kernel_rfl) Try.func6 (by kernel_rfl)
    (of_decide_eq_true (by kernel_rfl)) (by unfold Func.isWrapper; first | (rw [if_pos (by decide +kernel)]; kernel_rfl) | (rw [if_neg (by decide +kernel)]; exact ⟨rfl, rfl⟩))
    (fun os started H enc _ => lifted os started H enc)
theorem proved : Rows.StreamBelowsSaid := over
end streamBelows

end Go.Proofs.Ytjfhhlfjfcgcmaa
