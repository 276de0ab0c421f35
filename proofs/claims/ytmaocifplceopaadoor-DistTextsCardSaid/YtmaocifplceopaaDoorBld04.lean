/-
  strings.Builder at this seat: what copyCheck and String do.
-/
import Derived.Test.YtmaocifplceopaaDoorProg
import Derived.Test.YtmaocifplceopaaDoorSymX
import Derived.KernelRfl
import Derived.Shelf.RegionOpenPlain
import Derived.Lib.Builder
import Derived.Lib.UnsafeStr
import Derived.Lib.MakeNoZero
import Derived.WalkKit
import Derived.Laws.Externs
namespace Go.Proofs.YtmaocifplceopaaDoor
open Go.RowKit Go.Shelf
set_option linter.unusedVariables false

theorem liesB : liesAt Tryd.prog Tryd.prog.depth 59 (2 / Tryd.prog.cellsOf 59) 0 59 1 = true := by kernel_rfl
theorem sizeB' : (Tryd.prog.info? 59).map (·.size) = some 2 := by kernel_rfl
set_option maxHeartbeats 1000000 in
set_option maxRecDepth 100000 in
theorem cc_used (b : Nat) (w : World) (h0 : w.cell? ⟨b, 0, none⟩ = some (.pointer (some ⟨b, 0, none⟩))) :
    Calls Tryd.prog 63 #[.pointer (some ⟨b, 0, none⟩)] w fun e w' => e = .returned (.tuple #[]) ∧ w' = w := by
  obtain ⟨j, hj, _⟩ := Option.map_eq_some_iff.1 sizeB'
  have mixed : Tryd.prog.follows .mixedOrders = true := by kernel_rfl
  have tb := Tryd.underlying59; have ab := Tryd.isAgg59; have zb := Tryd.sizeOf59; have ub := run_underlying Tryd.underlying59
  have tp := Tryd.underlying56; have ap := Tryd.isAgg56; have zp := Tryd.sizeOf56; have up := run_underlying Tryd.underlying56
  go_enter Tryd.func63, Tryd.ntmps63
  go_wp2
  rw [Lib.run_neq_ptr_same w _ tp hj]
  go_wp2
  go_end0
  exact ⟨rfl, rfl⟩
set_option maxHeartbeats 1000000 in
set_option maxRecDepth 100000 in
theorem cc_fresh (b : Nat) (w : World) (h0 : w.cell? ⟨b, 0, none⟩ = some (.pointer none)) (hsh : w.shape? b = some (59, 2)) (hfz : w.frozen? ⟨b, 0, none⟩ = false) :
    Calls Tryd.prog 63 #[.pointer (some ⟨b, 0, none⟩)] w fun e w' => e = .returned (.tuple #[]) ∧ w' = w.setCell ⟨b, 0, none⟩ (.pointer (some ⟨b, 0, none⟩)) := by
  obtain ⟨j, hj, hjs⟩ := Option.map_eq_some_iff.1 sizeB'
  have mixed : Tryd.prog.follows .mixedOrders = true := by kernel_rfl
  have tb := Tryd.underlying59; have ab := Tryd.isAgg59; have zb := Tryd.sizeOf59; have ub := run_underlying Tryd.underlying59
  have tp := Tryd.underlying56; have ap := Tryd.isAgg56; have zp := Tryd.sizeOf56; have up := run_underlying Tryd.underlying56
  have tu := Tryd.underlying96; have au := Tryd.isAgg96; have zu := Tryd.sizeOf96; have uu := run_underlying Tryd.underlying96
  go_enter Tryd.func63, Tryd.ntmps63
  go_wp2
  rw [Lib.run_to_unsafe w ⟨b, 0, none⟩ tp tu hj (by rw [hjs]; decide) hsh (Nat.zero_lt_succ 1)]
  simp only [Result.andThen]
  rw [Oper.upon_value]
  go_wp2
  rw [run_callFunc_extern Tryd.func78 (by kernel_rfl) (by kernel_rfl) (by kernel_rfl) (e := Extern.AbiNoEscape.same) (by kernel_rfl)]
  rw [Lib.run_noEscape]
  simp only [Result.andThen]
  rw [Oper.upon_value]
  go_wp2
  rw [Lib.run_from_unsafe w ⟨b, 0, none⟩ tu tp hj hsh liesB]
  simp only [Result.andThen]
  rw [Oper.upon_value]
  go_wp2
  go_end0
  exact ⟨rfl, rfl⟩
theorem infoU8 : (Tryd.prog.info? 5).map (fun i => (i.size)) = some 1 := by kernel_rfl
theorem cellsU8 : Tryd.prog.cellsOf 5 = 1 := by kernel_rfl
set_option maxHeartbeats 1000000 in
set_option maxRecDepth 100000 in
theorem sf_run (n g cap : Nat) (p : Value) (l : List UInt8) (cur : Array Value) (w : World) (h0 : l ≠ []) (hbk : w.heap[n]? = some (.cells #[p, .slice (some ⟨g, 0, none⟩) l.length cap] 59 (0, 0)))
    (hg : w.heap[g]? = some (.cells cur 5 (0, 0))) (hnc : l.length ≤ cap) (hcm : cap ≤ maxLen) (hcs : cur.size = cap) (htake : cur.toList.take l.length = Lib.byteCells l) :
    Calls Tryd.prog 42 #[.pointer (some ⟨n, 0, none⟩)] w fun e w' => e = .returned (.string ⟨l.toArray⟩) ∧ w' = w.drew.freeze ⟨g, 0, none⟩ l.length := by
  have hl0 : l.length ≠ 0 := by simpa using h0
  have c1 : w.drew.cell? ⟨n, 1, none⟩ = some (.slice (some ⟨g, 0, none⟩) l.length cap) := by
    have : w.drew.heap[n]? = some (.cells #[p, .slice (some ⟨g, 0, none⟩) l.length cap] 59 (0, 0)) := hbk
    rw [Lib.cell_of_heap this]; rfl
  have hSD : (Builtin.unsafeSliceData_ #[57] 82 #[.slice (some ⟨g, 0, none⟩) l.length cap]).run Tryd.prog w.drew = .ok (.pointer (some ⟨g, 0, none⟩)) w.drew :=
    Lib.run_unsafeSliceData_row _ _ _ _ _ _ (by omega)
  have hUS : (Builtin.unsafeString_ #[82, 3] 9 #[.pointer (some ⟨g, 0, none⟩), .int .i64 l.length]).run Tryd.prog w.drew = .ok (.string ⟨l.toArray⟩) (w.drew.freeze ⟨g, 0, none⟩ l.length) := by
    refine Lib.run_unsafeString_row w.drew 82 3 9 5 Tryd.underlying82 cellsU8 g cur.size (by have hg' : w.drew.heap[g]? = some (.cells cur 5 (0, 0)) := hg; simp [World.shape?, hg']) l h0 (by omega) (by unfold maxLen at hcm; omega) ?_
    intro j x hx
    have hg' : w.drew.heap[g]? = some (.cells cur 5 (0, 0)) := hg
    have h1 : (Lib.byteCells l)[j]? = some (.int .u8 x.toNat) := by simp [Lib.byteCells, hx]
    rw [← htake] at h1
    have h2 : cur.toList[j]? = some (.int .u8 x.toNat) := by
      rw [List.getElem?_take] at h1
      split at h1
      · exact h1
      · cases h1
    have h3 : (⟨g, 0, none⟩ : Addr).add j = ⟨g, j, none⟩ := by simp [Addr.add]; exact fun e => e.symm
    rw [h3, Lib.cell_of_heap hg']
    simpa using h2
  have mixed : Tryd.prog.follows .mixedOrders = true := by kernel_rfl
  have tb := Tryd.underlying59; have ab := Tryd.isAgg59; have zb := Tryd.sizeOf59; have ub := run_underlying Tryd.underlying59
  have tp := Tryd.underlying56; have ap := Tryd.isAgg56; have zp := Tryd.sizeOf56; have up := run_underlying Tryd.underlying56
  have ts := Tryd.underlying57; have a_s := Tryd.isAgg57; have zs := Tryd.sizeOf57; have us := run_underlying Tryd.underlying57
  have tq := Tryd.underlying82; have aq := Tryd.isAgg82; have zq := Tryd.sizeOf82; have uq := run_underlying Tryd.underlying82
  have ti := Tryd.underlying3; have ai := Tryd.isAgg3; have zi := Tryd.sizeOf3; have ui := run_underlying Tryd.underlying3
  have tz := Tryd.underlying9; have az := Tryd.isAgg9; have zz := Tryd.sizeOf9; have uz := run_underlying Tryd.underlying9
  go_enter Tryd.func42, Tryd.ntmps42
  go_wp2
  go_region_o
  all_goals (go_wp2; go_ret; exact ⟨rfl, rfl⟩)
theorem bdOk : (⟨63, 42, 59, 5⟩ : Bd).ok Tryd.prog where
  cc n p y w h hp := by
    have hlt : n < w.heap.size := (Array.getElem?_eq_some_iff.1 h).1
    have c0 : w.cell? ⟨n, 0, none⟩ = some p := by rw [Lib.cell_of_heap h]; rfl
    rcases hp with rfl | rfl
    · refine (cc_fresh n w c0 (by simp [World.shape?, h]) (Lib.frozen_of_heap h 0)).mono ?_
      rintro e w' ⟨rfl, rfl⟩
      refine ⟨rfl, by simp [World.setCell], ?_, fun m hm => Below.heap_setCell _ _ _ _ (fun e => hm (by simp [e])), fun B w0 hb hB => hb.setCell (p := ⟨n, 0, none⟩) hB _⟩
      simp [World.setCell, Array.getElem?_modify, h]
    · refine (cc_used n w c0).mono ?_
      rintro e w' ⟨rfl, rfl⟩
      exact ⟨rfl, rfl, h, fun _ _ => rfl, fun _ _ hb _ => hb⟩
  sf n g cap p l cur w h0 hbk hg hnc hcm hcs ht := by
    refine (sf_run n g cap p l cur w h0 hbk hg hnc hcm hcs ht).mono ?_
    rintro e w' ⟨rfl, rfl⟩
    refine ⟨rfl, ?_, fun m hm => ?_, fun B w0 hb hB => Lib.below_freeze (Below.drew hb) (p := ⟨g, 0, none⟩) hB _⟩
    · unfold World.freeze; split
      · rfl
      · exact Array.size_modify
    · unfold World.freeze; split
      · rfl
      · simp only [Array.getElem?_modify]
        rw [if_neg (fun e => hm e.symm)]; rfl
instance : Bld Tryd.prog := ⟨some ⟨63, 42, 59, 5⟩, fun b hb => by cases hb; exact bdOk⟩
end Go.Proofs.YtmaocifplceopaaDoor
