/-
  No cell of these rows narrows 'for every input' (looked for: loops, veiled, ifaces, maps, wideKeys, modest, calm, conditions, laid).
  DERIVED. THE GIVEN ROWS OF THIS SEAT. 6 by the template 'for every input the law returns true; each argument reads behind the call as it read before'; 0 by the template 'total and deterministic' (their statements: YtpmplppkjedpiaaTotals.lean).
  GIVEN WITH THE SEED: the statements are not yours to turn. If you find one false, say at which input.
  Laid BY PROGRAM, IN A SANDBOX (cutbox-rows.mjs): the forced cells as the released guide's own fill.sh prints them over the translation e5b369a2f9d1dfc4… (all of the seat's roots in one cut). By AI agents, Wed Nov 11 2026. No macro, syntax, notation, axiom, sorry.
-/
import Derived.Test.YtpmplppkjedpiaaChecked
import GoSem.Claim
import GoSem.ClaimJoined
import GoSem.ClaimMapViews
import Derived.JoinedTies
import Derived.KernelRfl
namespace Go.Proofs.Ytpmplppkjedpiaa
/- THE CELL 'sum', in the pinned program and in every row, IS THE sha256 OF THE DUMP (.gsa) THAT YtpmplppkjedpiaaProg.lean LOADS. Nothing in Lean hashes anything: it is a label: what it is worth is what the hold of that sum in a sandbox is worth. -/
noncomputable def Try.pinned : Pinned := { name := "ytpmplppkjedpiaa", sum := "e5b369a2f9d1dfc4a0b5dc05216a00dad571b246dbe3ba3d0349b461c5050d73", checked := Try.checked }
namespace Rows
def none {H : Type} : Left H := { results := [], args := [] }

/-- 'simulatorlaw25.FaultNexts': WHATEVER THE INPUT: true; the input reads as it did. -/
def faultNextsSpec : ChangeSpec := { name := "faultNexts", fn := fun _ => fun
  | [d1, d2, d3] => { results := [.lit (.bool true)], args := [d1, d2, d3] }
  | _ => none }
def faultNextsRow : OpenClaim := { program := "ytpmplppkjedpiaa", sum := "e5b369a2f9d1dfc4a0b5dc05216a00dad571b246dbe3ba3d0349b461c5050d73", func := "simulator/simulatorlaw25.FaultNexts", spec := "faultNexts", unfollowed := true, recurses := true, named := ["math/bits.divideError", "math/bits.overflowError"], apart := false }
def FaultNextsSaid : Prop := faultNextsRow.holds Try.pinned (OpenSpec.ofChange faultNextsSpec)

/-- ITS FALSE NEIGHBOUR: 'it returns false'. Refute it at one input. -/
def faultNextsWrong : ChangeSpec := { name := "faultNexts", fn := fun _ => fun
  | [d1, d2, d3] => { results := [.lit (.bool false)], args := [d1, d2, d3] }
  | _ => none }
def FaultNextsWrongFalsely : Prop := faultNextsRow.holds Try.pinned (OpenSpec.ofChange faultNextsWrong)

/-- 'simulatorlaw25.FaultCourses': WHATEVER THE INPUT: true; the input reads as it did. -/
def faultCoursesSpec : ChangeSpec := { name := "faultCourses", fn := fun _ => fun
  | [d1, d2, d3] => { results := [.lit (.bool true)], args := [d1, d2, d3] }
  | _ => none }
def faultCoursesRow : OpenClaim := { program := "ytpmplppkjedpiaa", sum := "e5b369a2f9d1dfc4a0b5dc05216a00dad571b246dbe3ba3d0349b461c5050d73", func := "simulator/simulatorlaw25.FaultCourses", spec := "faultCourses", unfollowed := true, recurses := true, named := ["math/bits.divideError", "math/bits.overflowError"], apart := false }
def FaultCoursesSaid : Prop := faultCoursesRow.holds Try.pinned (OpenSpec.ofChange faultCoursesSpec)

/-- ITS FALSE NEIGHBOUR: 'it returns false'. Refute it at one input. -/
def faultCoursesWrong : ChangeSpec := { name := "faultCourses", fn := fun _ => fun
  | [d1, d2, d3] => { results := [.lit (.bool false)], args := [d1, d2, d3] }
  | _ => none }
def FaultCoursesWrongFalsely : Prop := faultCoursesRow.holds Try.pinned (OpenSpec.ofChange faultCoursesWrong)

/-- 'simulatorlaw25.FaultSteps': WHATEVER THE INPUT: true; the input reads as it did. -/
def faultStepsSpec : ChangeSpec := { name := "faultSteps", fn := fun _ => fun
  | [d1, d2, d3] => { results := [.lit (.bool true)], args := [d1, d2, d3] }
  | _ => none }
def faultStepsRow : OpenClaim := { program := "ytpmplppkjedpiaa", sum := "e5b369a2f9d1dfc4a0b5dc05216a00dad571b246dbe3ba3d0349b461c5050d73", func := "simulator/simulatorlaw25.FaultSteps", spec := "faultSteps", unfollowed := true, recurses := true, named := ["math/bits.divideError", "math/bits.overflowError"], apart := false }
def FaultStepsSaid : Prop := faultStepsRow.holds Try.pinned (OpenSpec.ofChange faultStepsSpec)

/-- ITS FALSE NEIGHBOUR: 'it returns false'. Refute it at one input. -/
def faultStepsWrong : ChangeSpec := { name := "faultSteps", fn := fun _ => fun
  | [d1, d2, d3] => { results := [.lit (.bool false)], args := [d1, d2, d3] }
  | _ => none }
def FaultStepsWrongFalsely : Prop := faultStepsRow.holds Try.pinned (OpenSpec.ofChange faultStepsWrong)

/-- 'simulatorlaw25.FaultLonger': WHATEVER THE INPUT: true; the input reads as it did. -/
def faultLongerSpec : ChangeSpec := { name := "faultLonger", fn := fun _ => fun
  | [d1, d2, d3, d4] => { results := [.lit (.bool true)], args := [d1, d2, d3, d4] }
  | _ => none }
def faultLongerRow : OpenClaim := { program := "ytpmplppkjedpiaa", sum := "e5b369a2f9d1dfc4a0b5dc05216a00dad571b246dbe3ba3d0349b461c5050d73", func := "simulator/simulatorlaw25.FaultLonger", spec := "faultLonger", unfollowed := true, recurses := true, named := ["math/bits.divideError", "math/bits.overflowError"], apart := false }
def FaultLongerSaid : Prop := faultLongerRow.holds Try.pinned (OpenSpec.ofChange faultLongerSpec)

/-- ITS FALSE NEIGHBOUR: 'it returns false'. Refute it at one input. -/
def faultLongerWrong : ChangeSpec := { name := "faultLonger", fn := fun _ => fun
  | [d1, d2, d3, d4] => { results := [.lit (.bool false)], args := [d1, d2, d3, d4] }
  | _ => none }
def FaultLongerWrongFalsely : Prop := faultLongerRow.holds Try.pinned (OpenSpec.ofChange faultLongerWrong)

/-- 'simulatorlaw25.FaultUptimes': WHATEVER THE INPUT: true; the input reads as it did. -/
def faultUptimesSpec : ChangeSpec := { name := "faultUptimes", fn := fun _ => fun
  | [d1, d2, d3] => { results := [.lit (.bool true)], args := [d1, d2, d3] }
  | _ => none }
def faultUptimesRow : OpenClaim := { program := "ytpmplppkjedpiaa", sum := "e5b369a2f9d1dfc4a0b5dc05216a00dad571b246dbe3ba3d0349b461c5050d73", func := "simulator/simulatorlaw25.FaultUptimes", spec := "faultUptimes", unfollowed := true, recurses := true, named := ["math/bits.divideError", "math/bits.overflowError"], apart := false }
def FaultUptimesSaid : Prop := faultUptimesRow.holds Try.pinned (OpenSpec.ofChange faultUptimesSpec)

/-- ITS FALSE NEIGHBOUR: 'it returns false'. Refute it at one input. -/
def faultUptimesWrong : ChangeSpec := { name := "faultUptimes", fn := fun _ => fun
  | [d1, d2, d3] => { results := [.lit (.bool false)], args := [d1, d2, d3] }
  | _ => none }
def FaultUptimesWrongFalsely : Prop := faultUptimesRow.holds Try.pinned (OpenSpec.ofChange faultUptimesWrong)

/-- 'simulatorlaw25.FaultAdds': WHATEVER THE INPUT: true; the input reads as it did. -/
def faultAddsSpec : ChangeSpec := { name := "faultAdds", fn := fun _ => fun
  | [d1, d2, d3, d4] => { results := [.lit (.bool true)], args := [d1, d2, d3, d4] }
  | _ => none }
def faultAddsRow : OpenClaim := { program := "ytpmplppkjedpiaa", sum := "e5b369a2f9d1dfc4a0b5dc05216a00dad571b246dbe3ba3d0349b461c5050d73", func := "simulator/simulatorlaw25.FaultAdds", spec := "faultAdds", unfollowed := true, recurses := true, named := ["math/bits.divideError", "math/bits.overflowError"], apart := false }
def FaultAddsSaid : Prop := faultAddsRow.holds Try.pinned (OpenSpec.ofChange faultAddsSpec)

/-- ITS FALSE NEIGHBOUR: 'it returns false'. Refute it at one input. -/
def faultAddsWrong : ChangeSpec := { name := "faultAdds", fn := fun _ => fun
  | [d1, d2, d3, d4] => { results := [.lit (.bool false)], args := [d1, d2, d3, d4] }
  | _ => none }
def FaultAddsWrongFalsely : Prop := faultAddsRow.holds Try.pinned (OpenSpec.ofChange faultAddsWrong)

/- THE SECOND FORM. 'bulk': how many values and letters a reading holds, each counted each time it is reached (what is shared counts as often as it is met; a slice's spare places count too). A statement '..UptoSaid' is the law's where the arguments, and the package variables that the reading takes, are together of bulk at most 1048576: NARROWER than '..Said'. Prove '..Said' where nothing that the law and all that it calls make is longer than what came in: it says more and counts as full. Else prove '..UptoSaid'. A law counts once. -/
mutual
def uptoBulk {H : Type} : DataW H → Nat
  | .lit (.string bytes) => bytes.length + 1
  | .lit _ => 1
  | .nil => 1
  | .ptr d => uptoBulk d + 1
  | .slice elems spare => uptoBulkAll elems + uptoBulkAll spare + 1
  | .agg parts => uptoBulkAll parts + 1
  | .iface _ d => uptoBulk d + 1
  | .map entries => uptoBulkEntries entries + 1
  | .held _ => 1
def uptoBulkAll {H : Type} : List (DataW H) → Nat
  | [] => 0
  | d :: r => uptoBulk d + uptoBulkAll r
def uptoBulkEntries {H : Type} : List (Lit × DataW H) → Nat
  | [] => 0
  | x :: r => uptoBulkEntry x + uptoBulkEntries r
def uptoBulkEntry {H : Type} : Lit × DataW H → Nat
  | (.string bytes, d) => bytes.length + uptoBulk d + 1
  | (_, d) => uptoBulk d + 1
 end
def uptoSmall : (H : Type) → List (DataW H) → Bool := fun _ ds => decide (uptoBulkAll ds ≤ 1048576)
def OpenSpec.upto (s : _root_.Go.ChangeSpec) : _root_.Go.OpenSpec := { _root_.Go.OpenSpec.ofChange s with cond := some uptoSmall }

/-- 'simulatorlaw25.FaultNexts', WHERE WHAT IT READS IS OF BULK AT MOST 1048576: true; the input reads as it did. -/
def faultNextsUptoRow : OpenClaim := { program := "ytpmplppkjedpiaa", sum := "e5b369a2f9d1dfc4a0b5dc05216a00dad571b246dbe3ba3d0349b461c5050d73", func := "simulator/simulatorlaw25.FaultNexts", spec := "faultNexts", unfollowed := true, recurses := true, named := ["math/bits.divideError", "math/bits.overflowError"], apart := false, narrowed := true }
def FaultNextsUptoSaid : Prop := faultNextsUptoRow.holds Try.pinned (OpenSpec.upto faultNextsSpec)

/-- 'simulatorlaw25.FaultCourses', WHERE WHAT IT READS IS OF BULK AT MOST 1048576: true; the input reads as it did. -/
def faultCoursesUptoRow : OpenClaim := { program := "ytpmplppkjedpiaa", sum := "e5b369a2f9d1dfc4a0b5dc05216a00dad571b246dbe3ba3d0349b461c5050d73", func := "simulator/simulatorlaw25.FaultCourses", spec := "faultCourses", unfollowed := true, recurses := true, named := ["math/bits.divideError", "math/bits.overflowError"], apart := false, narrowed := true }
def FaultCoursesUptoSaid : Prop := faultCoursesUptoRow.holds Try.pinned (OpenSpec.upto faultCoursesSpec)

/-- 'simulatorlaw25.FaultSteps', WHERE WHAT IT READS IS OF BULK AT MOST 1048576: true; the input reads as it did. -/
def faultStepsUptoRow : OpenClaim := { program := "ytpmplppkjedpiaa", sum := "e5b369a2f9d1dfc4a0b5dc05216a00dad571b246dbe3ba3d0349b461c5050d73", func := "simulator/simulatorlaw25.FaultSteps", spec := "faultSteps", unfollowed := true, recurses := true, named := ["math/bits.divideError", "math/bits.overflowError"], apart := false, narrowed := true }
def FaultStepsUptoSaid : Prop := faultStepsUptoRow.holds Try.pinned (OpenSpec.upto faultStepsSpec)

/-- 'simulatorlaw25.FaultLonger', WHERE WHAT IT READS IS OF BULK AT MOST 1048576: true; the input reads as it did. -/
def faultLongerUptoRow : OpenClaim := { program := "ytpmplppkjedpiaa", sum := "e5b369a2f9d1dfc4a0b5dc05216a00dad571b246dbe3ba3d0349b461c5050d73", func := "simulator/simulatorlaw25.FaultLonger", spec := "faultLonger", unfollowed := true, recurses := true, named := ["math/bits.divideError", "math/bits.overflowError"], apart := false, narrowed := true }
def FaultLongerUptoSaid : Prop := faultLongerUptoRow.holds Try.pinned (OpenSpec.upto faultLongerSpec)

/-- 'simulatorlaw25.FaultUptimes', WHERE WHAT IT READS IS OF BULK AT MOST 1048576: true; the input reads as it did. -/
def faultUptimesUptoRow : OpenClaim := { program := "ytpmplppkjedpiaa", sum := "e5b369a2f9d1dfc4a0b5dc05216a00dad571b246dbe3ba3d0349b461c5050d73", func := "simulator/simulatorlaw25.FaultUptimes", spec := "faultUptimes", unfollowed := true, recurses := true, named := ["math/bits.divideError", "math/bits.overflowError"], apart := false, narrowed := true }
def FaultUptimesUptoSaid : Prop := faultUptimesUptoRow.holds Try.pinned (OpenSpec.upto faultUptimesSpec)

/-- 'simulatorlaw25.FaultAdds', WHERE WHAT IT READS IS OF BULK AT MOST 1048576: true; the input reads as it did. -/
def faultAddsUptoRow : OpenClaim := { program := "ytpmplppkjedpiaa", sum := "e5b369a2f9d1dfc4a0b5dc05216a00dad571b246dbe3ba3d0349b461c5050d73", func := "simulator/simulatorlaw25.FaultAdds", spec := "faultAdds", unfollowed := true, recurses := true, named := ["math/bits.divideError", "math/bits.overflowError"], apart := false, narrowed := true }
def FaultAddsUptoSaid : Prop := faultAddsUptoRow.holds Try.pinned (OpenSpec.upto faultAddsSpec)

end Rows
end Go.Proofs.Ytpmplppkjedpiaa
