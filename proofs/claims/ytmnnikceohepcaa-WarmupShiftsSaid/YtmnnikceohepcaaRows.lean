/-
  No cell of these rows narrows 'for every input' (looked for: loops, veiled, ifaces, maps, wideKeys, modest, calm, conditions, laid).
  DERIVED. THE GIVEN ROWS OF THIS SEAT. 6 by the template 'for every input the law returns true; each argument reads behind the call as it read before'; 0 by the template 'total and deterministic' (their statements: YtmnnikceohepcaaTotals.lean).
  GIVEN WITH THE SEED: the statements are not yours to turn. If you find one false, say at which input.
  Laid BY PROGRAM, IN A SANDBOX (cutbox-rows.mjs): the forced cells as the released guide's own fill.sh prints them over the translation 1d524629df5d5aa2… (all of the seat's roots in one cut). By AI agents, Wed Nov 11 2026. No macro, syntax, notation, axiom, sorry.
-/
import Derived.Test.YtmnnikceohepcaaChecked
import GoSem.Claim
import GoSem.ClaimJoined
import GoSem.ClaimMapViews
import Derived.JoinedTies
import Derived.KernelRfl
namespace Go.Proofs.Ytmnnikceohepcaa
/- THE CELL 'sum', in the pinned program and in every row, IS THE sha256 OF THE DUMP (.gsa) THAT YtmnnikceohepcaaProg.lean LOADS. Nothing in Lean hashes anything: it is a label: what it is worth is what the hold of that sum in a sandbox is worth. -/
noncomputable def Try.pinned : Pinned := { name := "ytmnnikceohepcaa", sum := "1d524629df5d5aa2612e8c27b6a85a075f4d8b813457fc1115aa4bf2d1df5ed7", checked := Try.checked }
namespace Rows
def none {H : Type} : Left H := { results := [], args := [] }

/-- 'simulatorlaw47.WarmupScores': WHATEVER THE INPUT: true; the input reads as it did. -/
def warmupScoresSpec : ChangeSpec := { name := "warmupScores", fn := fun _ => fun
  | [d1, d2] => { results := [.lit (.bool true)], args := [d1, d2] }
  | _ => none }
def warmupScoresRow : OpenClaim := { program := "ytmnnikceohepcaa", sum := "1d524629df5d5aa2612e8c27b6a85a075f4d8b813457fc1115aa4bf2d1df5ed7", func := "simulator/simulatorlaw47.WarmupScores", spec := "warmupScores", inPlace := ["math/bits.Add64", "math/bits.Sub64"], unfollowed := true, recurses := true, apart := false }
def WarmupScoresSaid : Prop := warmupScoresRow.holds Try.pinned (OpenSpec.ofChange warmupScoresSpec)

/-- ITS FALSE NEIGHBOUR: 'it returns false'. Refute it at one input. -/
def warmupScoresWrong : ChangeSpec := { name := "warmupScores", fn := fun _ => fun
  | [d1, d2] => { results := [.lit (.bool false)], args := [d1, d2] }
  | _ => none }
def WarmupScoresWrongFalsely : Prop := warmupScoresRow.holds Try.pinned (OpenSpec.ofChange warmupScoresWrong)

/-- 'simulatorlaw47.WarmupShifts': WHATEVER THE INPUT: true; the input reads as it did. -/
def warmupShiftsSpec : ChangeSpec := { name := "warmupShifts", fn := fun _ => fun
  | [d1, d2, d3] => { results := [.lit (.bool true)], args := [d1, d2, d3] }
  | _ => none }
def warmupShiftsRow : OpenClaim := { program := "ytmnnikceohepcaa", sum := "1d524629df5d5aa2612e8c27b6a85a075f4d8b813457fc1115aa4bf2d1df5ed7", func := "simulator/simulatorlaw47.WarmupShifts", spec := "warmupShifts", inPlace := ["math/bits.Add64", "math/bits.Sub64"], unfollowed := true, recurses := true, apart := false }
def WarmupShiftsSaid : Prop := warmupShiftsRow.holds Try.pinned (OpenSpec.ofChange warmupShiftsSpec)

/-- ITS FALSE NEIGHBOUR: 'it returns false'. Refute it at one input. -/
def warmupShiftsWrong : ChangeSpec := { name := "warmupShifts", fn := fun _ => fun
  | [d1, d2, d3] => { results := [.lit (.bool false)], args := [d1, d2, d3] }
  | _ => none }
def WarmupShiftsWrongFalsely : Prop := warmupShiftsRow.holds Try.pinned (OpenSpec.ofChange warmupShiftsWrong)

/-- 'simulatorlaw47.WarmupDetects': WHATEVER THE INPUT: true; the input reads as it did. -/
def warmupDetectsSpec : ChangeSpec := { name := "warmupDetects", fn := fun _ => fun
  | [d] => { results := [.lit (.bool true)], args := [d] }
  | _ => none }
def warmupDetectsRow : OpenClaim := { program := "ytmnnikceohepcaa", sum := "1d524629df5d5aa2612e8c27b6a85a075f4d8b813457fc1115aa4bf2d1df5ed7", func := "simulator/simulatorlaw47.WarmupDetects", spec := "warmupDetects", inPlace := ["math/bits.Add64", "math/bits.Sub64"], unfollowed := true, recurses := true, apart := false }
def WarmupDetectsSaid : Prop := warmupDetectsRow.holds Try.pinned (OpenSpec.ofChange warmupDetectsSpec)

/-- ITS FALSE NEIGHBOUR: 'it returns false'. Refute it at one input. -/
def warmupDetectsWrong : ChangeSpec := { name := "warmupDetects", fn := fun _ => fun
  | [d] => { results := [.lit (.bool false)], args := [d] }
  | _ => none }
def WarmupDetectsWrongFalsely : Prop := warmupDetectsRow.holds Try.pinned (OpenSpec.ofChange warmupDetectsWrong)

/-- 'simulatorlaw47.WarmupLeast': WHATEVER THE INPUT: true; the input reads as it did. -/
def warmupLeastSpec : ChangeSpec := { name := "warmupLeast", fn := fun _ => fun
  | [d] => { results := [.lit (.bool true)], args := [d] }
  | _ => none }
def warmupLeastRow : OpenClaim := { program := "ytmnnikceohepcaa", sum := "1d524629df5d5aa2612e8c27b6a85a075f4d8b813457fc1115aa4bf2d1df5ed7", func := "simulator/simulatorlaw47.WarmupLeast", spec := "warmupLeast", inPlace := ["math/bits.Add64", "math/bits.Sub64"], unfollowed := true, recurses := true, apart := false }
def WarmupLeastSaid : Prop := warmupLeastRow.holds Try.pinned (OpenSpec.ofChange warmupLeastSpec)

/-- ITS FALSE NEIGHBOUR: 'it returns false'. Refute it at one input. -/
def warmupLeastWrong : ChangeSpec := { name := "warmupLeast", fn := fun _ => fun
  | [d] => { results := [.lit (.bool false)], args := [d] }
  | _ => none }
def WarmupLeastWrongFalsely : Prop := warmupLeastRow.holds Try.pinned (OpenSpec.ofChange warmupLeastWrong)

/-- 'simulatorlaw47.WarmupCuts': WHATEVER THE INPUT: true; the input reads as it did. -/
def warmupCutsSpec : ChangeSpec := { name := "warmupCuts", fn := fun _ => fun
  | [d1, d2] => { results := [.lit (.bool true)], args := [d1, d2] }
  | _ => none }
def warmupCutsRow : OpenClaim := { program := "ytmnnikceohepcaa", sum := "1d524629df5d5aa2612e8c27b6a85a075f4d8b813457fc1115aa4bf2d1df5ed7", func := "simulator/simulatorlaw47.WarmupCuts", spec := "warmupCuts", inPlace := ["math/bits.Add64", "math/bits.Sub64"], unfollowed := true, recurses := true, apart := false }
def WarmupCutsSaid : Prop := warmupCutsRow.holds Try.pinned (OpenSpec.ofChange warmupCutsSpec)

/-- ITS FALSE NEIGHBOUR: 'it returns false'. Refute it at one input. -/
def warmupCutsWrong : ChangeSpec := { name := "warmupCuts", fn := fun _ => fun
  | [d1, d2] => { results := [.lit (.bool false)], args := [d1, d2] }
  | _ => none }
def WarmupCutsWrongFalsely : Prop := warmupCutsRow.holds Try.pinned (OpenSpec.ofChange warmupCutsWrong)

/-- 'simulatorlaw47.WarmupBatches': WHATEVER THE INPUT: true; the input reads as it did. -/
def warmupBatchesSpec : ChangeSpec := { name := "warmupBatches", fn := fun _ => fun
  | [d1, d2, d3] => { results := [.lit (.bool true)], args := [d1, d2, d3] }
  | _ => none }
def warmupBatchesRow : OpenClaim := { program := "ytmnnikceohepcaa", sum := "1d524629df5d5aa2612e8c27b6a85a075f4d8b813457fc1115aa4bf2d1df5ed7", func := "simulator/simulatorlaw47.WarmupBatches", spec := "warmupBatches", inPlace := ["math/bits.Add64", "math/bits.Sub64"], unfollowed := true, recurses := true, apart := false }
def WarmupBatchesSaid : Prop := warmupBatchesRow.holds Try.pinned (OpenSpec.ofChange warmupBatchesSpec)

/-- ITS FALSE NEIGHBOUR: 'it returns false'. Refute it at one input. -/
def warmupBatchesWrong : ChangeSpec := { name := "warmupBatches", fn := fun _ => fun
  | [d1, d2, d3] => { results := [.lit (.bool false)], args := [d1, d2, d3] }
  | _ => none }
def WarmupBatchesWrongFalsely : Prop := warmupBatchesRow.holds Try.pinned (OpenSpec.ofChange warmupBatchesWrong)

/- THE SECOND FORM. 'bulk': how many values and letters a reading holds, each counted each time it is reached (what is shared counts as often as it is met; a slice's spare places count too). A statement '..UptoSaid' is the law's where the arguments, and the package variables that the reading takes, are together of bulk at most 1048576: NARROWER than '..Said'. Prove '..Said' where nothing that the law and all that it calls make is longer than what came in: it says more and counts as full. Else prove '..UptoSaid'. A law counts once. -/
mutual
def uptoBulk {H : Type} : DataW H → Nat
  | .lit (.string bytes) => bytes.length + 1
  | .lit _ => 1
  | .nil => 1
  | .ptr d => uptoBulk d + 1
  | .slice elems spare => uptoBulkAll elems + uptoBulkAll spare + 1
  | .agg parts => uptoBulkAll parts + 1
  | .iface _ d => uptoBulk d + 1
  | .map entries => uptoBulkEntries entries + 1
  | .held _ => 1
def uptoBulkAll {H : Type} : List (DataW H) → Nat
  | [] => 0
  | d :: r => uptoBulk d + uptoBulkAll r
def uptoBulkEntries {H : Type} : List (Lit × DataW H) → Nat
  | [] => 0
  | x :: r => uptoBulkEntry x + uptoBulkEntries r
def uptoBulkEntry {H : Type} : Lit × DataW H → Nat
  | (.string bytes, d) => bytes.length + uptoBulk d + 1
  | (_, d) => uptoBulk d + 1
 end
def uptoSmall : (H : Type) → List (DataW H) → Bool := fun _ ds => decide (uptoBulkAll ds ≤ 1048576)
def OpenSpec.upto (s : _root_.Go.ChangeSpec) : _root_.Go.OpenSpec := { _root_.Go.OpenSpec.ofChange s with cond := some uptoSmall }

/-- 'simulatorlaw47.WarmupScores', WHERE WHAT IT READS IS OF BULK AT MOST 1048576: true; the input reads as it did. -/
def warmupScoresUptoRow : OpenClaim := { program := "ytmnnikceohepcaa", sum := "1d524629df5d5aa2612e8c27b6a85a075f4d8b813457fc1115aa4bf2d1df5ed7", func := "simulator/simulatorlaw47.WarmupScores", spec := "warmupScores", inPlace := ["math/bits.Add64", "math/bits.Sub64"], unfollowed := true, recurses := true, apart := false, narrowed := true }
def WarmupScoresUptoSaid : Prop := warmupScoresUptoRow.holds Try.pinned (OpenSpec.upto warmupScoresSpec)

/-- 'simulatorlaw47.WarmupShifts', WHERE WHAT IT READS IS OF BULK AT MOST 1048576: true; the input reads as it did. -/
def warmupShiftsUptoRow : OpenClaim := { program := "ytmnnikceohepcaa", sum := "1d524629df5d5aa2612e8c27b6a85a075f4d8b813457fc1115aa4bf2d1df5ed7", func := "simulator/simulatorlaw47.WarmupShifts", spec := "warmupShifts", inPlace := ["math/bits.Add64", "math/bits.Sub64"], unfollowed := true, recurses := true, apart := false, narrowed := true }
def WarmupShiftsUptoSaid : Prop := warmupShiftsUptoRow.holds Try.pinned (OpenSpec.upto warmupShiftsSpec)

/-- 'simulatorlaw47.WarmupDetects', WHERE WHAT IT READS IS OF BULK AT MOST 1048576: true; the input reads as it did. -/
def warmupDetectsUptoRow : OpenClaim := { program := "ytmnnikceohepcaa", sum := "1d524629df5d5aa2612e8c27b6a85a075f4d8b813457fc1115aa4bf2d1df5ed7", func := "simulator/simulatorlaw47.WarmupDetects", spec := "warmupDetects", inPlace := ["math/bits.Add64", "math/bits.Sub64"], unfollowed := true, recurses := true, apart := false, narrowed := true }
def WarmupDetectsUptoSaid : Prop := warmupDetectsUptoRow.holds Try.pinned (OpenSpec.upto warmupDetectsSpec)

/-- 'simulatorlaw47.WarmupLeast', WHERE WHAT IT READS IS OF BULK AT MOST 1048576: true; the input reads as it did. -/
def warmupLeastUptoRow : OpenClaim := { program := "ytmnnikceohepcaa", sum := "1d524629df5d5aa2612e8c27b6a85a075f4d8b813457fc1115aa4bf2d1df5ed7", func := "simulator/simulatorlaw47.WarmupLeast", spec := "warmupLeast", inPlace := ["math/bits.Add64", "math/bits.Sub64"], unfollowed := true, recurses := true, apart := false, narrowed := true }
def WarmupLeastUptoSaid : Prop := warmupLeastUptoRow.holds Try.pinned (OpenSpec.upto warmupLeastSpec)

/-- 'simulatorlaw47.WarmupCuts', WHERE WHAT IT READS IS OF BULK AT MOST 1048576: true; the input reads as it did. -/
def warmupCutsUptoRow : OpenClaim := { program := "ytmnnikceohepcaa", sum := "1d524629df5d5aa2612e8c27b6a85a075f4d8b813457fc1115aa4bf2d1df5ed7", func := "simulator/simulatorlaw47.WarmupCuts", spec := "warmupCuts", inPlace := ["math/bits.Add64", "math/bits.Sub64"], unfollowed := true, recurses := true, apart := false, narrowed := true }
def WarmupCutsUptoSaid : Prop := warmupCutsUptoRow.holds Try.pinned (OpenSpec.upto warmupCutsSpec)

/-- 'simulatorlaw47.WarmupBatches', WHERE WHAT IT READS IS OF BULK AT MOST 1048576: true; the input reads as it did. -/
def warmupBatchesUptoRow : OpenClaim := { program := "ytmnnikceohepcaa", sum := "1d524629df5d5aa2612e8c27b6a85a075f4d8b813457fc1115aa4bf2d1df5ed7", func := "simulator/simulatorlaw47.WarmupBatches", spec := "warmupBatches", inPlace := ["math/bits.Add64", "math/bits.Sub64"], unfollowed := true, recurses := true, apart := false, narrowed := true }
def WarmupBatchesUptoSaid : Prop := warmupBatchesUptoRow.holds Try.pinned (OpenSpec.upto warmupBatchesSpec)

end Rows
end Go.Proofs.Ytmnnikceohepcaa
