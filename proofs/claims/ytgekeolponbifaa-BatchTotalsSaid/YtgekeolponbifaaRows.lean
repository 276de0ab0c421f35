/-
  No cell of these rows narrows 'for every input' (looked for: loops, veiled, ifaces, maps, wideKeys, modest, calm, conditions, laid).
  DERIVED. THE GIVEN ROWS OF THIS SEAT. 7 by the template 'for every input the law returns true; each argument reads behind the call as it read before'; 0 by the template 'total and deterministic' (their statements: YtgekeolponbifaaTotals.lean).
  GIVEN WITH THE SEED: the statements are not yours to turn. If you find one false, say at which input.
  Laid BY PROGRAM, IN A SANDBOX (cutbox-rows.mjs): the forced cells as the released guide's own fill.sh prints them over the translation 81d22ced82213a89… (all of the seat's roots in one cut). By AI agents, Wed Nov 11 2026. No macro, syntax, notation, axiom, sorry.
-/
import Derived.Test.YtgekeolponbifaaChecked
import GoSem.Claim
import GoSem.ClaimJoined
import GoSem.ClaimMapViews
import Derived.JoinedTies
import Derived.KernelRfl
namespace Go.Proofs.Ytgekeolponbifaa
/- THE CELL 'sum', in the pinned program and in every row, IS THE sha256 OF THE DUMP (.gsa) THAT YtgekeolponbifaaProg.lean LOADS. Nothing in Lean hashes anything: it is a label: what it is worth is what the hold of that sum in a sandbox is worth. -/
noncomputable def Try.pinned : Pinned := { name := "ytgekeolponbifaa", sum := "81d22ced82213a89b52832dd86e46fa9e4f4d016d98b48fb63fc45f08c47d636", checked := Try.checked }
namespace Rows
def none {H : Type} : Left H := { results := [], args := [] }

/-- 'simulatorlaw48.BatchMeans': WHATEVER THE INPUT: true; the input reads as it did. -/
def batchMeansSpec : ChangeSpec := { name := "batchMeans", fn := fun _ => fun
  | [d1, d2] => { results := [.lit (.bool true)], args := [d1, d2] }
  | _ => none }
def batchMeansRow : OpenClaim := { program := "ytgekeolponbifaa", sum := "81d22ced82213a89b52832dd86e46fa9e4f4d016d98b48fb63fc45f08c47d636", func := "simulator/simulatorlaw48.BatchMeans", spec := "batchMeans", inPlace := ["math/bits.Add64", "math/bits.Sub64"], unfollowed := true, recurses := true, named := ["math/bits.divideError", "math/bits.overflowError"], apart := false }
def BatchMeansSaid : Prop := batchMeansRow.holds Try.pinned (OpenSpec.ofChange batchMeansSpec)

/-- ITS FALSE NEIGHBOUR: 'it returns false'. Refute it at one input. -/
def batchMeansWrong : ChangeSpec := { name := "batchMeans", fn := fun _ => fun
  | [d1, d2] => { results := [.lit (.bool false)], args := [d1, d2] }
  | _ => none }
def BatchMeansWrongFalsely : Prop := batchMeansRow.holds Try.pinned (OpenSpec.ofChange batchMeansWrong)

/-- 'simulatorlaw48.BatchMoments': WHATEVER THE INPUT: true; the input reads as it did. -/
def batchMomentsSpec : ChangeSpec := { name := "batchMoments", fn := fun _ => fun
  | [d] => { results := [.lit (.bool true)], args := [d] }
  | _ => none }
def batchMomentsRow : OpenClaim := { program := "ytgekeolponbifaa", sum := "81d22ced82213a89b52832dd86e46fa9e4f4d016d98b48fb63fc45f08c47d636", func := "simulator/simulatorlaw48.BatchMoments", spec := "batchMoments", inPlace := ["math/bits.Add64", "math/bits.Sub64"], unfollowed := true, recurses := true, named := ["math/bits.divideError", "math/bits.overflowError"], apart := false }
def BatchMomentsSaid : Prop := batchMomentsRow.holds Try.pinned (OpenSpec.ofChange batchMomentsSpec)

/-- ITS FALSE NEIGHBOUR: 'it returns false'. Refute it at one input. -/
def batchMomentsWrong : ChangeSpec := { name := "batchMoments", fn := fun _ => fun
  | [d] => { results := [.lit (.bool false)], args := [d] }
  | _ => none }
def BatchMomentsWrongFalsely : Prop := batchMomentsRow.holds Try.pinned (OpenSpec.ofChange batchMomentsWrong)

/-- 'simulatorlaw48.BatchSizes': WHATEVER THE INPUT: true; the input reads as it did. -/
def batchSizesSpec : ChangeSpec := { name := "batchSizes", fn := fun _ => fun
  | [d] => { results := [.lit (.bool true)], args := [d] }
  | _ => none }
def batchSizesRow : OpenClaim := { program := "ytgekeolponbifaa", sum := "81d22ced82213a89b52832dd86e46fa9e4f4d016d98b48fb63fc45f08c47d636", func := "simulator/simulatorlaw48.BatchSizes", spec := "batchSizes", inPlace := ["math/bits.Add64", "math/bits.Sub64"], unfollowed := true, recurses := true, named := ["math/bits.divideError", "math/bits.overflowError"], apart := false }
def BatchSizesSaid : Prop := batchSizesRow.holds Try.pinned (OpenSpec.ofChange batchSizesSpec)

/-- ITS FALSE NEIGHBOUR: 'it returns false'. Refute it at one input. -/
def batchSizesWrong : ChangeSpec := { name := "batchSizes", fn := fun _ => fun
  | [d] => { results := [.lit (.bool false)], args := [d] }
  | _ => none }
def BatchSizesWrongFalsely : Prop := batchSizesRow.holds Try.pinned (OpenSpec.ofChange batchSizesWrong)

/-- 'simulatorlaw48.BatchTotals': WHATEVER THE INPUT: true; the input reads as it did. -/
def batchTotalsSpec : ChangeSpec := { name := "batchTotals", fn := fun _ => fun
  | [d1, d2] => { results := [.lit (.bool true)], args := [d1, d2] }
  | _ => none }
def batchTotalsRow : OpenClaim := { program := "ytgekeolponbifaa", sum := "81d22ced82213a89b52832dd86e46fa9e4f4d016d98b48fb63fc45f08c47d636", func := "simulator/simulatorlaw48.BatchTotals", spec := "batchTotals", inPlace := ["math/bits.Add64", "math/bits.Sub64"], unfollowed := true, recurses := true, named := ["math/bits.divideError", "math/bits.overflowError"], apart := false }
def BatchTotalsSaid : Prop := batchTotalsRow.holds Try.pinned (OpenSpec.ofChange batchTotalsSpec)

/-- ITS FALSE NEIGHBOUR: 'it returns false'. Refute it at one input. -/
def batchTotalsWrong : ChangeSpec := { name := "batchTotals", fn := fun _ => fun
  | [d1, d2] => { results := [.lit (.bool false)], args := [d1, d2] }
  | _ => none }
def BatchTotalsWrongFalsely : Prop := batchTotalsRow.holds Try.pinned (OpenSpec.ofChange batchTotalsWrong)

/-- 'simulatorlaw48.BatchBounds': WHATEVER THE INPUT: true; the input reads as it did. -/
def batchBoundsSpec : ChangeSpec := { name := "batchBounds", fn := fun _ => fun
  | [d] => { results := [.lit (.bool true)], args := [d] }
  | _ => none }
def batchBoundsRow : OpenClaim := { program := "ytgekeolponbifaa", sum := "81d22ced82213a89b52832dd86e46fa9e4f4d016d98b48fb63fc45f08c47d636", func := "simulator/simulatorlaw48.BatchBounds", spec := "batchBounds", inPlace := ["math/bits.Add64", "math/bits.Sub64"], unfollowed := true, recurses := true, named := ["math/bits.divideError", "math/bits.overflowError"], apart := false }
def BatchBoundsSaid : Prop := batchBoundsRow.holds Try.pinned (OpenSpec.ofChange batchBoundsSpec)

/-- ITS FALSE NEIGHBOUR: 'it returns false'. Refute it at one input. -/
def batchBoundsWrong : ChangeSpec := { name := "batchBounds", fn := fun _ => fun
  | [d] => { results := [.lit (.bool false)], args := [d] }
  | _ => none }
def BatchBoundsWrongFalsely : Prop := batchBoundsRow.holds Try.pinned (OpenSpec.ofChange batchBoundsWrong)

/-- 'simulatorlaw48.BatchShifts': WHATEVER THE INPUT: true; the input reads as it did. -/
def batchShiftsSpec : ChangeSpec := { name := "batchShifts", fn := fun _ => fun
  | [d1, d2] => { results := [.lit (.bool true)], args := [d1, d2] }
  | _ => none }
def batchShiftsRow : OpenClaim := { program := "ytgekeolponbifaa", sum := "81d22ced82213a89b52832dd86e46fa9e4f4d016d98b48fb63fc45f08c47d636", func := "simulator/simulatorlaw48.BatchShifts", spec := "batchShifts", inPlace := ["math/bits.Add64", "math/bits.Sub64"], unfollowed := true, recurses := true, named := ["math/bits.divideError", "math/bits.overflowError"], apart := false }
def BatchShiftsSaid : Prop := batchShiftsRow.holds Try.pinned (OpenSpec.ofChange batchShiftsSpec)

/-- ITS FALSE NEIGHBOUR: 'it returns false'. Refute it at one input. -/
def batchShiftsWrong : ChangeSpec := { name := "batchShifts", fn := fun _ => fun
  | [d1, d2] => { results := [.lit (.bool false)], args := [d1, d2] }
  | _ => none }
def BatchShiftsWrongFalsely : Prop := batchShiftsRow.holds Try.pinned (OpenSpec.ofChange batchShiftsWrong)

/-- 'simulatorlaw48.BatchLeast': WHATEVER THE INPUT: true; the input reads as it did. -/
def batchLeastSpec : ChangeSpec := { name := "batchLeast", fn := fun _ => fun
  | [d] => { results := [.lit (.bool true)], args := [d] }
  | _ => none }
def batchLeastRow : OpenClaim := { program := "ytgekeolponbifaa", sum := "81d22ced82213a89b52832dd86e46fa9e4f4d016d98b48fb63fc45f08c47d636", func := "simulator/simulatorlaw48.BatchLeast", spec := "batchLeast", inPlace := ["math/bits.Add64", "math/bits.Sub64"], unfollowed := true, recurses := true, named := ["math/bits.divideError", "math/bits.overflowError"], apart := false }
def BatchLeastSaid : Prop := batchLeastRow.holds Try.pinned (OpenSpec.ofChange batchLeastSpec)

/-- ITS FALSE NEIGHBOUR: 'it returns false'. Refute it at one input. -/
def batchLeastWrong : ChangeSpec := { name := "batchLeast", fn := fun _ => fun
  | [d] => { results := [.lit (.bool false)], args := [d] }
  | _ => none }
def BatchLeastWrongFalsely : Prop := batchLeastRow.holds Try.pinned (OpenSpec.ofChange batchLeastWrong)

/- THE SECOND FORM. 'bulk': how many values and letters a reading holds, each counted each time it is reached (what is shared counts as often as it is met; a slice's spare places count too). A statement '..UptoSaid' is the law's where the arguments, and the package variables that the reading takes, are together of bulk at most 1048576: NARROWER than '..Said'. Prove '..Said' where nothing that the law and all that it calls make is longer than what came in: it says more and counts as full. Else prove '..UptoSaid'. A law counts once. -/
mutual
def uptoBulk {H : Type} : DataW H → Nat
  | .lit (.string bytes) => bytes.length + 1
  | .lit _ => 1
  | .nil => 1
  | .ptr d => uptoBulk d + 1
  | .slice elems spare => uptoBulkAll elems + uptoBulkAll spare + 1
  | .agg parts => uptoBulkAll parts + 1
  | .iface _ d => uptoBulk d + 1
  | .map entries => uptoBulkEntries entries + 1
  | .held _ => 1
def uptoBulkAll {H : Type} : List (DataW H) → Nat
  | [] => 0
  | d :: r => uptoBulk d + uptoBulkAll r
def uptoBulkEntries {H : Type} : List (Lit × DataW H) → Nat
  | [] => 0
  | x :: r => uptoBulkEntry x + uptoBulkEntries r
def uptoBulkEntry {H : Type} : Lit × DataW H → Nat
  | (.string bytes, d) => bytes.length + uptoBulk d + 1
  | (_, d) => uptoBulk d + 1
 end
def uptoSmall : (H : Type) → List (DataW H) → Bool := fun _ ds => decide (uptoBulkAll ds ≤ 1048576)
def OpenSpec.upto (s : _root_.Go.ChangeSpec) : _root_.Go.OpenSpec := { _root_.Go.OpenSpec.ofChange s with cond := some uptoSmall }

/-- 'simulatorlaw48.BatchMeans', WHERE WHAT IT READS IS OF BULK AT MOST 1048576: true; the input reads as it did. -/
def batchMeansUptoRow : OpenClaim := { program := "ytgekeolponbifaa", sum := "81d22ced82213a89b52832dd86e46fa9e4f4d016d98b48fb63fc45f08c47d636", func := "simulator/simulatorlaw48.BatchMeans", spec := "batchMeans", inPlace := ["math/bits.Add64", "math/bits.Sub64"], unfollowed := true, recurses := true, named := ["math/bits.divideError", "math/bits.overflowError"], apart := false, narrowed := true }
def BatchMeansUptoSaid : Prop := batchMeansUptoRow.holds Try.pinned (OpenSpec.upto batchMeansSpec)

/-- 'simulatorlaw48.BatchMoments', WHERE WHAT IT READS IS OF BULK AT MOST 1048576: true; the input reads as it did. -/
def batchMomentsUptoRow : OpenClaim := { program := "ytgekeolponbifaa", sum := "81d22ced82213a89b52832dd86e46fa9e4f4d016d98b48fb63fc45f08c47d636", func := "simulator/simulatorlaw48.BatchMoments", spec := "batchMoments", inPlace := ["math/bits.Add64", "math/bits.Sub64"], unfollowed := true, recurses := true, named := ["math/bits.divideError", "math/bits.overflowError"], apart := false, narrowed := true }
def BatchMomentsUptoSaid : Prop := batchMomentsUptoRow.holds Try.pinned (OpenSpec.upto batchMomentsSpec)

/-- 'simulatorlaw48.BatchSizes', WHERE WHAT IT READS IS OF BULK AT MOST 1048576: true; the input reads as it did. -/
def batchSizesUptoRow : OpenClaim := { program := "ytgekeolponbifaa", sum := "81d22ced82213a89b52832dd86e46fa9e4f4d016d98b48fb63fc45f08c47d636", func := "simulator/simulatorlaw48.BatchSizes", spec := "batchSizes", inPlace := ["math/bits.Add64", "math/bits.Sub64"], unfollowed := true, recurses := true, named := ["math/bits.divideError", "math/bits.overflowError"], apart := false, narrowed := true }
def BatchSizesUptoSaid : Prop := batchSizesUptoRow.holds Try.pinned (OpenSpec.upto batchSizesSpec)

/-- 'simulatorlaw48.BatchTotals', WHERE WHAT IT READS IS OF BULK AT MOST 1048576: true; the input reads as it did. -/
def batchTotalsUptoRow : OpenClaim := { program := "ytgekeolponbifaa", sum := "81d22ced82213a89b52832dd86e46fa9e4f4d016d98b48fb63fc45f08c47d636", func := "simulator/simulatorlaw48.BatchTotals", spec := "batchTotals", inPlace := ["math/bits.Add64", "math/bits.Sub64"], unfollowed := true, recurses := true, named := ["math/bits.divideError", "math/bits.overflowError"], apart := false, narrowed := true }
def BatchTotalsUptoSaid : Prop := batchTotalsUptoRow.holds Try.pinned (OpenSpec.upto batchTotalsSpec)

/-- 'simulatorlaw48.BatchBounds', WHERE WHAT IT READS IS OF BULK AT MOST 1048576: true; the input reads as it did. -/
def batchBoundsUptoRow : OpenClaim := { program := "ytgekeolponbifaa", sum := "81d22ced82213a89b52832dd86e46fa9e4f4d016d98b48fb63fc45f08c47d636", func := "simulator/simulatorlaw48.BatchBounds", spec := "batchBounds", inPlace := ["math/bits.Add64", "math/bits.Sub64"], unfollowed := true, recurses := true, named := ["math/bits.divideError", "math/bits.overflowError"], apart := false, narrowed := true }
def BatchBoundsUptoSaid : Prop := batchBoundsUptoRow.holds Try.pinned (OpenSpec.upto batchBoundsSpec)

/-- 'simulatorlaw48.BatchShifts', WHERE WHAT IT READS IS OF BULK AT MOST 1048576: true; the input reads as it did. -/
def batchShiftsUptoRow : OpenClaim := { program := "ytgekeolponbifaa", sum := "81d22ced82213a89b52832dd86e46fa9e4f4d016d98b48fb63fc45f08c47d636", func := "simulator/simulatorlaw48.BatchShifts", spec := "batchShifts", inPlace := ["math/bits.Add64", "math/bits.Sub64"], unfollowed := true, recurses := true, named := ["math/bits.divideError", "math/bits.overflowError"], apart := false, narrowed := true }
def BatchShiftsUptoSaid : Prop := batchShiftsUptoRow.holds Try.pinned (OpenSpec.upto batchShiftsSpec)

/-- 'simulatorlaw48.BatchLeast', WHERE WHAT IT READS IS OF BULK AT MOST 1048576: true; the input reads as it did. -/
def batchLeastUptoRow : OpenClaim := { program := "ytgekeolponbifaa", sum := "81d22ced82213a89b52832dd86e46fa9e4f4d016d98b48fb63fc45f08c47d636", func := "simulator/simulatorlaw48.BatchLeast", spec := "batchLeast", inPlace := ["math/bits.Add64", "math/bits.Sub64"], unfollowed := true, recurses := true, named := ["math/bits.divideError", "math/bits.overflowError"], apart := false, narrowed := true }
def BatchLeastUptoSaid : Prop := batchLeastUptoRow.holds Try.pinned (OpenSpec.upto batchLeastSpec)

end Rows
end Go.Proofs.Ytgekeolponbifaa
