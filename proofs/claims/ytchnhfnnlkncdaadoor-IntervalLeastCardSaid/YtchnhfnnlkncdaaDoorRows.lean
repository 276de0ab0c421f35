/-
  NARROWER THAN 'FOR EVERY INPUT', by the rows' own cells (each row's printed sentence says how): IntervalOf: laid · IntervalTells: laid · IntervalLeast: laid · IntervalMoves: laid · IntervalApart: laid.
  DERIVED. THE GIVEN ROWS OF THIS SEAT. 5 by the template 'for every input the law returns true; each argument reads behind the call as it read before'; 0 by the template 'total and deterministic' (their statements: YtchnhfnnlkncdaaDoorTotals.lean).
  GIVEN WITH THE SEED: the statements are not yours to turn. If you find one false, say at which input.
  Laid BY PROGRAM, IN A SANDBOX (cutbox-rows.mjs): the forced cells as the released guide's own fill.sh prints them over the translation c266f23ffc675e7a… (all of the seat's roots in one cut). By AI agents, Wed Nov 11 2026. No macro, syntax, notation, axiom, sorry.
-/
import Derived.Test.YtchnhfnnlkncdaaDoorChecked
import GoSem.Claim
import GoSem.ClaimJoined
import GoSem.ClaimMapViews
import Derived.JoinedTies
import Derived.KernelRfl
namespace Go.Proofs.YtchnhfnnlkncdaaDoor
/- THE CELL 'sum', in the pinned program and in every row, IS THE sha256 OF THE DUMP (.gsa) THAT YtchnhfnnlkncdaaDoorProg.lean LOADS. Nothing in Lean hashes anything: it is a label: what it is worth is what the hold of that sum in a sandbox is worth. -/
noncomputable def Tryd.pinned : Pinned := { name := "ytchnhfnnlkncdaadoor", sum := "c266f23ffc675e7a1c3762106b7252091e81a71000c15c88dd5cc577565cbdef", checked := Tryd.checked }
namespace Rows
def none {H : Type} : Left H := { results := [], args := [] }

/- WHAT THE LISTED PACKAGE-LEVEL VARIABLES READ AS WHEN THE CALL BEGINS. Each datum BY PROGRAM (the guide's laid-datum.mjs) off the statement by which the dump's own 'gosem.cut.vars' lays the variable. In a bare row this is a premise. The card (YtchnhfnnlkncdaaDoorCards.lean) ties it to the program's text. -/
def laid_simulator_interval_quantiles {H : Type} : DataW H := .slice [.lit (.int .i64 12706), .lit (.int .i64 4303), .lit (.int .i64 3182), .lit (.int .i64 2776), .lit (.int .i64 2571), .lit (.int .i64 2447), .lit (.int .i64 2365), .lit (.int .i64 2306), .lit (.int .i64 2262), .lit (.int .i64 2228), .lit (.int .i64 2201), .lit (.int .i64 2179), .lit (.int .i64 2160), .lit (.int .i64 2145), .lit (.int .i64 2131), .lit (.int .i64 2120), .lit (.int .i64 2110), .lit (.int .i64 2101), .lit (.int .i64 2093), .lit (.int .i64 2086), .lit (.int .i64 2080), .lit (.int .i64 2074), .lit (.int .i64 2069), .lit (.int .i64 2064), .lit (.int .i64 2060), .lit (.int .i64 2056), .lit (.int .i64 2052), .lit (.int .i64 2048), .lit (.int .i64 2045), .lit (.int .i64 2042)] []

/-- 'simulatorlaw49.IntervalOf': WHATEVER THE INPUT: true; the input reads as it did. -/
def intervalOfSpec : ChangeSpec := { name := "intervalOf", fn := fun _ => fun
  | [d1, d2] => { results := [.lit (.bool true)], args := [d1, d2] }
  | _ => none }
def intervalOfRow : OpenClaim := { program := "ytchnhfnnlkncdaadoor", sum := "c266f23ffc675e7a1c3762106b7252091e81a71000c15c88dd5cc577565cbdef", func := "simulator/simulatorlaw49.IntervalOf", spec := "intervalOf", inPlace := ["math/bits.Add64", "math/bits.Sub64"], unfollowed := true, recurses := true, named := ["math/bits.divideError", "math/bits.overflowError", "simulator/interval.quantiles"], apart := false, laid := [("simulator/interval.quantiles", laid_simulator_interval_quantiles)] }
def IntervalOfSaid : Prop := intervalOfRow.holds Tryd.pinned (OpenSpec.ofChange intervalOfSpec)

/-- ITS FALSE NEIGHBOUR: 'it returns false'. Refute it at one input. -/
def intervalOfWrong : ChangeSpec := { name := "intervalOf", fn := fun _ => fun
  | [d1, d2] => { results := [.lit (.bool false)], args := [d1, d2] }
  | _ => none }
def IntervalOfWrongFalsely : Prop := intervalOfRow.holds Tryd.pinned (OpenSpec.ofChange intervalOfWrong)

/-- 'simulatorlaw49.IntervalTells': WHATEVER THE INPUT: true; the input reads as it did. -/
def intervalTellsSpec : ChangeSpec := { name := "intervalTells", fn := fun _ => fun
  | [d1, d2, d3] => { results := [.lit (.bool true)], args := [d1, d2, d3] }
  | _ => none }
def intervalTellsRow : OpenClaim := { program := "ytchnhfnnlkncdaadoor", sum := "c266f23ffc675e7a1c3762106b7252091e81a71000c15c88dd5cc577565cbdef", func := "simulator/simulatorlaw49.IntervalTells", spec := "intervalTells", inPlace := ["math/bits.Add64", "math/bits.Sub64"], unfollowed := true, recurses := true, named := ["math/bits.divideError", "math/bits.overflowError", "simulator/interval.quantiles"], apart := false, laid := [("simulator/interval.quantiles", laid_simulator_interval_quantiles)] }
def IntervalTellsSaid : Prop := intervalTellsRow.holds Tryd.pinned (OpenSpec.ofChange intervalTellsSpec)

/-- ITS FALSE NEIGHBOUR: 'it returns false'. Refute it at one input. -/
def intervalTellsWrong : ChangeSpec := { name := "intervalTells", fn := fun _ => fun
  | [d1, d2, d3] => { results := [.lit (.bool false)], args := [d1, d2, d3] }
  | _ => none }
def IntervalTellsWrongFalsely : Prop := intervalTellsRow.holds Tryd.pinned (OpenSpec.ofChange intervalTellsWrong)

/-- 'simulatorlaw49.IntervalLeast': WHATEVER THE INPUT: true; the input reads as it did. -/
def intervalLeastSpec : ChangeSpec := { name := "intervalLeast", fn := fun _ => fun
  | [d] => { results := [.lit (.bool true)], args := [d] }
  | _ => none }
def intervalLeastRow : OpenClaim := { program := "ytchnhfnnlkncdaadoor", sum := "c266f23ffc675e7a1c3762106b7252091e81a71000c15c88dd5cc577565cbdef", func := "simulator/simulatorlaw49.IntervalLeast", spec := "intervalLeast", inPlace := ["math/bits.Add64", "math/bits.Sub64"], unfollowed := true, recurses := true, named := ["math/bits.divideError", "math/bits.overflowError", "simulator/interval.quantiles"], apart := false, laid := [("simulator/interval.quantiles", laid_simulator_interval_quantiles)] }
def IntervalLeastSaid : Prop := intervalLeastRow.holds Tryd.pinned (OpenSpec.ofChange intervalLeastSpec)

/-- ITS FALSE NEIGHBOUR: 'it returns false'. Refute it at one input. -/
def intervalLeastWrong : ChangeSpec := { name := "intervalLeast", fn := fun _ => fun
  | [d] => { results := [.lit (.bool false)], args := [d] }
  | _ => none }
def IntervalLeastWrongFalsely : Prop := intervalLeastRow.holds Tryd.pinned (OpenSpec.ofChange intervalLeastWrong)

/-- 'simulatorlaw49.IntervalMoves': WHATEVER THE INPUT: true; the input reads as it did. -/
def intervalMovesSpec : ChangeSpec := { name := "intervalMoves", fn := fun _ => fun
  | [d1, d2] => { results := [.lit (.bool true)], args := [d1, d2] }
  | _ => none }
def intervalMovesRow : OpenClaim := { program := "ytchnhfnnlkncdaadoor", sum := "c266f23ffc675e7a1c3762106b7252091e81a71000c15c88dd5cc577565cbdef", func := "simulator/simulatorlaw49.IntervalMoves", spec := "intervalMoves", inPlace := ["math/bits.Add64", "math/bits.Sub64"], unfollowed := true, recurses := true, named := ["math/bits.divideError", "math/bits.overflowError", "simulator/interval.quantiles"], apart := false, laid := [("simulator/interval.quantiles", laid_simulator_interval_quantiles)] }
def IntervalMovesSaid : Prop := intervalMovesRow.holds Tryd.pinned (OpenSpec.ofChange intervalMovesSpec)

/-- ITS FALSE NEIGHBOUR: 'it returns false'. Refute it at one input. -/
def intervalMovesWrong : ChangeSpec := { name := "intervalMoves", fn := fun _ => fun
  | [d1, d2] => { results := [.lit (.bool false)], args := [d1, d2] }
  | _ => none }
def IntervalMovesWrongFalsely : Prop := intervalMovesRow.holds Tryd.pinned (OpenSpec.ofChange intervalMovesWrong)

/-- 'simulatorlaw49.IntervalApart': WHATEVER THE INPUT: true; the input reads as it did. -/
def intervalApartSpec : ChangeSpec := { name := "intervalApart", fn := fun _ => fun
  | [d1, d2, d3] => { results := [.lit (.bool true)], args := [d1, d2, d3] }
  | _ => none }
def intervalApartRow : OpenClaim := { program := "ytchnhfnnlkncdaadoor", sum := "c266f23ffc675e7a1c3762106b7252091e81a71000c15c88dd5cc577565cbdef", func := "simulator/simulatorlaw49.IntervalApart", spec := "intervalApart", inPlace := ["math/bits.Add64", "math/bits.Sub64"], unfollowed := true, recurses := true, named := ["math/bits.divideError", "math/bits.overflowError", "simulator/interval.quantiles"], apart := false, laid := [("simulator/interval.quantiles", laid_simulator_interval_quantiles)] }
def IntervalApartSaid : Prop := intervalApartRow.holds Tryd.pinned (OpenSpec.ofChange intervalApartSpec)

/-- ITS FALSE NEIGHBOUR: 'it returns false'. Refute it at one input. -/
def intervalApartWrong : ChangeSpec := { name := "intervalApart", fn := fun _ => fun
  | [d1, d2, d3] => { results := [.lit (.bool false)], args := [d1, d2, d3] }
  | _ => none }
def IntervalApartWrongFalsely : Prop := intervalApartRow.holds Tryd.pinned (OpenSpec.ofChange intervalApartWrong)

/- THE SECOND FORM. 'bulk': how many values and letters a reading holds, each counted each time it is reached (what is shared counts as often as it is met; a slice's spare places count too). A statement '..UptoSaid' is the law's where the arguments, and the package variables that the reading takes, are together of bulk at most 1048576: NARROWER than '..Said'. Prove '..Said' where nothing that the law and all that it calls make is longer than what came in: it says more and counts as full. Else prove '..UptoSaid'. A law counts once. -/
mutual
def uptoBulk {H : Type} : DataW H → Nat
  | .lit (.string bytes) => bytes.length + 1
  | .lit _ => 1
  | .nil => 1
  | .ptr d => uptoBulk d + 1
  | .slice elems spare => uptoBulkAll elems + uptoBulkAll spare + 1
  | .agg parts => uptoBulkAll parts + 1
  | .iface _ d => uptoBulk d + 1
  | .map entries => uptoBulkEntries entries + 1
  | .held _ => 1
def uptoBulkAll {H : Type} : List (DataW H) → Nat
  | [] => 0
  | d :: r => uptoBulk d + uptoBulkAll r
def uptoBulkEntries {H : Type} : List (Lit × DataW H) → Nat
  | [] => 0
  | x :: r => uptoBulkEntry x + uptoBulkEntries r
def uptoBulkEntry {H : Type} : Lit × DataW H → Nat
  | (.string bytes, d) => bytes.length + uptoBulk d + 1
  | (_, d) => uptoBulk d + 1
 end
def uptoSmall : (H : Type) → List (DataW H) → Bool := fun _ ds => decide (uptoBulkAll ds ≤ 1048576)
def OpenSpec.upto (s : _root_.Go.ChangeSpec) : _root_.Go.OpenSpec := { _root_.Go.OpenSpec.ofChange s with cond := some uptoSmall }

/-- 'simulatorlaw49.IntervalOf', WHERE WHAT IT READS IS OF BULK AT MOST 1048576: true; the input reads as it did. -/
def intervalOfUptoRow : OpenClaim := { program := "ytchnhfnnlkncdaadoor", sum := "c266f23ffc675e7a1c3762106b7252091e81a71000c15c88dd5cc577565cbdef", func := "simulator/simulatorlaw49.IntervalOf", spec := "intervalOf", inPlace := ["math/bits.Add64", "math/bits.Sub64"], unfollowed := true, recurses := true, named := ["math/bits.divideError", "math/bits.overflowError", "simulator/interval.quantiles"], apart := false, laid := [("simulator/interval.quantiles", laid_simulator_interval_quantiles)], narrowed := true }
def IntervalOfUptoSaid : Prop := intervalOfUptoRow.holds Tryd.pinned (OpenSpec.upto intervalOfSpec)

/-- 'simulatorlaw49.IntervalTells', WHERE WHAT IT READS IS OF BULK AT MOST 1048576: true; the input reads as it did. -/
def intervalTellsUptoRow : OpenClaim := { program := "ytchnhfnnlkncdaadoor", sum := "c266f23ffc675e7a1c3762106b7252091e81a71000c15c88dd5cc577565cbdef", func := "simulator/simulatorlaw49.IntervalTells", spec := "intervalTells", inPlace := ["math/bits.Add64", "math/bits.Sub64"], unfollowed := true, recurses := true, named := ["math/bits.divideError", "math/bits.overflowError", "simulator/interval.quantiles"], apart := false, laid := [("simulator/interval.quantiles", laid_simulator_interval_quantiles)], narrowed := true }
def IntervalTellsUptoSaid : Prop := intervalTellsUptoRow.holds Tryd.pinned (OpenSpec.upto intervalTellsSpec)

/-- 'simulatorlaw49.IntervalLeast', WHERE WHAT IT READS IS OF BULK AT MOST 1048576: true; the input reads as it did. -/
def intervalLeastUptoRow : OpenClaim := { program := "ytchnhfnnlkncdaadoor", sum := "c266f23ffc675e7a1c3762106b7252091e81a71000c15c88dd5cc577565cbdef", func := "simulator/simulatorlaw49.IntervalLeast", spec := "intervalLeast", inPlace := ["math/bits.Add64", "math/bits.Sub64"], unfollowed := true, recurses := true, named := ["math/bits.divideError", "math/bits.overflowError", "simulator/interval.quantiles"], apart := false, laid := [("simulator/interval.quantiles", laid_simulator_interval_quantiles)], narrowed := true }
def IntervalLeastUptoSaid : Prop := intervalLeastUptoRow.holds Tryd.pinned (OpenSpec.upto intervalLeastSpec)

/-- 'simulatorlaw49.IntervalMoves', WHERE WHAT IT READS IS OF BULK AT MOST 1048576: true; the input reads as it did. -/
def intervalMovesUptoRow : OpenClaim := { program := "ytchnhfnnlkncdaadoor", sum := "c266f23ffc675e7a1c3762106b7252091e81a71000c15c88dd5cc577565cbdef", func := "simulator/simulatorlaw49.IntervalMoves", spec := "intervalMoves", inPlace := ["math/bits.Add64", "math/bits.Sub64"], unfollowed := true, recurses := true, named := ["math/bits.divideError", "math/bits.overflowError", "simulator/interval.quantiles"], apart := false, laid := [("simulator/interval.quantiles", laid_simulator_interval_quantiles)], narrowed := true }
def IntervalMovesUptoSaid : Prop := intervalMovesUptoRow.holds Tryd.pinned (OpenSpec.upto intervalMovesSpec)

/-- 'simulatorlaw49.IntervalApart', WHERE WHAT IT READS IS OF BULK AT MOST 1048576: true; the input reads as it did. -/
def intervalApartUptoRow : OpenClaim := { program := "ytchnhfnnlkncdaadoor", sum := "c266f23ffc675e7a1c3762106b7252091e81a71000c15c88dd5cc577565cbdef", func := "simulator/simulatorlaw49.IntervalApart", spec := "intervalApart", inPlace := ["math/bits.Add64", "math/bits.Sub64"], unfollowed := true, recurses := true, named := ["math/bits.divideError", "math/bits.overflowError", "simulator/interval.quantiles"], apart := false, laid := [("simulator/interval.quantiles", laid_simulator_interval_quantiles)], narrowed := true }
def IntervalApartUptoSaid : Prop := intervalApartUptoRow.holds Tryd.pinned (OpenSpec.upto intervalApartSpec)

end Rows
end Go.Proofs.YtchnhfnnlkncdaaDoor
