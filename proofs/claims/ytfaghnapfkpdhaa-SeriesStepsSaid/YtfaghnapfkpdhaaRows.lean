/-
  No cell of these rows narrows 'for every input' (looked for: loops, veiled, ifaces, maps, wideKeys, modest, calm, conditions, laid).
  DERIVED. THE GIVEN ROWS OF THIS SEAT. 5 by the template 'for every input the law returns true; each argument reads behind the call as it read before'; 0 by the template 'total and deterministic' (their statements: YtfaghnapfkpdhaaTotals.lean).
  GIVEN WITH THE SEED: the statements are not yours to turn. If you find one false, say at which input.
  Laid BY PROGRAM, IN A SANDBOX (cutbox-rows.mjs): the forced cells as the released guide's own fill.sh prints them over the translation c483390f2763bab3… (all of the seat's roots in one cut). By AI agents, Wed Nov 11 2026. No macro, syntax, notation, axiom, sorry.
-/
import Derived.Test.YtfaghnapfkpdhaaChecked
import GoSem.Claim
import GoSem.ClaimJoined
import GoSem.ClaimMapViews
import Derived.JoinedTies
import Derived.KernelRfl
namespace Go.Proofs.Ytfaghnapfkpdhaa
/- THE CELL 'sum', in the pinned program and in every row, IS THE sha256 OF THE DUMP (.gsa) THAT YtfaghnapfkpdhaaProg.lean LOADS. Nothing in Lean hashes anything: it is a label: what it is worth is what the hold of that sum in a sandbox is worth. -/
noncomputable def Try.pinned : Pinned := { name := "ytfaghnapfkpdhaa", sum := "c483390f2763bab37393fd81b0023fa170f7ceae821c63c73c7e69a63b2f0555", checked := Try.checked }
namespace Rows
def none {H : Type} : Left H := { results := [], args := [] }

/-- 'simulatorlaw46.SeriesTakes': WHATEVER THE INPUT: true; the input reads as it did. -/
def seriesTakesSpec : ChangeSpec := { name := "seriesTakes", fn := fun _ => fun
  | [d1, d2, d3] => { results := [.lit (.bool true)], args := [d1, d2, d3] }
  | _ => none }
def seriesTakesRow : OpenClaim := { program := "ytfaghnapfkpdhaa", sum := "c483390f2763bab37393fd81b0023fa170f7ceae821c63c73c7e69a63b2f0555", func := "simulator/simulatorlaw46.SeriesTakes", spec := "seriesTakes", apart := false }
def SeriesTakesSaid : Prop := seriesTakesRow.holds Try.pinned (OpenSpec.ofChange seriesTakesSpec)

/-- ITS FALSE NEIGHBOUR: 'it returns false'. Refute it at one input. -/
def seriesTakesWrong : ChangeSpec := { name := "seriesTakes", fn := fun _ => fun
  | [d1, d2, d3] => { results := [.lit (.bool false)], args := [d1, d2, d3] }
  | _ => none }
def SeriesTakesWrongFalsely : Prop := seriesTakesRow.holds Try.pinned (OpenSpec.ofChange seriesTakesWrong)

/-- 'simulatorlaw46.SeriesMoves': WHATEVER THE INPUT: true; the input reads as it did. -/
def seriesMovesSpec : ChangeSpec := { name := "seriesMoves", fn := fun _ => fun
  | [d1, d2] => { results := [.lit (.bool true)], args := [d1, d2] }
  | _ => none }
def seriesMovesRow : OpenClaim := { program := "ytfaghnapfkpdhaa", sum := "c483390f2763bab37393fd81b0023fa170f7ceae821c63c73c7e69a63b2f0555", func := "simulator/simulatorlaw46.SeriesMoves", spec := "seriesMoves", apart := false }
def SeriesMovesSaid : Prop := seriesMovesRow.holds Try.pinned (OpenSpec.ofChange seriesMovesSpec)

/-- ITS FALSE NEIGHBOUR: 'it returns false'. Refute it at one input. -/
def seriesMovesWrong : ChangeSpec := { name := "seriesMoves", fn := fun _ => fun
  | [d1, d2] => { results := [.lit (.bool false)], args := [d1, d2] }
  | _ => none }
def SeriesMovesWrongFalsely : Prop := seriesMovesRow.holds Try.pinned (OpenSpec.ofChange seriesMovesWrong)

/-- 'simulatorlaw46.SeriesWindows': WHATEVER THE INPUT: true; the input reads as it did. -/
def seriesWindowsSpec : ChangeSpec := { name := "seriesWindows", fn := fun _ => fun
  | [d1, d2] => { results := [.lit (.bool true)], args := [d1, d2] }
  | _ => none }
def seriesWindowsRow : OpenClaim := { program := "ytfaghnapfkpdhaa", sum := "c483390f2763bab37393fd81b0023fa170f7ceae821c63c73c7e69a63b2f0555", func := "simulator/simulatorlaw46.SeriesWindows", spec := "seriesWindows", apart := false }
def SeriesWindowsSaid : Prop := seriesWindowsRow.holds Try.pinned (OpenSpec.ofChange seriesWindowsSpec)

/-- ITS FALSE NEIGHBOUR: 'it returns false'. Refute it at one input. -/
def seriesWindowsWrong : ChangeSpec := { name := "seriesWindows", fn := fun _ => fun
  | [d1, d2] => { results := [.lit (.bool false)], args := [d1, d2] }
  | _ => none }
def SeriesWindowsWrongFalsely : Prop := seriesWindowsRow.holds Try.pinned (OpenSpec.ofChange seriesWindowsWrong)

/-- 'simulatorlaw46.SeriesEnds': WHATEVER THE INPUT: true; the input reads as it did. -/
def seriesEndsSpec : ChangeSpec := { name := "seriesEnds", fn := fun _ => fun
  | [d] => { results := [.lit (.bool true)], args := [d] }
  | _ => none }
def seriesEndsRow : OpenClaim := { program := "ytfaghnapfkpdhaa", sum := "c483390f2763bab37393fd81b0023fa170f7ceae821c63c73c7e69a63b2f0555", func := "simulator/simulatorlaw46.SeriesEnds", spec := "seriesEnds", apart := false }
def SeriesEndsSaid : Prop := seriesEndsRow.holds Try.pinned (OpenSpec.ofChange seriesEndsSpec)

/-- ITS FALSE NEIGHBOUR: 'it returns false'. Refute it at one input. -/
def seriesEndsWrong : ChangeSpec := { name := "seriesEnds", fn := fun _ => fun
  | [d] => { results := [.lit (.bool false)], args := [d] }
  | _ => none }
def SeriesEndsWrongFalsely : Prop := seriesEndsRow.holds Try.pinned (OpenSpec.ofChange seriesEndsWrong)

/-- 'simulatorlaw46.SeriesSteps': WHATEVER THE INPUT: true; the input reads as it did. -/
def seriesStepsSpec : ChangeSpec := { name := "seriesSteps", fn := fun _ => fun
  | [d1, d2] => { results := [.lit (.bool true)], args := [d1, d2] }
  | _ => none }
def seriesStepsRow : OpenClaim := { program := "ytfaghnapfkpdhaa", sum := "c483390f2763bab37393fd81b0023fa170f7ceae821c63c73c7e69a63b2f0555", func := "simulator/simulatorlaw46.SeriesSteps", spec := "seriesSteps", inPlace := ["math/bits.Add64", "math/bits.Sub64"], recurses := true, named := ["math/bits.divideError", "math/bits.overflowError"], apart := false }
def SeriesStepsSaid : Prop := seriesStepsRow.holds Try.pinned (OpenSpec.ofChange seriesStepsSpec)

/-- ITS FALSE NEIGHBOUR: 'it returns false'. Refute it at one input. -/
def seriesStepsWrong : ChangeSpec := { name := "seriesSteps", fn := fun _ => fun
  | [d1, d2] => { results := [.lit (.bool false)], args := [d1, d2] }
  | _ => none }
def SeriesStepsWrongFalsely : Prop := seriesStepsRow.holds Try.pinned (OpenSpec.ofChange seriesStepsWrong)

/- THE SECOND FORM. 'bulk': how many values and letters a reading holds, each counted each time it is reached (what is shared counts as often as it is met; a slice's spare places count too). A statement '..UptoSaid' is the law's where the arguments, and the package variables that the reading takes, are together of bulk at most 1048576: NARROWER than '..Said'. Prove '..Said' where nothing that the law and all that it calls make is longer than what came in: it says more and counts as full. Else prove '..UptoSaid'. A law counts once. -/
mutual
def uptoBulk {H : Type} : DataW H → Nat
  | .lit (.string bytes) => bytes.length + 1
  | .lit _ => 1
  | .nil => 1
  | .ptr d => uptoBulk d + 1
  | .slice elems spare => uptoBulkAll elems + uptoBulkAll spare + 1
  | .agg parts => uptoBulkAll parts + 1
  | .iface _ d => uptoBulk d + 1
  | .map entries => uptoBulkEntries entries + 1
  | .held _ => 1
def uptoBulkAll {H : Type} : List (DataW H) → Nat
  | [] => 0
  | d :: r => uptoBulk d + uptoBulkAll r
def uptoBulkEntries {H : Type} : List (Lit × DataW H) → Nat
  | [] => 0
  | x :: r => uptoBulkEntry x + uptoBulkEntries r
def uptoBulkEntry {H : Type} : Lit × DataW H → Nat
  | (.string bytes, d) => bytes.length + uptoBulk d + 1
  | (_, d) => uptoBulk d + 1
 end
def uptoSmall : (H : Type) → List (DataW H) → Bool := fun _ ds => decide (uptoBulkAll ds ≤ 1048576)
def OpenSpec.upto (s : _root_.Go.ChangeSpec) : _root_.Go.OpenSpec := { _root_.Go.OpenSpec.ofChange s with cond := some uptoSmall }

/-- 'simulatorlaw46.SeriesTakes', WHERE WHAT IT READS IS OF BULK AT MOST 1048576: true; the input reads as it did. -/
def seriesTakesUptoRow : OpenClaim := { program := "ytfaghnapfkpdhaa", sum := "c483390f2763bab37393fd81b0023fa170f7ceae821c63c73c7e69a63b2f0555", func := "simulator/simulatorlaw46.SeriesTakes", spec := "seriesTakes", apart := false, narrowed := true }
def SeriesTakesUptoSaid : Prop := seriesTakesUptoRow.holds Try.pinned (OpenSpec.upto seriesTakesSpec)

/-- 'simulatorlaw46.SeriesMoves', WHERE WHAT IT READS IS OF BULK AT MOST 1048576: true; the input reads as it did. -/
def seriesMovesUptoRow : OpenClaim := { program := "ytfaghnapfkpdhaa", sum := "c483390f2763bab37393fd81b0023fa170f7ceae821c63c73c7e69a63b2f0555", func := "simulator/simulatorlaw46.SeriesMoves", spec := "seriesMoves", apart := false, narrowed := true }
def SeriesMovesUptoSaid : Prop := seriesMovesUptoRow.holds Try.pinned (OpenSpec.upto seriesMovesSpec)

/-- 'simulatorlaw46.SeriesWindows', WHERE WHAT IT READS IS OF BULK AT MOST 1048576: true; the input reads as it did. -/
def seriesWindowsUptoRow : OpenClaim := { program := "ytfaghnapfkpdhaa", sum := "c483390f2763bab37393fd81b0023fa170f7ceae821c63c73c7e69a63b2f0555", func := "simulator/simulatorlaw46.SeriesWindows", spec := "seriesWindows", apart := false, narrowed := true }
def SeriesWindowsUptoSaid : Prop := seriesWindowsUptoRow.holds Try.pinned (OpenSpec.upto seriesWindowsSpec)

/-- 'simulatorlaw46.SeriesEnds', WHERE WHAT IT READS IS OF BULK AT MOST 1048576: true; the input reads as it did. -/
def seriesEndsUptoRow : OpenClaim := { program := "ytfaghnapfkpdhaa", sum := "c483390f2763bab37393fd81b0023fa170f7ceae821c63c73c7e69a63b2f0555", func := "simulator/simulatorlaw46.SeriesEnds", spec := "seriesEnds", apart := false, narrowed := true }
def SeriesEndsUptoSaid : Prop := seriesEndsUptoRow.holds Try.pinned (OpenSpec.upto seriesEndsSpec)

/-- 'simulatorlaw46.SeriesSteps', WHERE WHAT IT READS IS OF BULK AT MOST 1048576: true; the input reads as it did. -/
def seriesStepsUptoRow : OpenClaim := { program := "ytfaghnapfkpdhaa", sum := "c483390f2763bab37393fd81b0023fa170f7ceae821c63c73c7e69a63b2f0555", func := "simulator/simulatorlaw46.SeriesSteps", spec := "seriesSteps", inPlace := ["math/bits.Add64", "math/bits.Sub64"], recurses := true, named := ["math/bits.divideError", "math/bits.overflowError"], apart := false, narrowed := true }
def SeriesStepsUptoSaid : Prop := seriesStepsUptoRow.holds Try.pinned (OpenSpec.upto seriesStepsSpec)

end Rows
end Go.Proofs.Ytfaghnapfkpdhaa
