/-
  No cell of these rows narrows 'for every input' (looked for: loops, veiled, ifaces, maps, wideKeys, modest, calm, conditions, laid).
  DERIVED. THE GIVEN ROWS OF THIS SEAT. 6 by the template 'for every input the law returns true; each argument reads behind the call as it read before'; 0 by the template 'total and deterministic' (their statements: YtahchcpimanjfaaTotals.lean).
  GIVEN WITH THE SEED: the statements are not yours to turn. If you find one false, say at which input.
  Laid BY PROGRAM, IN A SANDBOX (cutbox-rows.mjs): the forced cells as the released guide's own fill.sh prints them over the translation 7b96d92811de83b2… (all of the seat's roots in one cut). By AI agents, Wed Nov 11 2026. No macro, syntax, notation, axiom, sorry.
-/
import Derived.Test.YtahchcpimanjfaaChecked
import GoSem.Claim
import GoSem.ClaimJoined
import GoSem.ClaimMapViews
import Derived.JoinedTies
import Derived.KernelRfl
namespace Go.Proofs.Ytahchcpimanjfaa
/- THE CELL 'sum', in the pinned program and in every row, IS THE sha256 OF THE DUMP (.gsa) THAT YtahchcpimanjfaaProg.lean LOADS. Nothing in Lean hashes anything: it is a label: what it is worth is what the hold of that sum in a sandbox is worth. -/
noncomputable def Try.pinned : Pinned := { name := "ytahchcpimanjfaa", sum := "7b96d92811de83b2e6a8b2514bb218ef627739ed1fa21781d4192de5677e3236", checked := Try.checked }
namespace Rows
def none {H : Type} : Left H := { results := [], args := [] }

/-- 'simulatorlaw27.TallyChecks': WHATEVER THE INPUT: true; the input reads as it did. -/
def tallyChecksSpec : ChangeSpec := { name := "tallyChecks", fn := fun _ => fun
  | [d1, d2] => { results := [.lit (.bool true)], args := [d1, d2] }
  | _ => none }
def tallyChecksRow : OpenClaim := { program := "ytahchcpimanjfaa", sum := "7b96d92811de83b2e6a8b2514bb218ef627739ed1fa21781d4192de5677e3236", func := "simulator/simulatorlaw27.TallyChecks", spec := "tallyChecks", apart := false }
def TallyChecksSaid : Prop := tallyChecksRow.holds Try.pinned (OpenSpec.ofChange tallyChecksSpec)

/-- ITS FALSE NEIGHBOUR: 'it returns false'. Refute it at one input. -/
def tallyChecksWrong : ChangeSpec := { name := "tallyChecks", fn := fun _ => fun
  | [d1, d2] => { results := [.lit (.bool false)], args := [d1, d2] }
  | _ => none }
def TallyChecksWrongFalsely : Prop := tallyChecksRow.holds Try.pinned (OpenSpec.ofChange tallyChecksWrong)

/-- 'simulatorlaw27.TallyTwo': WHATEVER THE INPUT: true; the input reads as it did. -/
def tallyTwoSpec : ChangeSpec := { name := "tallyTwo", fn := fun _ => fun
  | [d] => { results := [.lit (.bool true)], args := [d] }
  | _ => none }
def tallyTwoRow : OpenClaim := { program := "ytahchcpimanjfaa", sum := "7b96d92811de83b2e6a8b2514bb218ef627739ed1fa21781d4192de5677e3236", func := "simulator/simulatorlaw27.TallyTwo", spec := "tallyTwo", apart := false }
def TallyTwoSaid : Prop := tallyTwoRow.holds Try.pinned (OpenSpec.ofChange tallyTwoSpec)

/-- ITS FALSE NEIGHBOUR: 'it returns false'. Refute it at one input. -/
def tallyTwoWrong : ChangeSpec := { name := "tallyTwo", fn := fun _ => fun
  | [d] => { results := [.lit (.bool false)], args := [d] }
  | _ => none }
def TallyTwoWrongFalsely : Prop := tallyTwoRow.holds Try.pinned (OpenSpec.ofChange tallyTwoWrong)

/-- 'simulatorlaw27.TallyMerges': WHATEVER THE INPUT: true; the input reads as it did. -/
def tallyMergesSpec : ChangeSpec := { name := "tallyMerges", fn := fun _ => fun
  | [d1, d2] => { results := [.lit (.bool true)], args := [d1, d2] }
  | _ => none }
def tallyMergesRow : OpenClaim := { program := "ytahchcpimanjfaa", sum := "7b96d92811de83b2e6a8b2514bb218ef627739ed1fa21781d4192de5677e3236", func := "simulator/simulatorlaw27.TallyMerges", spec := "tallyMerges", apart := false }
def TallyMergesSaid : Prop := tallyMergesRow.holds Try.pinned (OpenSpec.ofChange tallyMergesSpec)

/-- ITS FALSE NEIGHBOUR: 'it returns false'. Refute it at one input. -/
def tallyMergesWrong : ChangeSpec := { name := "tallyMerges", fn := fun _ => fun
  | [d1, d2] => { results := [.lit (.bool false)], args := [d1, d2] }
  | _ => none }
def TallyMergesWrongFalsely : Prop := tallyMergesRow.holds Try.pinned (OpenSpec.ofChange tallyMergesWrong)

/-- 'simulatorlaw27.TallyJoins': WHATEVER THE INPUT: true; the input reads as it did. -/
def tallyJoinsSpec : ChangeSpec := { name := "tallyJoins", fn := fun _ => fun
  | [d1, d2] => { results := [.lit (.bool true)], args := [d1, d2] }
  | _ => none }
def tallyJoinsRow : OpenClaim := { program := "ytahchcpimanjfaa", sum := "7b96d92811de83b2e6a8b2514bb218ef627739ed1fa21781d4192de5677e3236", func := "simulator/simulatorlaw27.TallyJoins", spec := "tallyJoins", apart := false }
def TallyJoinsSaid : Prop := tallyJoinsRow.holds Try.pinned (OpenSpec.ofChange tallyJoinsSpec)

/-- ITS FALSE NEIGHBOUR: 'it returns false'. Refute it at one input. -/
def tallyJoinsWrong : ChangeSpec := { name := "tallyJoins", fn := fun _ => fun
  | [d1, d2] => { results := [.lit (.bool false)], args := [d1, d2] }
  | _ => none }
def TallyJoinsWrongFalsely : Prop := tallyJoinsRow.holds Try.pinned (OpenSpec.ofChange tallyJoinsWrong)

/-- 'simulatorlaw27.TallyFull': WHATEVER THE INPUT: true; the input reads as it did. -/
def tallyFullSpec : ChangeSpec := { name := "tallyFull", fn := fun _ => fun
  | [d1, d2] => { results := [.lit (.bool true)], args := [d1, d2] }
  | _ => none }
def tallyFullRow : OpenClaim := { program := "ytahchcpimanjfaa", sum := "7b96d92811de83b2e6a8b2514bb218ef627739ed1fa21781d4192de5677e3236", func := "simulator/simulatorlaw27.TallyFull", spec := "tallyFull", apart := false }
def TallyFullSaid : Prop := tallyFullRow.holds Try.pinned (OpenSpec.ofChange tallyFullSpec)

/-- ITS FALSE NEIGHBOUR: 'it returns false'. Refute it at one input. -/
def tallyFullWrong : ChangeSpec := { name := "tallyFull", fn := fun _ => fun
  | [d1, d2] => { results := [.lit (.bool false)], args := [d1, d2] }
  | _ => none }
def TallyFullWrongFalsely : Prop := tallyFullRow.holds Try.pinned (OpenSpec.ofChange tallyFullWrong)

/-- 'simulatorlaw27.TallyMeans': WHATEVER THE INPUT: true; the input reads as it did. -/
def tallyMeansSpec : ChangeSpec := { name := "tallyMeans", fn := fun _ => fun
  | [d] => { results := [.lit (.bool true)], args := [d] }
  | _ => none }
def tallyMeansRow : OpenClaim := { program := "ytahchcpimanjfaa", sum := "7b96d92811de83b2e6a8b2514bb218ef627739ed1fa21781d4192de5677e3236", func := "simulator/simulatorlaw27.TallyMeans", spec := "tallyMeans", inPlace := ["math/bits.Add64", "math/bits.Sub64"], recurses := true, apart := false }
def TallyMeansSaid : Prop := tallyMeansRow.holds Try.pinned (OpenSpec.ofChange tallyMeansSpec)

/-- ITS FALSE NEIGHBOUR: 'it returns false'. Refute it at one input. -/
def tallyMeansWrong : ChangeSpec := { name := "tallyMeans", fn := fun _ => fun
  | [d] => { results := [.lit (.bool false)], args := [d] }
  | _ => none }
def TallyMeansWrongFalsely : Prop := tallyMeansRow.holds Try.pinned (OpenSpec.ofChange tallyMeansWrong)

/- THE SECOND FORM. 'bulk': how many values and letters a reading holds, each counted each time it is reached (what is shared counts as often as it is met; a slice's spare places count too). A statement '..UptoSaid' is the law's where the arguments, and the package variables that the reading takes, are together of bulk at most 1048576: NARROWER than '..Said'. Prove '..Said' where nothing that the law and all that it calls make is longer than what came in: it says more and counts as full. Else prove '..UptoSaid'. A law counts once. -/
mutual
def uptoBulk {H : Type} : DataW H → Nat
  | .lit (.string bytes) => bytes.length + 1
  | .lit _ => 1
  | .nil => 1
  | .ptr d => uptoBulk d + 1
  | .slice elems spare => uptoBulkAll elems + uptoBulkAll spare + 1
  | .agg parts => uptoBulkAll parts + 1
  | .iface _ d => uptoBulk d + 1
  | .map entries => uptoBulkEntries entries + 1
  | .held _ => 1
def uptoBulkAll {H : Type} : List (DataW H) → Nat
  | [] => 0
  | d :: r => uptoBulk d + uptoBulkAll r
def uptoBulkEntries {H : Type} : List (Lit × DataW H) → Nat
  | [] => 0
  | x :: r => uptoBulkEntry x + uptoBulkEntries r
def uptoBulkEntry {H : Type} : Lit × DataW H → Nat
  | (.string bytes, d) => bytes.length + uptoBulk d + 1
  | (_, d) => uptoBulk d + 1
 end
def uptoSmall : (H : Type) → List (DataW H) → Bool := fun _ ds => decide (uptoBulkAll ds ≤ 1048576)
def OpenSpec.upto (s : _root_.Go.ChangeSpec) : _root_.Go.OpenSpec := { _root_.Go.OpenSpec.ofChange s with cond := some uptoSmall }

/-- 'simulatorlaw27.TallyChecks', WHERE WHAT IT READS IS OF BULK AT MOST 1048576: true; the input reads as it did. -/
def tallyChecksUptoRow : OpenClaim := { program := "ytahchcpimanjfaa", sum := "7b96d92811de83b2e6a8b2514bb218ef627739ed1fa21781d4192de5677e3236", func := "simulator/simulatorlaw27.TallyChecks", spec := "tallyChecks", apart := false, narrowed := true }
def TallyChecksUptoSaid : Prop := tallyChecksUptoRow.holds Try.pinned (OpenSpec.upto tallyChecksSpec)

/-- 'simulatorlaw27.TallyTwo', WHERE WHAT IT READS IS OF BULK AT MOST 1048576: true; the input reads as it did. -/
def tallyTwoUptoRow : OpenClaim := { program := "ytahchcpimanjfaa", sum := "7b96d92811de83b2e6a8b2514bb218ef627739ed1fa21781d4192de5677e3236", func := "simulator/simulatorlaw27.TallyTwo", spec := "tallyTwo", apart := false, narrowed := true }
def TallyTwoUptoSaid : Prop := tallyTwoUptoRow.holds Try.pinned (OpenSpec.upto tallyTwoSpec)

/-- 'simulatorlaw27.TallyMerges', WHERE WHAT IT READS IS OF BULK AT MOST 1048576: true; the input reads as it did. -/
def tallyMergesUptoRow : OpenClaim := { program := "ytahchcpimanjfaa", sum := "7b96d92811de83b2e6a8b2514bb218ef627739ed1fa21781d4192de5677e3236", func := "simulator/simulatorlaw27.TallyMerges", spec := "tallyMerges", apart := false, narrowed := true }
def TallyMergesUptoSaid : Prop := tallyMergesUptoRow.holds Try.pinned (OpenSpec.upto tallyMergesSpec)

/-- 'simulatorlaw27.TallyJoins', WHERE WHAT IT READS IS OF BULK AT MOST 1048576: true; the input reads as it did. -/
def tallyJoinsUptoRow : OpenClaim := { program := "ytahchcpimanjfaa", sum := "7b96d92811de83b2e6a8b2514bb218ef627739ed1fa21781d4192de5677e3236", func := "simulator/simulatorlaw27.TallyJoins", spec := "tallyJoins", apart := false, narrowed := true }
def TallyJoinsUptoSaid : Prop := tallyJoinsUptoRow.holds Try.pinned (OpenSpec.upto tallyJoinsSpec)

/-- 'simulatorlaw27.TallyFull', WHERE WHAT IT READS IS OF BULK AT MOST 1048576: true; the input reads as it did. -/
def tallyFullUptoRow : OpenClaim := { program := "ytahchcpimanjfaa", sum := "7b96d92811de83b2e6a8b2514bb218ef627739ed1fa21781d4192de5677e3236", func := "simulator/simulatorlaw27.TallyFull", spec := "tallyFull", apart := false, narrowed := true }
def TallyFullUptoSaid : Prop := tallyFullUptoRow.holds Try.pinned (OpenSpec.upto tallyFullSpec)

/-- 'simulatorlaw27.TallyMeans', WHERE WHAT IT READS IS OF BULK AT MOST 1048576: true; the input reads as it did. -/
def tallyMeansUptoRow : OpenClaim := { program := "ytahchcpimanjfaa", sum := "7b96d92811de83b2e6a8b2514bb218ef627739ed1fa21781d4192de5677e3236", func := "simulator/simulatorlaw27.TallyMeans", spec := "tallyMeans", inPlace := ["math/bits.Add64", "math/bits.Sub64"], recurses := true, apart := false, narrowed := true }
def TallyMeansUptoSaid : Prop := tallyMeansUptoRow.holds Try.pinned (OpenSpec.upto tallyMeansSpec)

end Rows
end Go.Proofs.Ytahchcpimanjfaa
