/-
  No cell of these rows narrows 'for every input' (looked for: loops, veiled, ifaces, maps, wideKeys, modest, calm, conditions, laid).
  DERIVED. THE GIVEN ROWS OF THIS SEAT. 5 by the template 'for every input the law returns true; each argument reads behind the call as it read before'; 0 by the template 'total and deterministic' (their statements: YtpmmmkdccbdkfaaTotals.lean).
  GIVEN WITH THE SEED: the statements are not yours to turn. If you find one false, say at which input.
  Laid BY PROGRAM, IN A SANDBOX (cutbox-rows.mjs): the forced cells as the released guide's own fill.sh prints them over the translation f6a2e32f0818a78e… (all of the seat's roots in one cut). By AI agents, Wed Nov 11 2026. No macro, syntax, notation, axiom, sorry.
-/
import Derived.Test.YtpmmmkdccbdkfaaChecked
import GoSem.Claim
import GoSem.ClaimJoined
import GoSem.ClaimMapViews
import Derived.JoinedTies
import Derived.KernelRfl
namespace Go.Proofs.Ytpmmmkdccbdkfaa
/- THE CELL 'sum', in the pinned program and in every row, IS THE sha256 OF THE DUMP (.gsa) THAT YtpmmmkdccbdkfaaProg.lean LOADS. Nothing in Lean hashes anything: it is a label: what it is worth is what the hold of that sum in a sandbox is worth. -/
noncomputable def Try.pinned : Pinned := { name := "ytpmmmkdccbdkfaa", sum := "f6a2e32f0818a78e8ce4d3f94610238408d059a8a5b91ce422cba91fe54da918", checked := Try.checked }
namespace Rows
def none {H : Type} : Left H := { results := [], args := [] }

/-- 'simulatorlaw50.PairsExact': WHATEVER THE INPUT: true; the input reads as it did. -/
def pairsExactSpec : ChangeSpec := { name := "pairsExact", fn := fun _ => fun
  | [d1, d2] => { results := [.lit (.bool true)], args := [d1, d2] }
  | _ => none }
def pairsExactRow : OpenClaim := { program := "ytpmmmkdccbdkfaa", sum := "f6a2e32f0818a78e8ce4d3f94610238408d059a8a5b91ce422cba91fe54da918", func := "simulator/simulatorlaw50.PairsExact", spec := "pairsExact", inPlace := ["math/bits.Add64", "math/bits.Sub64"], unfollowed := true, recurses := true, named := ["math/bits.divideError", "math/bits.overflowError"], apart := false }
def PairsExactSaid : Prop := pairsExactRow.holds Try.pinned (OpenSpec.ofChange pairsExactSpec)

/-- ITS FALSE NEIGHBOUR: 'it returns false'. Refute it at one input. -/
def pairsExactWrong : ChangeSpec := { name := "pairsExact", fn := fun _ => fun
  | [d1, d2] => { results := [.lit (.bool false)], args := [d1, d2] }
  | _ => none }
def PairsExactWrongFalsely : Prop := pairsExactRow.holds Try.pinned (OpenSpec.ofChange pairsExactWrong)

/-- 'simulatorlaw50.PairsSplits': WHATEVER THE INPUT: true; the input reads as it did. -/
def pairsSplitsSpec : ChangeSpec := { name := "pairsSplits", fn := fun _ => fun
  | [d] => { results := [.lit (.bool true)], args := [d] }
  | _ => none }
def pairsSplitsRow : OpenClaim := { program := "ytpmmmkdccbdkfaa", sum := "f6a2e32f0818a78e8ce4d3f94610238408d059a8a5b91ce422cba91fe54da918", func := "simulator/simulatorlaw50.PairsSplits", spec := "pairsSplits", inPlace := ["math/bits.Add64", "math/bits.Sub64"], unfollowed := true, recurses := true, named := ["math/bits.divideError", "math/bits.overflowError"], apart := false }
def PairsSplitsSaid : Prop := pairsSplitsRow.holds Try.pinned (OpenSpec.ofChange pairsSplitsSpec)

/-- ITS FALSE NEIGHBOUR: 'it returns false'. Refute it at one input. -/
def pairsSplitsWrong : ChangeSpec := { name := "pairsSplits", fn := fun _ => fun
  | [d] => { results := [.lit (.bool false)], args := [d] }
  | _ => none }
def PairsSplitsWrongFalsely : Prop := pairsSplitsRow.holds Try.pinned (OpenSpec.ofChange pairsSplitsWrong)

/-- 'simulatorlaw50.PairsBack': WHATEVER THE INPUT: true; the input reads as it did. -/
def pairsBackSpec : ChangeSpec := { name := "pairsBack", fn := fun _ => fun
  | [d1, d2] => { results := [.lit (.bool true)], args := [d1, d2] }
  | _ => none }
def pairsBackRow : OpenClaim := { program := "ytpmmmkdccbdkfaa", sum := "f6a2e32f0818a78e8ce4d3f94610238408d059a8a5b91ce422cba91fe54da918", func := "simulator/simulatorlaw50.PairsBack", spec := "pairsBack", inPlace := ["math/bits.Add64", "math/bits.Sub64"], unfollowed := true, recurses := true, named := ["math/bits.divideError", "math/bits.overflowError"], apart := false }
def PairsBackSaid : Prop := pairsBackRow.holds Try.pinned (OpenSpec.ofChange pairsBackSpec)

/-- ITS FALSE NEIGHBOUR: 'it returns false'. Refute it at one input. -/
def pairsBackWrong : ChangeSpec := { name := "pairsBack", fn := fun _ => fun
  | [d1, d2] => { results := [.lit (.bool false)], args := [d1, d2] }
  | _ => none }
def PairsBackWrongFalsely : Prop := pairsBackRow.holds Try.pinned (OpenSpec.ofChange pairsBackWrong)

/-- 'simulatorlaw50.PairsMirrors': WHATEVER THE INPUT: true; the input reads as it did. -/
def pairsMirrorsSpec : ChangeSpec := { name := "pairsMirrors", fn := fun _ => fun
  | [d1, d2] => { results := [.lit (.bool true)], args := [d1, d2] }
  | _ => none }
def pairsMirrorsRow : OpenClaim := { program := "ytpmmmkdccbdkfaa", sum := "f6a2e32f0818a78e8ce4d3f94610238408d059a8a5b91ce422cba91fe54da918", func := "simulator/simulatorlaw50.PairsMirrors", spec := "pairsMirrors", inPlace := ["math/bits.Add64", "math/bits.Sub64"], unfollowed := true, recurses := true, named := ["math/bits.divideError", "math/bits.overflowError"], apart := false }
def PairsMirrorsSaid : Prop := pairsMirrorsRow.holds Try.pinned (OpenSpec.ofChange pairsMirrorsSpec)

/-- ITS FALSE NEIGHBOUR: 'it returns false'. Refute it at one input. -/
def pairsMirrorsWrong : ChangeSpec := { name := "pairsMirrors", fn := fun _ => fun
  | [d1, d2] => { results := [.lit (.bool false)], args := [d1, d2] }
  | _ => none }
def PairsMirrorsWrongFalsely : Prop := pairsMirrorsRow.holds Try.pinned (OpenSpec.ofChange pairsMirrorsWrong)

/-- 'simulatorlaw50.PairsGains': WHATEVER THE INPUT: true; the input reads as it did. -/
def pairsGainsSpec : ChangeSpec := { name := "pairsGains", fn := fun _ => fun
  | [d1, d2] => { results := [.lit (.bool true)], args := [d1, d2] }
  | _ => none }
def pairsGainsRow : OpenClaim := { program := "ytpmmmkdccbdkfaa", sum := "f6a2e32f0818a78e8ce4d3f94610238408d059a8a5b91ce422cba91fe54da918", func := "simulator/simulatorlaw50.PairsGains", spec := "pairsGains", inPlace := ["math/bits.Add64", "math/bits.Sub64"], unfollowed := true, recurses := true, named := ["math/bits.divideError", "math/bits.overflowError"], apart := false }
def PairsGainsSaid : Prop := pairsGainsRow.holds Try.pinned (OpenSpec.ofChange pairsGainsSpec)

/-- ITS FALSE NEIGHBOUR: 'it returns false'. Refute it at one input. -/
def pairsGainsWrong : ChangeSpec := { name := "pairsGains", fn := fun _ => fun
  | [d1, d2] => { results := [.lit (.bool false)], args := [d1, d2] }
  | _ => none }
def PairsGainsWrongFalsely : Prop := pairsGainsRow.holds Try.pinned (OpenSpec.ofChange pairsGainsWrong)

/- THE SECOND FORM. 'bulk': how many values and letters a reading holds, each counted each time it is reached (what is shared counts as often as it is met; a slice's spare places count too). A statement '..UptoSaid' is the law's where the arguments, and the package variables that the reading takes, are together of bulk at most 1048576: NARROWER than '..Said'. Prove '..Said' where nothing that the law and all that it calls make is longer than what came in: it says more and counts as full. Else prove '..UptoSaid'. A law counts once. -/
mutual
def uptoBulk {H : Type} : DataW H → Nat
  | .lit (.string bytes) => bytes.length + 1
  | .lit _ => 1
  | .nil => 1
  | .ptr d => uptoBulk d + 1
  | .slice elems spare => uptoBulkAll elems + uptoBulkAll spare + 1
  | .agg parts => uptoBulkAll parts + 1
  | .iface _ d => uptoBulk d + 1
  | .map entries => uptoBulkEntries entries + 1
  | .held _ => 1
def uptoBulkAll {H : Type} : List (DataW H) → Nat
  | [] => 0
  | d :: r => uptoBulk d + uptoBulkAll r
def uptoBulkEntries {H : Type} : List (Lit × DataW H) → Nat
  | [] => 0
  | x :: r => uptoBulkEntry x + uptoBulkEntries r
def uptoBulkEntry {H : Type} : Lit × DataW H → Nat
  | (.string bytes, d) => bytes.length + uptoBulk d + 1
  | (_, d) => uptoBulk d + 1
 end
def uptoSmall : (H : Type) → List (DataW H) → Bool := fun _ ds => decide (uptoBulkAll ds ≤ 1048576)
def OpenSpec.upto (s : _root_.Go.ChangeSpec) : _root_.Go.OpenSpec := { _root_.Go.OpenSpec.ofChange s with cond := some uptoSmall }

/-- 'simulatorlaw50.PairsExact', WHERE WHAT IT READS IS OF BULK AT MOST 1048576: true; the input reads as it did. -/
def pairsExactUptoRow : OpenClaim := { program := "ytpmmmkdccbdkfaa", sum := "f6a2e32f0818a78e8ce4d3f94610238408d059a8a5b91ce422cba91fe54da918", func := "simulator/simulatorlaw50.PairsExact", spec := "pairsExact", inPlace := ["math/bits.Add64", "math/bits.Sub64"], unfollowed := true, recurses := true, named := ["math/bits.divideError", "math/bits.overflowError"], apart := false, narrowed := true }
def PairsExactUptoSaid : Prop := pairsExactUptoRow.holds Try.pinned (OpenSpec.upto pairsExactSpec)

/-- 'simulatorlaw50.PairsSplits', WHERE WHAT IT READS IS OF BULK AT MOST 1048576: true; the input reads as it did. -/
def pairsSplitsUptoRow : OpenClaim := { program := "ytpmmmkdccbdkfaa", sum := "f6a2e32f0818a78e8ce4d3f94610238408d059a8a5b91ce422cba91fe54da918", func := "simulator/simulatorlaw50.PairsSplits", spec := "pairsSplits", inPlace := ["math/bits.Add64", "math/bits.Sub64"], unfollowed := true, recurses := true, named := ["math/bits.divideError", "math/bits.overflowError"], apart := false, narrowed := true }
def PairsSplitsUptoSaid : Prop := pairsSplitsUptoRow.holds Try.pinned (OpenSpec.upto pairsSplitsSpec)

/-- 'simulatorlaw50.PairsBack', WHERE WHAT IT READS IS OF BULK AT MOST 1048576: true; the input reads as it did. -/
def pairsBackUptoRow : OpenClaim := { program := "ytpmmmkdccbdkfaa", sum := "f6a2e32f0818a78e8ce4d3f94610238408d059a8a5b91ce422cba91fe54da918", func := "simulator/simulatorlaw50.PairsBack", spec := "pairsBack", inPlace := ["math/bits.Add64", "math/bits.Sub64"], unfollowed := true, recurses := true, named := ["math/bits.divideError", "math/bits.overflowError"], apart := false, narrowed := true }
def PairsBackUptoSaid : Prop := pairsBackUptoRow.holds Try.pinned (OpenSpec.upto pairsBackSpec)

/-- 'simulatorlaw50.PairsMirrors', WHERE WHAT IT READS IS OF BULK AT MOST 1048576: true; the input reads as it did. -/
def pairsMirrorsUptoRow : OpenClaim := { program := "ytpmmmkdccbdkfaa", sum := "f6a2e32f0818a78e8ce4d3f94610238408d059a8a5b91ce422cba91fe54da918", func := "simulator/simulatorlaw50.PairsMirrors", spec := "pairsMirrors", inPlace := ["math/bits.Add64", "math/bits.Sub64"], unfollowed := true, recurses := true, named := ["math/bits.divideError", "math/bits.overflowError"], apart := false, narrowed := true }
def PairsMirrorsUptoSaid : Prop := pairsMirrorsUptoRow.holds Try.pinned (OpenSpec.upto pairsMirrorsSpec)

/-- 'simulatorlaw50.PairsGains', WHERE WHAT IT READS IS OF BULK AT MOST 1048576: true; the input reads as it did. -/
def pairsGainsUptoRow : OpenClaim := { program := "ytpmmmkdccbdkfaa", sum := "f6a2e32f0818a78e8ce4d3f94610238408d059a8a5b91ce422cba91fe54da918", func := "simulator/simulatorlaw50.PairsGains", spec := "pairsGains", inPlace := ["math/bits.Add64", "math/bits.Sub64"], unfollowed := true, recurses := true, named := ["math/bits.divideError", "math/bits.overflowError"], apart := false, narrowed := true }
def PairsGainsUptoSaid : Prop := pairsGainsUptoRow.holds Try.pinned (OpenSpec.upto pairsGainsSpec)

end Rows
end Go.Proofs.Ytpmmmkdccbdkfaa
