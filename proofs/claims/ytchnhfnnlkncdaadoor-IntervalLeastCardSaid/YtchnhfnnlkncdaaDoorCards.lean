/-
  DERIVED. GIVEN WITH THE SEED: THE CARDS: each row of YtchnhfnnlkncdaaDoorRows.lean that lists a variable, with what it lists TIED to the program's text (the seventh form; the later family's looks); each row that meets fmt, with fmt's text TOLD by the authors' own Lean function (tested against real Go, not proved from fmt's source: count such statements apart). THE CARD IS WHAT COUNTS. Prove the row's statement (the work); the ties are given (YtchnhfnnlkncdaaDoorTie.lean); close each card by the builder's one call (the guide's Derived/Test/ToyasCard.lean, 'card_holds'). Laid BY PROGRAM, IN A SANDBOX (cutbox-door.mjs). By AI agents, Wed Nov 11 2026. No macro, syntax, notation, axiom, sorry.
-/
import Derived.Test.YtchnhfnnlkncdaaDoorRows
import GoSem.ClaimSeven
namespace Go.Proofs.YtchnhfnnlkncdaaDoor
namespace Rows

/-- THE TIED CARD OF 'simulatorlaw49.IntervalOf'. -/
def intervalOfCard : Claim7 := { stood := { row := intervalOfRow, standIns := [], harness := (true, "3c86034e67c5616d38ff392a8ba0a522a1e631b0cb48adbc1b8530354a08ea7b"), looks := false }, kinds := [], alts := [], laidByText := true, laidKinds := [.data], laidTests := true, laidLooks := .later }
def IntervalOfCardSaid : Prop := Claim7.holds Tryd.pinned (.plain (OpenSpec.ofChange intervalOfSpec)) intervalOfCard

/-- THE TIED CARD OF 'simulatorlaw49.IntervalTells'. -/
def intervalTellsCard : Claim7 := { stood := { row := intervalTellsRow, standIns := [], harness := (true, "3c86034e67c5616d38ff392a8ba0a522a1e631b0cb48adbc1b8530354a08ea7b"), looks := false }, kinds := [], alts := [], laidByText := true, laidKinds := [.data], laidTests := true, laidLooks := .later }
def IntervalTellsCardSaid : Prop := Claim7.holds Tryd.pinned (.plain (OpenSpec.ofChange intervalTellsSpec)) intervalTellsCard

/-- THE TIED CARD OF 'simulatorlaw49.IntervalLeast'. -/
def intervalLeastCard : Claim7 := { stood := { row := intervalLeastRow, standIns := [], harness := (true, "3c86034e67c5616d38ff392a8ba0a522a1e631b0cb48adbc1b8530354a08ea7b"), looks := false }, kinds := [], alts := [], laidByText := true, laidKinds := [.data], laidTests := true, laidLooks := .later }
def IntervalLeastCardSaid : Prop := Claim7.holds Tryd.pinned (.plain (OpenSpec.ofChange intervalLeastSpec)) intervalLeastCard

/-- THE TIED CARD OF 'simulatorlaw49.IntervalMoves'. -/
def intervalMovesCard : Claim7 := { stood := { row := intervalMovesRow, standIns := [], harness := (true, "3c86034e67c5616d38ff392a8ba0a522a1e631b0cb48adbc1b8530354a08ea7b"), looks := false }, kinds := [], alts := [], laidByText := true, laidKinds := [.data], laidTests := true, laidLooks := .later }
def IntervalMovesCardSaid : Prop := Claim7.holds Tryd.pinned (.plain (OpenSpec.ofChange intervalMovesSpec)) intervalMovesCard

/-- THE TIED CARD OF 'simulatorlaw49.IntervalApart'. -/
def intervalApartCard : Claim7 := { stood := { row := intervalApartRow, standIns := [], harness := (true, "3c86034e67c5616d38ff392a8ba0a522a1e631b0cb48adbc1b8530354a08ea7b"), looks := false }, kinds := [], alts := [], laidByText := true, laidKinds := [.data], laidTests := true, laidLooks := .later }
def IntervalApartCardSaid : Prop := Claim7.holds Tryd.pinned (.plain (OpenSpec.ofChange intervalApartSpec)) intervalApartCard

/-- THE SECOND FORM's CARD OF 'simulatorlaw49.IntervalOf'. -/
def intervalOfUptoCard : Claim7 := { stood := { row := intervalOfUptoRow, standIns := [], harness := (true, "3c86034e67c5616d38ff392a8ba0a522a1e631b0cb48adbc1b8530354a08ea7b"), looks := false }, kinds := [], alts := [], laidByText := true, laidKinds := [.data], laidTests := true, laidLooks := .later }
def IntervalOfUptoCardSaid : Prop := Claim7.holds Tryd.pinned (.plain (OpenSpec.upto intervalOfSpec)) intervalOfUptoCard

/-- THE SECOND FORM's CARD OF 'simulatorlaw49.IntervalTells'. -/
def intervalTellsUptoCard : Claim7 := { stood := { row := intervalTellsUptoRow, standIns := [], harness := (true, "3c86034e67c5616d38ff392a8ba0a522a1e631b0cb48adbc1b8530354a08ea7b"), looks := false }, kinds := [], alts := [], laidByText := true, laidKinds := [.data], laidTests := true, laidLooks := .later }
def IntervalTellsUptoCardSaid : Prop := Claim7.holds Tryd.pinned (.plain (OpenSpec.upto intervalTellsSpec)) intervalTellsUptoCard

/-- THE SECOND FORM's CARD OF 'simulatorlaw49.IntervalLeast'. -/
def intervalLeastUptoCard : Claim7 := { stood := { row := intervalLeastUptoRow, standIns := [], harness := (true, "3c86034e67c5616d38ff392a8ba0a522a1e631b0cb48adbc1b8530354a08ea7b"), looks := false }, kinds := [], alts := [], laidByText := true, laidKinds := [.data], laidTests := true, laidLooks := .later }
def IntervalLeastUptoCardSaid : Prop := Claim7.holds Tryd.pinned (.plain (OpenSpec.upto intervalLeastSpec)) intervalLeastUptoCard

/-- THE SECOND FORM's CARD OF 'simulatorlaw49.IntervalMoves'. -/
def intervalMovesUptoCard : Claim7 := { stood := { row := intervalMovesUptoRow, standIns := [], harness := (true, "3c86034e67c5616d38ff392a8ba0a522a1e631b0cb48adbc1b8530354a08ea7b"), looks := false }, kinds := [], alts := [], laidByText := true, laidKinds := [.data], laidTests := true, laidLooks := .later }
def IntervalMovesUptoCardSaid : Prop := Claim7.holds Tryd.pinned (.plain (OpenSpec.upto intervalMovesSpec)) intervalMovesUptoCard

/-- THE SECOND FORM's CARD OF 'simulatorlaw49.IntervalApart'. -/
def intervalApartUptoCard : Claim7 := { stood := { row := intervalApartUptoRow, standIns := [], harness := (true, "3c86034e67c5616d38ff392a8ba0a522a1e631b0cb48adbc1b8530354a08ea7b"), looks := false }, kinds := [], alts := [], laidByText := true, laidKinds := [.data], laidTests := true, laidLooks := .later }
def IntervalApartUptoCardSaid : Prop := Claim7.holds Tryd.pinned (.plain (OpenSpec.upto intervalApartSpec)) intervalApartUptoCard
end Rows
end Go.Proofs.YtchnhfnnlkncdaaDoor
