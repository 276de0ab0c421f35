/-
  DERIVED. GIVEN WITH THE SEED: THE CARDS: each row of YtmaocifplceopaaDoorRows.lean that lists a variable, with what it lists TIED to the program's text (the seventh form; the later family's looks); each row that meets fmt, with fmt's text TOLD by the authors' own Lean function (tested against real Go, not proved from fmt's source: count such statements apart). THE CARD IS WHAT COUNTS. Prove the row's statement (the work); the ties are given (YtmaocifplceopaaDoorTie.lean); close each card by the builder's one call (the guide's Derived/Test/ToyasCard.lean, 'card_holds'). Laid BY PROGRAM, IN A SANDBOX (cutbox-door.mjs). By AI agents, Wed Nov 11 2026. No macro, syntax, notation, axiom, sorry.
-/
import Derived.Test.YtmaocifplceopaaDoorRows
import GoSem.ClaimSeven
namespace Go.Proofs.YtmaocifplceopaaDoor
namespace Rows

/-- THE TIED CARD OF 'simulatorlaw04.DistChecks'. -/
def distChecksCard : Claim7 := { stood := { row := distChecksRow, standIns := [], harness := (true, "b747ab72172f00e74019d6bb1992fae90de1758f438500527dbcbbc58263b54e"), looks := false }, kinds := [], alts := [], laidByText := true, laidKinds := [.data, .data, .data], laidTests := true, laidLooks := .later }
def DistChecksCardSaid : Prop := Claim7.holds Tryd.pinned (.plain (OpenSpec.ofChange distChecksSpec)) distChecksCard

/-- THE TIED CARD OF 'simulatorlaw04.DistValues'. -/
def distValuesCard : Claim7 := { stood := { row := distValuesRow, standIns := [], harness := (true, "b747ab72172f00e74019d6bb1992fae90de1758f438500527dbcbbc58263b54e"), looks := false }, kinds := [], alts := [], laidByText := true, laidKinds := [.data, .data, .data], laidTests := true, laidLooks := .later }
def DistValuesCardSaid : Prop := Claim7.holds Tryd.pinned (.plain (OpenSpec.ofChange distValuesSpec)) distValuesCard

/-- THE TIED CARD OF 'simulatorlaw04.DistGrows'. -/
def distGrowsCard : Claim7 := { stood := { row := distGrowsRow, standIns := [], harness := (true, "b747ab72172f00e74019d6bb1992fae90de1758f438500527dbcbbc58263b54e"), looks := false }, kinds := [], alts := [], laidByText := true, laidKinds := [.data, .data, .data], laidTests := true, laidLooks := .later }
def DistGrowsCardSaid : Prop := Claim7.holds Tryd.pinned (.plain (OpenSpec.ofChange distGrowsSpec)) distGrowsCard

/-- THE TIED CARD OF 'simulatorlaw04.DistShares'. -/
def distSharesCard : Claim7 := { stood := { row := distSharesRow, standIns := [], harness := (true, "b747ab72172f00e74019d6bb1992fae90de1758f438500527dbcbbc58263b54e"), looks := false }, kinds := [], alts := [], laidByText := true, laidKinds := [.data, .data, .data], laidTests := true, laidLooks := .later }
def DistSharesCardSaid : Prop := Claim7.holds Tryd.pinned (.plain (OpenSpec.ofChange distSharesSpec)) distSharesCard

/-- THE TIED CARD OF 'simulatorlaw04.DistTexts'. -/
def distTextsCard : Claim7 := { stood := { row := distTextsRow, standIns := [], harness := (true, "b747ab72172f00e74019d6bb1992fae90de1758f438500527dbcbbc58263b54e"), looks := false }, kinds := [], alts := [], laidByText := true, laidKinds := [.data, .data, .data], laidTests := true, laidLooks := .later }
def DistTextsCardSaid : Prop := Claim7.holds Tryd.pinned (.plain (OpenSpec.ofChange distTextsSpec)) distTextsCard

/-- THE TIED CARD OF 'simulatorlaw04.DistDraws'. -/
def distDrawsCard : Claim7 := { stood := { row := distDrawsRow, standIns := [], harness := (true, "b747ab72172f00e74019d6bb1992fae90de1758f438500527dbcbbc58263b54e"), looks := false }, kinds := [], alts := [], laidByText := true, laidKinds := [.data, .data, .data], laidTests := true, laidLooks := .later }
def DistDrawsCardSaid : Prop := Claim7.holds Tryd.pinned (.plain (OpenSpec.ofChange distDrawsSpec)) distDrawsCard

/-- THE TIED CARD OF 'simulatorlaw04.DistSteps'. -/
def distStepsCard : Claim7 := { stood := { row := distStepsRow, standIns := [], harness := (true, "b747ab72172f00e74019d6bb1992fae90de1758f438500527dbcbbc58263b54e"), looks := false }, kinds := [], alts := [], laidByText := true, laidKinds := [.data, .data, .data], laidTests := true, laidLooks := .later }
def DistStepsCardSaid : Prop := Claim7.holds Tryd.pinned (.plain (OpenSpec.ofChange distStepsSpec)) distStepsCard

/-- THE SECOND FORM's CARD OF 'simulatorlaw04.DistChecks'. -/
def distChecksUptoCard : Claim7 := { stood := { row := distChecksUptoRow, standIns := [], harness := (true, "b747ab72172f00e74019d6bb1992fae90de1758f438500527dbcbbc58263b54e"), looks := false }, kinds := [], alts := [], laidByText := true, laidKinds := [.data, .data, .data], laidTests := true, laidLooks := .later }
def DistChecksUptoCardSaid : Prop := Claim7.holds Tryd.pinned (.plain (OpenSpec.upto distChecksSpec)) distChecksUptoCard

/-- THE SECOND FORM's CARD OF 'simulatorlaw04.DistValues'. -/
def distValuesUptoCard : Claim7 := { stood := { row := distValuesUptoRow, standIns := [], harness := (true, "b747ab72172f00e74019d6bb1992fae90de1758f438500527dbcbbc58263b54e"), looks := false }, kinds := [], alts := [], laidByText := true, laidKinds := [.data, .data, .data], laidTests := true, laidLooks := .later }
def DistValuesUptoCardSaid : Prop := Claim7.holds Tryd.pinned (.plain (OpenSpec.upto distValuesSpec)) distValuesUptoCard

/-- THE SECOND FORM's CARD OF 'simulatorlaw04.DistGrows'. -/
def distGrowsUptoCard : Claim7 := { stood := { row := distGrowsUptoRow, standIns := [], harness := (true, "b747ab72172f00e74019d6bb1992fae90de1758f438500527dbcbbc58263b54e"), looks := false }, kinds := [], alts := [], laidByText := true, laidKinds := [.data, .data, .data], laidTests := true, laidLooks := .later }
def DistGrowsUptoCardSaid : Prop := Claim7.holds Tryd.pinned (.plain (OpenSpec.upto distGrowsSpec)) distGrowsUptoCard

/-- THE SECOND FORM's CARD OF 'simulatorlaw04.DistShares'. -/
def distSharesUptoCard : Claim7 := { stood := { row := distSharesUptoRow, standIns := [], harness := (true, "b747ab72172f00e74019d6bb1992fae90de1758f438500527dbcbbc58263b54e"), looks := false }, kinds := [], alts := [], laidByText := true, laidKinds := [.data, .data, .data], laidTests := true, laidLooks := .later }
def DistSharesUptoCardSaid : Prop := Claim7.holds Tryd.pinned (.plain (OpenSpec.upto distSharesSpec)) distSharesUptoCard

/-- THE SECOND FORM's CARD OF 'simulatorlaw04.DistTexts'. -/
def distTextsUptoCard : Claim7 := { stood := { row := distTextsUptoRow, standIns := [], harness := (true, "b747ab72172f00e74019d6bb1992fae90de1758f438500527dbcbbc58263b54e"), looks := false }, kinds := [], alts := [], laidByText := true, laidKinds := [.data, .data, .data], laidTests := true, laidLooks := .later }
def DistTextsUptoCardSaid : Prop := Claim7.holds Tryd.pinned (.plain (OpenSpec.upto distTextsSpec)) distTextsUptoCard

/-- THE SECOND FORM's CARD OF 'simulatorlaw04.DistDraws'. -/
def distDrawsUptoCard : Claim7 := { stood := { row := distDrawsUptoRow, standIns := [], harness := (true, "b747ab72172f00e74019d6bb1992fae90de1758f438500527dbcbbc58263b54e"), looks := false }, kinds := [], alts := [], laidByText := true, laidKinds := [.data, .data, .data], laidTests := true, laidLooks := .later }
def DistDrawsUptoCardSaid : Prop := Claim7.holds Tryd.pinned (.plain (OpenSpec.upto distDrawsSpec)) distDrawsUptoCard

/-- THE SECOND FORM's CARD OF 'simulatorlaw04.DistSteps'. -/
def distStepsUptoCard : Claim7 := { stood := { row := distStepsUptoRow, standIns := [], harness := (true, "b747ab72172f00e74019d6bb1992fae90de1758f438500527dbcbbc58263b54e"), looks := false }, kinds := [], alts := [], laidByText := true, laidKinds := [.data, .data, .data], laidTests := true, laidLooks := .later }
def DistStepsUptoCardSaid : Prop := Claim7.holds Tryd.pinned (.plain (OpenSpec.upto distStepsSpec)) distStepsUptoCard
end Rows
end Go.Proofs.YtmaocifplceopaaDoor
