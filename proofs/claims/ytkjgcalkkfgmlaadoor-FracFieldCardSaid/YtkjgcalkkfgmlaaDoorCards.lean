/-
  DERIVED. GIVEN WITH THE SEED: THE CARDS: each row of YtkjgcalkkfgmlaaDoorRows.lean that lists a variable, with what it lists TIED to the program's text (the seventh form; the later family's looks); each row that meets fmt, with fmt's text TOLD by the authors' own Lean function (tested against real Go, not proved from fmt's source: count such statements apart). THE CARD IS WHAT COUNTS. Prove the row's statement (the work); the ties are given (YtkjgcalkkfgmlaaDoorTie.lean); close each card by the builder's one call (the guide's Derived/Test/ToyasCard.lean, 'card_holds'). Laid BY PROGRAM, IN A SANDBOX (cutbox-door.mjs). By AI agents, Wed Nov 11 2026. No macro, syntax, notation, axiom, sorry.
-/
import Derived.Test.YtkjgcalkkfgmlaaDoorRows
import GoSem.ClaimSeven
namespace Go.Proofs.YtkjgcalkkfgmlaaDoor
namespace Rows

/-- THE TIED CARD OF 'simulatorlaw02.FracMakes'. -/
def fracMakesCard : Claim7 := { stood := { row := fracMakesRow, standIns := [], harness := (true, "d42c871acdf449387827df040e187115335dd90a8baa5e29e5756e1790b7e0a8"), looks := false }, kinds := [], alts := [], laidByText := true, laidKinds := [.data, .data, .data], laidTests := true, laidLooks := .later }
def FracMakesCardSaid : Prop := Claim7.holds Tryd.pinned (.plain (OpenSpec.ofChange fracMakesSpec)) fracMakesCard

/-- THE TIED CARD OF 'simulatorlaw02.FracChecks'. -/
def fracChecksCard : Claim7 := { stood := { row := fracChecksRow, standIns := [], harness := (true, "d42c871acdf449387827df040e187115335dd90a8baa5e29e5756e1790b7e0a8"), looks := false }, kinds := [], alts := [], laidByText := true, laidKinds := [.data, .data, .data], laidTests := true, laidLooks := .later }
def FracChecksCardSaid : Prop := Claim7.holds Tryd.pinned (.plain (OpenSpec.ofChange fracChecksSpec)) fracChecksCard

/-- THE TIED CARD OF 'simulatorlaw02.FracSums'. -/
def fracSumsCard : Claim7 := { stood := { row := fracSumsRow, standIns := [], harness := (true, "d42c871acdf449387827df040e187115335dd90a8baa5e29e5756e1790b7e0a8"), looks := false }, kinds := [], alts := [], laidByText := true, laidKinds := [.data, .data, .data], laidTests := true, laidLooks := .later }
def FracSumsCardSaid : Prop := Claim7.holds Tryd.pinned (.plain (OpenSpec.ofChange fracSumsSpec)) fracSumsCard

/-- THE TIED CARD OF 'simulatorlaw02.FracOrders'. -/
def fracOrdersCard : Claim7 := { stood := { row := fracOrdersRow, standIns := [], harness := (true, "d42c871acdf449387827df040e187115335dd90a8baa5e29e5756e1790b7e0a8"), looks := false }, kinds := [], alts := [], laidByText := true, laidKinds := [.data, .data, .data], laidTests := true, laidLooks := .later }
def FracOrdersCardSaid : Prop := Claim7.holds Tryd.pinned (.plain (OpenSpec.ofChange fracOrdersSpec)) fracOrdersCard

/-- THE TIED CARD OF 'simulatorlaw02.FracFloors'. -/
def fracFloorsCard : Claim7 := { stood := { row := fracFloorsRow, standIns := [], harness := (true, "d42c871acdf449387827df040e187115335dd90a8baa5e29e5756e1790b7e0a8"), looks := false }, kinds := [], alts := [], laidByText := true, laidKinds := [.data, .data, .data], laidTests := true, laidLooks := .later }
def FracFloorsCardSaid : Prop := Claim7.holds Tryd.pinned (.plain (OpenSpec.ofChange fracFloorsSpec)) fracFloorsCard

/-- THE TIED CARD OF 'simulatorlaw02.FracExact'. -/
def fracExactCard : Claim7 := { stood := { row := fracExactRow, standIns := [], harness := (true, "d42c871acdf449387827df040e187115335dd90a8baa5e29e5756e1790b7e0a8"), looks := false }, kinds := [], alts := [], laidByText := true, laidKinds := [.data, .data, .data], laidTests := true, laidLooks := .later }
def FracExactCardSaid : Prop := Claim7.holds Tryd.pinned (.plain (OpenSpec.ofChange fracExactSpec)) fracExactCard

/-- THE TIED CARD OF 'simulatorlaw02.FracField'. -/
def fracFieldCard : Claim7 := { stood := { row := fracFieldRow, standIns := [], harness := (true, "d42c871acdf449387827df040e187115335dd90a8baa5e29e5756e1790b7e0a8"), looks := false }, kinds := [], alts := [], laidByText := true, laidKinds := [.data, .data, .data], laidTests := true, laidLooks := .later }
def FracFieldCardSaid : Prop := Claim7.holds Tryd.pinned (.plain (OpenSpec.ofChange fracFieldSpec)) fracFieldCard

/-- THE SECOND FORM's CARD OF 'simulatorlaw02.FracMakes'. -/
def fracMakesUptoCard : Claim7 := { stood := { row := fracMakesUptoRow, standIns := [], harness := (true, "d42c871acdf449387827df040e187115335dd90a8baa5e29e5756e1790b7e0a8"), looks := false }, kinds := [], alts := [], laidByText := true, laidKinds := [.data, .data, .data], laidTests := true, laidLooks := .later }
def FracMakesUptoCardSaid : Prop := Claim7.holds Tryd.pinned (.plain (OpenSpec.upto fracMakesSpec)) fracMakesUptoCard

/-- THE SECOND FORM's CARD OF 'simulatorlaw02.FracChecks'. -/
def fracChecksUptoCard : Claim7 := { stood := { row := fracChecksUptoRow, standIns := [], harness := (true, "d42c871acdf449387827df040e187115335dd90a8baa5e29e5756e1790b7e0a8"), looks := false }, kinds := [], alts := [], laidByText := true, laidKinds := [.data, .data, .data], laidTests := true, laidLooks := .later }
def FracChecksUptoCardSaid : Prop := Claim7.holds Tryd.pinned (.plain (OpenSpec.upto fracChecksSpec)) fracChecksUptoCard

/-- THE SECOND FORM's CARD OF 'simulatorlaw02.FracSums'. -/
def fracSumsUptoCard : Claim7 := { stood := { row := fracSumsUptoRow, standIns := [], harness := (true, "d42c871acdf449387827df040e187115335dd90a8baa5e29e5756e1790b7e0a8"), looks := false }, kinds := [], alts := [], laidByText := true, laidKinds := [.data, .data, .data], laidTests := true, laidLooks := .later }
def FracSumsUptoCardSaid : Prop := Claim7.holds Tryd.pinned (.plain (OpenSpec.upto fracSumsSpec)) fracSumsUptoCard

/-- THE SECOND FORM's CARD OF 'simulatorlaw02.FracOrders'. -/
def fracOrdersUptoCard : Claim7 := { stood := { row := fracOrdersUptoRow, standIns := [], harness := (true, "d42c871acdf449387827df040e187115335dd90a8baa5e29e5756e1790b7e0a8"), looks := false }, kinds := [], alts := [], laidByText := true, laidKinds := [.data, .data, .data], laidTests := true, laidLooks := .later }
def FracOrdersUptoCardSaid : Prop := Claim7.holds Tryd.pinned (.plain (OpenSpec.upto fracOrdersSpec)) fracOrdersUptoCard

/-- THE SECOND FORM's CARD OF 'simulatorlaw02.FracFloors'. -/
def fracFloorsUptoCard : Claim7 := { stood := { row := fracFloorsUptoRow, standIns := [], harness := (true, "d42c871acdf449387827df040e187115335dd90a8baa5e29e5756e1790b7e0a8"), looks := false }, kinds := [], alts := [], laidByText := true, laidKinds := [.data, .data, .data], laidTests := true, laidLooks := .later }
def FracFloorsUptoCardSaid : Prop := Claim7.holds Tryd.pinned (.plain (OpenSpec.upto fracFloorsSpec)) fracFloorsUptoCard

/-- THE SECOND FORM's CARD OF 'simulatorlaw02.FracExact'. -/
def fracExactUptoCard : Claim7 := { stood := { row := fracExactUptoRow, standIns := [], harness := (true, "d42c871acdf449387827df040e187115335dd90a8baa5e29e5756e1790b7e0a8"), looks := false }, kinds := [], alts := [], laidByText := true, laidKinds := [.data, .data, .data], laidTests := true, laidLooks := .later }
def FracExactUptoCardSaid : Prop := Claim7.holds Tryd.pinned (.plain (OpenSpec.upto fracExactSpec)) fracExactUptoCard

/-- THE SECOND FORM's CARD OF 'simulatorlaw02.FracField'. -/
def fracFieldUptoCard : Claim7 := { stood := { row := fracFieldUptoRow, standIns := [], harness := (true, "d42c871acdf449387827df040e187115335dd90a8baa5e29e5756e1790b7e0a8"), looks := false }, kinds := [], alts := [], laidByText := true, laidKinds := [.data, .data, .data], laidTests := true, laidLooks := .later }
def FracFieldUptoCardSaid : Prop := Claim7.holds Tryd.pinned (.plain (OpenSpec.upto fracFieldSpec)) fracFieldUptoCard
end Rows
end Go.Proofs.YtkjgcalkkfgmlaaDoor
