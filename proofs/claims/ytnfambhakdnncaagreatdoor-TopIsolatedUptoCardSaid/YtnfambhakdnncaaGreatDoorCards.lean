/-
  DERIVED. GIVEN WITH THE SEED: THE CARDS: each row of YtnfambhakdnncaaGreatDoorRows.lean that lists a variable, with what it lists TIED to the program's text (the seventh form; the later family's looks); each row that meets fmt, with fmt's text TOLD by the authors' own Lean function (tested against real Go, not proved from fmt's source: count such statements apart). THE CARD IS WHAT COUNTS. Prove the row's statement (the work); the ties are given (YtnfambhakdnncaaGreatDoorTie.lean); close each card by the builder's one call (the guide's Derived/Test/ToyasCard.lean, 'card_holds'). Laid BY PROGRAM, IN A SANDBOX (cutbox-door.mjs). By AI agents, Wed Nov 11 2026. No macro, syntax, notation, axiom, sorry.
-/
import Derived.Test.YtnfambhakdnncaaGreatDoorRows
import GoSem.ClaimSeven
namespace Go.Proofs.YtnfambhakdnncaaGreatDoor
namespace Rows

/-- THE TIED CARD OF 'simulatortop.TopIsolated'. -/
def topIsolatedCard : Claim7 := { stood := { row := topIsolatedRow, standIns := [], harness := (true, "b5f4aca216fcd0bba57cc0234ef0975106ccb0f1fcb86fcc7a4f1f4acfbcef96"), looks := true }, kinds := [], alts := [], laidByText := true, laidKinds := [.data], laidTests := true, laidLooks := .later }
def TopIsolatedCardSaid : Prop := Claim7.holds Tryz.pinned (.plain (OpenSpec.ofChange topIsolatedSpec)) topIsolatedCard

/-- THE SECOND FORM's CARD OF 'simulatortop.TopIsolated'. -/
def topIsolatedUptoCard : Claim7 := { stood := { row := topIsolatedUptoRow, standIns := [], harness := (true, "b5f4aca216fcd0bba57cc0234ef0975106ccb0f1fcb86fcc7a4f1f4acfbcef96"), looks := true }, kinds := [], alts := [], laidByText := true, laidKinds := [.data], laidTests := true, laidLooks := .later }
def TopIsolatedUptoCardSaid : Prop := Claim7.holds Tryz.pinned (.plain (OpenSpec.upto topIsolatedSpec)) topIsolatedUptoCard
end Rows
end Go.Proofs.YtnfambhakdnncaaGreatDoor
