/-
  DERIVED. GIVEN WITH THE SEED: THE CARDS: each row of YtkmlafmjaeeanaaGreatDoorRows.lean that lists a variable, with what it lists TIED to the program's text (the seventh form; the later family's looks); each row that meets fmt, with fmt's text TOLD by the authors' own Lean function (tested against real Go, not proved from fmt's source: count such statements apart). THE CARD IS WHAT COUNTS. Prove the row's statement (the work); the ties are given (YtkmlafmjaeeanaaGreatDoorTie.lean); close each card by the builder's one call (the guide's Derived/Test/ToyasCard.lean, 'card_holds'). Laid BY PROGRAM, IN A SANDBOX (cutbox-door.mjs). By AI agents, Wed Nov 11 2026. No macro, syntax, notation, axiom, sorry.
-/
import Derived.Test.YtkmlafmjaeeanaaGreatDoorRows
import GoSem.ClaimSeven
namespace Go.Proofs.YtkmlafmjaeeanaaGreatDoor
namespace Rows

/-- THE TIED CARD OF 'kisttop.TopSlots'. -/
def topSlotsCard : Claim7 := { stood := { row := topSlotsRow, standIns := [], harness := (true, "ca91c81a6013404cc3c46b2005765f4c9e46fe77e2a2ee16b80dafa251b47393"), looks := true }, kinds := [], alts := [], laidByText := true, laidKinds := [.data, .data, .data, .data, .pinned], laidTests := true, laidLooks := .later }
def TopSlotsCardSaid : Prop := Claim7.holds Tryz.pinned (.plain (OpenSpec.ofChange topSlotsSpec)) topSlotsCard

/-- THE TIED CARD OF 'kisttop.TopCrash'. -/
def topCrashCard : Claim7 := { stood := { row := topCrashRow, standIns := [], harness := (true, "ca91c81a6013404cc3c46b2005765f4c9e46fe77e2a2ee16b80dafa251b47393"), looks := true }, kinds := [], alts := [], laidByText := true, laidKinds := [.data, .data, .data, .data, .pinned], laidTests := true, laidLooks := .later }
def TopCrashCardSaid : Prop := Claim7.holds Tryz.pinned (.plain (OpenSpec.ofChange topCrashSpec)) topCrashCard

/-- THE TIED CARD OF 'kisttop.TopSalvage'. -/
def topSalvageCard : Claim7 := { stood := { row := topSalvageRow, standIns := [], harness := (true, "ca91c81a6013404cc3c46b2005765f4c9e46fe77e2a2ee16b80dafa251b47393"), looks := true }, kinds := [], alts := [], laidByText := true, laidKinds := [.data, .data, .data, .data, .pinned], laidTests := true, laidLooks := .later }
def TopSalvageCardSaid : Prop := Claim7.holds Tryz.pinned (.plain (OpenSpec.ofChange topSalvageSpec)) topSalvageCard

/-- THE SECOND FORM's CARD OF 'kisttop.TopSlots'. -/
def topSlotsUptoCard : Claim7 := { stood := { row := topSlotsUptoRow, standIns := [], harness := (true, "ca91c81a6013404cc3c46b2005765f4c9e46fe77e2a2ee16b80dafa251b47393"), looks := true }, kinds := [], alts := [], laidByText := true, laidKinds := [.data, .data, .data, .data, .pinned], laidTests := true, laidLooks := .later }
def TopSlotsUptoCardSaid : Prop := Claim7.holds Tryz.pinned (.plain (OpenSpec.upto topSlotsSpec)) topSlotsUptoCard

/-- THE SECOND FORM's CARD OF 'kisttop.TopCrash'. -/
def topCrashUptoCard : Claim7 := { stood := { row := topCrashUptoRow, standIns := [], harness := (true, "ca91c81a6013404cc3c46b2005765f4c9e46fe77e2a2ee16b80dafa251b47393"), looks := true }, kinds := [], alts := [], laidByText := true, laidKinds := [.data, .data, .data, .data, .pinned], laidTests := true, laidLooks := .later }
def TopCrashUptoCardSaid : Prop := Claim7.holds Tryz.pinned (.plain (OpenSpec.upto topCrashSpec)) topCrashUptoCard

/-- THE SECOND FORM's CARD OF 'kisttop.TopSalvage'. -/
def topSalvageUptoCard : Claim7 := { stood := { row := topSalvageUptoRow, standIns := [], harness := (true, "ca91c81a6013404cc3c46b2005765f4c9e46fe77e2a2ee16b80dafa251b47393"), looks := true }, kinds := [], alts := [], laidByText := true, laidKinds := [.data, .data, .data, .data, .pinned], laidTests := true, laidLooks := .later }
def TopSalvageUptoCardSaid : Prop := Claim7.holds Tryz.pinned (.plain (OpenSpec.upto topSalvageSpec)) topSalvageUptoCard
end Rows
end Go.Proofs.YtkmlafmjaeeanaaGreatDoor
