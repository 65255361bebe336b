/-
  DERIVED. GIVEN WITH THE SEED: THE CARDS: each row of YthgfdpcpbghkpaaGreatDoorRows.lean that lists a variable, with what it lists TIED to the program's text (the seventh form; the later family's looks); each row that meets fmt, with fmt's text TOLD by the authors' own Lean function (tested against real Go, not proved from fmt's source: count such statements apart). THE CARD IS WHAT COUNTS. Prove the row's statement (the work); the ties are given (YthgfdpcpbghkpaaGreatDoorTie.lean); close each card by the builder's one call (the guide's Derived/Test/ToyasCard.lean, 'card_holds'). Laid BY PROGRAM, IN A SANDBOX (cutbox-door.mjs). By AI agents, Wed Nov 11 2026. No macro, syntax, notation, axiom, sorry.
-/
import Derived.Test.YthgfdpcpbghkpaaGreatDoorRows
import GoSem.ClaimSeven
namespace Go.Proofs.YthgfdpcpbghkpaaGreatDoor
namespace Rows

/-- THE TIED CARD OF 'kistlaw23.CatalogEncodes'. -/
def catalogEncodesCard : Claim7 := { stood := { row := catalogEncodesRow, standIns := [], harness := (true, "f928a654410e654a988d841e4366fbb72d80f1b173ba2042ebf77b8a6b86d6ab"), looks := false }, kinds := [], alts := [], laidByText := true, laidKinds := [.data, .pinned], laidTests := true, laidLooks := .later }
def CatalogEncodesCardSaid : Prop := Claim7.holds Tryz.pinned (.plain (OpenSpec.ofChange catalogEncodesSpec)) catalogEncodesCard

/-- THE TIED CARD OF 'kistlaw23.CatalogDecodes'. -/
def catalogDecodesCard : Claim7 := { stood := { row := catalogDecodesRow, standIns := [], harness := (true, "f928a654410e654a988d841e4366fbb72d80f1b173ba2042ebf77b8a6b86d6ab"), looks := false }, kinds := [], alts := [], laidByText := true, laidKinds := [.data, .pinned], laidTests := true, laidLooks := .later }
def CatalogDecodesCardSaid : Prop := Claim7.holds Tryz.pinned (.plain (OpenSpec.ofChange catalogDecodesSpec)) catalogDecodesCard

/-- THE TIED CARD OF 'kistlaw23.CatalogPlays'. -/
def catalogPlaysCard : Claim7 := { stood := { row := catalogPlaysRow, standIns := [], harness := (true, "f928a654410e654a988d841e4366fbb72d80f1b173ba2042ebf77b8a6b86d6ab"), looks := false }, kinds := [], alts := [], laidByText := true, laidKinds := [.data, .pinned], laidTests := true, laidLooks := .later }
def CatalogPlaysCardSaid : Prop := Claim7.holds Tryz.pinned (.plain (OpenSpec.ofChange catalogPlaysSpec)) catalogPlaysCard

/-- THE SECOND FORM's CARD OF 'kistlaw23.CatalogEncodes'. -/
def catalogEncodesUptoCard : Claim7 := { stood := { row := catalogEncodesUptoRow, standIns := [], harness := (true, "f928a654410e654a988d841e4366fbb72d80f1b173ba2042ebf77b8a6b86d6ab"), looks := false }, kinds := [], alts := [], laidByText := true, laidKinds := [.data, .pinned], laidTests := true, laidLooks := .later }
def CatalogEncodesUptoCardSaid : Prop := Claim7.holds Tryz.pinned (.plain (OpenSpec.upto catalogEncodesSpec)) catalogEncodesUptoCard

/-- THE SECOND FORM's CARD OF 'kistlaw23.CatalogDecodes'. -/
def catalogDecodesUptoCard : Claim7 := { stood := { row := catalogDecodesUptoRow, standIns := [], harness := (true, "f928a654410e654a988d841e4366fbb72d80f1b173ba2042ebf77b8a6b86d6ab"), looks := false }, kinds := [], alts := [], laidByText := true, laidKinds := [.data, .pinned], laidTests := true, laidLooks := .later }
def CatalogDecodesUptoCardSaid : Prop := Claim7.holds Tryz.pinned (.plain (OpenSpec.upto catalogDecodesSpec)) catalogDecodesUptoCard

/-- THE SECOND FORM's CARD OF 'kistlaw23.CatalogPlays'. -/
def catalogPlaysUptoCard : Claim7 := { stood := { row := catalogPlaysUptoRow, standIns := [], harness := (true, "f928a654410e654a988d841e4366fbb72d80f1b173ba2042ebf77b8a6b86d6ab"), looks := false }, kinds := [], alts := [], laidByText := true, laidKinds := [.data, .pinned], laidTests := true, laidLooks := .later }
def CatalogPlaysUptoCardSaid : Prop := Claim7.holds Tryz.pinned (.plain (OpenSpec.upto catalogPlaysSpec)) catalogPlaysUptoCard
end Rows
end Go.Proofs.YthgfdpcpbghkpaaGreatDoor
