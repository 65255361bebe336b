/-
  DERIVED. GIVEN WITH THE SEED: THE CARDS: each row of YthgfdpcpbghkpaaDoorRows.lean that lists a variable, with what it lists TIED to the program's text (the seventh form; the later family's looks); each row that meets fmt, with fmt's text TOLD by the authors' own Lean function (tested against real Go, not proved from fmt's source: count such statements apart). THE CARD IS WHAT COUNTS. Prove the row's statement (the work); the ties are given (YthgfdpcpbghkpaaDoorTie.lean); close each card by the builder's one call (the guide's Derived/Test/ToyasCard.lean, 'card_holds'). Laid BY PROGRAM, IN A SANDBOX (cutbox-door.mjs). By AI agents, Wed Nov 11 2026. No macro, syntax, notation, axiom, sorry.
-/
import Derived.Test.YthgfdpcpbghkpaaDoorRows
import GoSem.ClaimSeven
namespace Go.Proofs.YthgfdpcpbghkpaaDoor
namespace Rows

/-- THE TIED CARD OF 'kistlaw23.CatalogBack'. -/
def catalogBackCard : Claim7 := { stood := { row := catalogBackRow, standIns := [], harness := (true, "c569f47d4d75a0c3de1dd21a51bfacefbbe28e4bf9696597bf860df6684f3a1a"), looks := false }, kinds := [], alts := [], laidByText := true, laidKinds := [.data, .pinned], laidTests := true, laidLooks := .later }
def CatalogBackCardSaid : Prop := Claim7.holds Tryd.pinned (.plain (OpenSpec.ofChange catalogBackSpec)) catalogBackCard

/-- THE TIED CARD OF 'kistlaw23.CatalogTorn'. -/
def catalogTornCard : Claim7 := { stood := { row := catalogTornRow, standIns := [], harness := (true, "c569f47d4d75a0c3de1dd21a51bfacefbbe28e4bf9696597bf860df6684f3a1a"), looks := false }, kinds := [], alts := [], laidByText := true, laidKinds := [.data, .pinned], laidTests := true, laidLooks := .later }
def CatalogTornCardSaid : Prop := Claim7.holds Tryd.pinned (.plain (OpenSpec.ofChange catalogTornSpec)) catalogTornCard

/-- THE SECOND FORM's CARD OF 'kistlaw23.CatalogBack'. -/
def catalogBackUptoCard : Claim7 := { stood := { row := catalogBackUptoRow, standIns := [], harness := (true, "c569f47d4d75a0c3de1dd21a51bfacefbbe28e4bf9696597bf860df6684f3a1a"), looks := false }, kinds := [], alts := [], laidByText := true, laidKinds := [.data, .pinned], laidTests := true, laidLooks := .later }
def CatalogBackUptoCardSaid : Prop := Claim7.holds Tryd.pinned (.plain (OpenSpec.upto catalogBackSpec)) catalogBackUptoCard

/-- THE SECOND FORM's CARD OF 'kistlaw23.CatalogTorn'. -/
def catalogTornUptoCard : Claim7 := { stood := { row := catalogTornUptoRow, standIns := [], harness := (true, "c569f47d4d75a0c3de1dd21a51bfacefbbe28e4bf9696597bf860df6684f3a1a"), looks := false }, kinds := [], alts := [], laidByText := true, laidKinds := [.data, .pinned], laidTests := true, laidLooks := .later }
def CatalogTornUptoCardSaid : Prop := Claim7.holds Tryd.pinned (.plain (OpenSpec.upto catalogTornSpec)) catalogTornUptoCard
end Rows
end Go.Proofs.YthgfdpcpbghkpaaDoor
