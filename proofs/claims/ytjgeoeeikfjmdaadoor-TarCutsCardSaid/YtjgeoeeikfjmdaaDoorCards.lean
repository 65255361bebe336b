/-
  DERIVED. GIVEN WITH THE SEED: THE CARDS: each row of YtjgeoeeikfjmdaaDoorRows.lean that lists a variable, with what it lists TIED to the program's text (the seventh form; the later family's looks); each row that meets fmt, with fmt's text TOLD by the authors' own Lean function (tested against real Go, not proved from fmt's source: count such statements apart). THE CARD IS WHAT COUNTS. Prove the row's statement (the work); the ties are given (YtjgeoeeikfjmdaaDoorTie.lean); close each card by the builder's one call (the guide's Derived/Test/ToyasCard.lean, 'card_holds'). Laid BY PROGRAM, IN A SANDBOX (cutbox-door.mjs). By AI agents, Wed Nov 11 2026. No macro, syntax, notation, axiom, sorry.
-/
import Derived.Test.YtjgeoeeikfjmdaaDoorRows
import GoSem.ClaimSeven
namespace Go.Proofs.YtjgeoeeikfjmdaaDoor
namespace Rows

/-- THE TIED CARD OF 'kistlaw18.TarReads'. -/
def tarReadsCard : Claim7 := { stood := { row := tarReadsRow, standIns := [], harness := (true, "2f074b50271e2b7ae32ed2be8cf214c5f199920abe992a24c0b7a3f1bec4acc0"), looks := false }, kinds := [], alts := [], laidByText := true, laidKinds := [.data, .data, .data], laidTests := true, laidLooks := .later }
def TarReadsCardSaid : Prop := Claim7.holds Tryd.pinned (.plain (OpenSpec.ofChange tarReadsSpec)) tarReadsCard

/-- THE TIED CARD OF 'kistlaw18.TarBack'. -/
def tarBackCard : Claim7 := { stood := { row := tarBackRow, standIns := [], harness := (true, "2f074b50271e2b7ae32ed2be8cf214c5f199920abe992a24c0b7a3f1bec4acc0"), looks := false }, kinds := [], alts := [], laidByText := true, laidKinds := [.data, .data, .data], laidTests := true, laidLooks := .later }
def TarBackCardSaid : Prop := Claim7.holds Tryd.pinned (.plain (OpenSpec.ofChange tarBackSpec)) tarBackCard

/-- THE TIED CARD OF 'kistlaw18.TarCuts'. -/
def tarCutsCard : Claim7 := { stood := { row := tarCutsRow, standIns := [], harness := (true, "2f074b50271e2b7ae32ed2be8cf214c5f199920abe992a24c0b7a3f1bec4acc0"), looks := false }, kinds := [], alts := [], laidByText := true, laidKinds := [.data, .data, .data], laidTests := true, laidLooks := .later }
def TarCutsCardSaid : Prop := Claim7.holds Tryd.pinned (.plain (OpenSpec.ofChange tarCutsSpec)) tarCutsCard

/-- THE SECOND FORM's CARD OF 'kistlaw18.TarReads'. -/
def tarReadsUptoCard : Claim7 := { stood := { row := tarReadsUptoRow, standIns := [], harness := (true, "2f074b50271e2b7ae32ed2be8cf214c5f199920abe992a24c0b7a3f1bec4acc0"), looks := false }, kinds := [], alts := [], laidByText := true, laidKinds := [.data, .data, .data], laidTests := true, laidLooks := .later }
def TarReadsUptoCardSaid : Prop := Claim7.holds Tryd.pinned (.plain (OpenSpec.upto tarReadsSpec)) tarReadsUptoCard

/-- THE SECOND FORM's CARD OF 'kistlaw18.TarBack'. -/
def tarBackUptoCard : Claim7 := { stood := { row := tarBackUptoRow, standIns := [], harness := (true, "2f074b50271e2b7ae32ed2be8cf214c5f199920abe992a24c0b7a3f1bec4acc0"), looks := false }, kinds := [], alts := [], laidByText := true, laidKinds := [.data, .data, .data], laidTests := true, laidLooks := .later }
def TarBackUptoCardSaid : Prop := Claim7.holds Tryd.pinned (.plain (OpenSpec.upto tarBackSpec)) tarBackUptoCard

/-- THE SECOND FORM's CARD OF 'kistlaw18.TarCuts'. -/
def tarCutsUptoCard : Claim7 := { stood := { row := tarCutsUptoRow, standIns := [], harness := (true, "2f074b50271e2b7ae32ed2be8cf214c5f199920abe992a24c0b7a3f1bec4acc0"), looks := false }, kinds := [], alts := [], laidByText := true, laidKinds := [.data, .data, .data], laidTests := true, laidLooks := .later }
def TarCutsUptoCardSaid : Prop := Claim7.holds Tryd.pinned (.plain (OpenSpec.upto tarCutsSpec)) tarCutsUptoCard
end Rows
end Go.Proofs.YtjgeoeeikfjmdaaDoor
