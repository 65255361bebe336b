/-
  DERIVED. GIVEN WITH THE SEED: THE CARDS: each row of YtifnlmpnkjhlnaaDoorRows.lean that lists a variable, with what it lists TIED to the program's text (the seventh form; the later family's looks); each row that meets fmt, with fmt's text TOLD by the authors' own Lean function (tested against real Go, not proved from fmt's source: count such statements apart). THE CARD IS WHAT COUNTS. Prove the row's statement (the work); the ties are given (YtifnlmpnkjhlnaaDoorTie.lean); close each card by the builder's one call (the guide's Derived/Test/ToyasCard.lean, 'card_holds'). Laid BY PROGRAM, IN A SANDBOX (cutbox-door.mjs). By AI agents, Wed Nov 11 2026. No macro, syntax, notation, axiom, sorry.
-/
import Derived.Test.YtifnlmpnkjhlnaaDoorRows
import GoSem.ClaimSeven
namespace Go.Proofs.YtifnlmpnkjhlnaaDoor
namespace Rows

/-- THE TIED CARD OF 'kistlaw14.PathsParts'. -/
def pathsPartsCard : Claim7 := { stood := { row := pathsPartsRow, standIns := [], harness := (true, "5ed7bec5999b5557efe6878be34d58af79334f982ba9ea94e0d84fd7d7094e3b"), looks := false }, kinds := [], alts := [], laidByText := true, laidKinds := [.data, .pinned], laidTests := true, laidLooks := .later }
def PathsPartsCardSaid : Prop := Claim7.holds Tryd.pinned (.plain (OpenSpec.ofChange pathsPartsSpec)) pathsPartsCard

/-- THE TIED CARD OF 'kistlaw14.PathsCmps'. -/
def pathsCmpsCard : Claim7 := { stood := { row := pathsCmpsRow, standIns := [], harness := (true, "5ed7bec5999b5557efe6878be34d58af79334f982ba9ea94e0d84fd7d7094e3b"), looks := false }, kinds := [], alts := [], laidByText := true, laidKinds := [.data, .pinned], laidTests := true, laidLooks := .later }
def PathsCmpsCardSaid : Prop := Claim7.holds Tryd.pinned (.plain (OpenSpec.ofChange pathsCmpsSpec)) pathsCmpsCard

/-- THE TIED CARD OF 'kistlaw14.PathsOrder'. -/
def pathsOrderCard : Claim7 := { stood := { row := pathsOrderRow, standIns := [], harness := (true, "5ed7bec5999b5557efe6878be34d58af79334f982ba9ea94e0d84fd7d7094e3b"), looks := false }, kinds := [], alts := [], laidByText := true, laidKinds := [.data, .pinned], laidTests := true, laidLooks := .later }
def PathsOrderCardSaid : Prop := Claim7.holds Tryd.pinned (.plain (OpenSpec.ofChange pathsOrderSpec)) pathsOrderCard

/-- THE TIED CARD OF 'kistlaw14.PathsCleans'. -/
def pathsCleansCard : Claim7 := { stood := { row := pathsCleansRow, standIns := [], harness := (true, "5ed7bec5999b5557efe6878be34d58af79334f982ba9ea94e0d84fd7d7094e3b"), looks := false }, kinds := [], alts := [], laidByText := true, laidKinds := [.data, .pinned], laidTests := true, laidLooks := .later }
def PathsCleansCardSaid : Prop := Claim7.holds Tryd.pinned (.plain (OpenSpec.ofChange pathsCleansSpec)) pathsCleansCard

/-- THE TIED CARD OF 'kistlaw14.PathsTwice'. -/
def pathsTwiceCard : Claim7 := { stood := { row := pathsTwiceRow, standIns := [], harness := (true, "5ed7bec5999b5557efe6878be34d58af79334f982ba9ea94e0d84fd7d7094e3b"), looks := false }, kinds := [], alts := [], laidByText := true, laidKinds := [.data, .pinned], laidTests := true, laidLooks := .later }
def PathsTwiceCardSaid : Prop := Claim7.holds Tryd.pinned (.plain (OpenSpec.ofChange pathsTwiceSpec)) pathsTwiceCard

/-- THE TIED CARD OF 'kistlaw14.PathsSplits'. -/
def pathsSplitsCard : Claim7 := { stood := { row := pathsSplitsRow, standIns := [], harness := (true, "5ed7bec5999b5557efe6878be34d58af79334f982ba9ea94e0d84fd7d7094e3b"), looks := false }, kinds := [], alts := [], laidByText := true, laidKinds := [.data, .pinned], laidTests := true, laidLooks := .later }
def PathsSplitsCardSaid : Prop := Claim7.holds Tryd.pinned (.plain (OpenSpec.ofChange pathsSplitsSpec)) pathsSplitsCard

/-- THE SECOND FORM's CARD OF 'kistlaw14.PathsParts'. -/
def pathsPartsUptoCard : Claim7 := { stood := { row := pathsPartsUptoRow, standIns := [], harness := (true, "5ed7bec5999b5557efe6878be34d58af79334f982ba9ea94e0d84fd7d7094e3b"), looks := false }, kinds := [], alts := [], laidByText := true, laidKinds := [.data, .pinned], laidTests := true, laidLooks := .later }
def PathsPartsUptoCardSaid : Prop := Claim7.holds Tryd.pinned (.plain (OpenSpec.upto pathsPartsSpec)) pathsPartsUptoCard

/-- THE SECOND FORM's CARD OF 'kistlaw14.PathsCmps'. -/
def pathsCmpsUptoCard : Claim7 := { stood := { row := pathsCmpsUptoRow, standIns := [], harness := (true, "5ed7bec5999b5557efe6878be34d58af79334f982ba9ea94e0d84fd7d7094e3b"), looks := false }, kinds := [], alts := [], laidByText := true, laidKinds := [.data, .pinned], laidTests := true, laidLooks := .later }
def PathsCmpsUptoCardSaid : Prop := Claim7.holds Tryd.pinned (.plain (OpenSpec.upto pathsCmpsSpec)) pathsCmpsUptoCard

/-- THE SECOND FORM's CARD OF 'kistlaw14.PathsOrder'. -/
def pathsOrderUptoCard : Claim7 := { stood := { row := pathsOrderUptoRow, standIns := [], harness := (true, "5ed7bec5999b5557efe6878be34d58af79334f982ba9ea94e0d84fd7d7094e3b"), looks := false }, kinds := [], alts := [], laidByText := true, laidKinds := [.data, .pinned], laidTests := true, laidLooks := .later }
def PathsOrderUptoCardSaid : Prop := Claim7.holds Tryd.pinned (.plain (OpenSpec.upto pathsOrderSpec)) pathsOrderUptoCard

/-- THE SECOND FORM's CARD OF 'kistlaw14.PathsCleans'. -/
def pathsCleansUptoCard : Claim7 := { stood := { row := pathsCleansUptoRow, standIns := [], harness := (true, "5ed7bec5999b5557efe6878be34d58af79334f982ba9ea94e0d84fd7d7094e3b"), looks := false }, kinds := [], alts := [], laidByText := true, laidKinds := [.data, .pinned], laidTests := true, laidLooks := .later }
def PathsCleansUptoCardSaid : Prop := Claim7.holds Tryd.pinned (.plain (OpenSpec.upto pathsCleansSpec)) pathsCleansUptoCard

/-- THE SECOND FORM's CARD OF 'kistlaw14.PathsTwice'. -/
def pathsTwiceUptoCard : Claim7 := { stood := { row := pathsTwiceUptoRow, standIns := [], harness := (true, "5ed7bec5999b5557efe6878be34d58af79334f982ba9ea94e0d84fd7d7094e3b"), looks := false }, kinds := [], alts := [], laidByText := true, laidKinds := [.data, .pinned], laidTests := true, laidLooks := .later }
def PathsTwiceUptoCardSaid : Prop := Claim7.holds Tryd.pinned (.plain (OpenSpec.upto pathsTwiceSpec)) pathsTwiceUptoCard

/-- THE SECOND FORM's CARD OF 'kistlaw14.PathsSplits'. -/
def pathsSplitsUptoCard : Claim7 := { stood := { row := pathsSplitsUptoRow, standIns := [], harness := (true, "5ed7bec5999b5557efe6878be34d58af79334f982ba9ea94e0d84fd7d7094e3b"), looks := false }, kinds := [], alts := [], laidByText := true, laidKinds := [.data, .pinned], laidTests := true, laidLooks := .later }
def PathsSplitsUptoCardSaid : Prop := Claim7.holds Tryd.pinned (.plain (OpenSpec.upto pathsSplitsSpec)) pathsSplitsUptoCard
end Rows
end Go.Proofs.YtifnlmpnkjhlnaaDoor
