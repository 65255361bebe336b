/-
  DERIVED. GIVEN WITH THE SEED: THE CARDS: each row of YtlpnoogcdnfllaaGreatDoorRows.lean that lists a variable, with what it lists TIED to the program's text (the seventh form; the later family's looks); each row that meets fmt, with fmt's text TOLD by the authors' own Lean function (tested against real Go, not proved from fmt's source: count such statements apart). THE CARD IS WHAT COUNTS. Prove the row's statement (the work); the ties are given (YtlpnoogcdnfllaaGreatDoorTie.lean); close each card by the builder's one call (the guide's Derived/Test/ToyasCard.lean, 'card_holds'). Laid BY PROGRAM, IN A SANDBOX (cutbox-door.mjs). By AI agents, Wed Nov 11 2026. No macro, syntax, notation, axiom, sorry.
-/
import Derived.Test.YtlpnoogcdnfllaaGreatDoorRows
import GoSem.ClaimSeven
namespace Go.Proofs.YtlpnoogcdnfllaaGreatDoor
namespace Rows

/-- THE TIED CARD OF 'kistlaw21.WalApplies'. -/
def walAppliesCard : Claim7 := { stood := { row := walAppliesRow, standIns := [], harness := (true, "0c1b709ca727bd7a617f12371bd489cb4be160f6367d782142b7aa1e5df0edc7"), looks := false }, kinds := [], alts := [], laidByText := true, laidKinds := [.data, .pinned], laidTests := true, laidLooks := .later }
def WalAppliesCardSaid : Prop := Claim7.holds Tryz.pinned (.plain (OpenSpec.ofChange walAppliesSpec)) walAppliesCard

/-- THE SECOND FORM's CARD OF 'kistlaw21.WalApplies'. -/
def walAppliesUptoCard : Claim7 := { stood := { row := walAppliesUptoRow, standIns := [], harness := (true, "0c1b709ca727bd7a617f12371bd489cb4be160f6367d782142b7aa1e5df0edc7"), looks := false }, kinds := [], alts := [], laidByText := true, laidKinds := [.data, .pinned], laidTests := true, laidLooks := .later }
def WalAppliesUptoCardSaid : Prop := Claim7.holds Tryz.pinned (.plain (OpenSpec.upto walAppliesSpec)) walAppliesUptoCard
end Rows
end Go.Proofs.YtlpnoogcdnfllaaGreatDoor
