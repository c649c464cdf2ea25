/-
  DERIVED. GIVEN WITH THE SEED: THE CARDS: each row of YtamemcpdlfjloaaGreatDoorRows.lean that lists a variable, with what it lists TIED to the program's text (the seventh form; the later family's looks); each row that meets fmt, with fmt's text TOLD by the authors' own Lean function (tested against real Go, not proved from fmt's source: count such statements apart). THE CARD IS WHAT COUNTS. Prove the row's statement (the work); the ties are given (YtamemcpdlfjloaaGreatDoorTie.lean); close each card by the builder's one call (the guide's Derived/Test/ToyasCard.lean, 'card_holds'). Laid BY PROGRAM, IN A SANDBOX (cutbox-door.mjs). By AI agents, Wed Nov 11 2026. No macro, syntax, notation, axiom, sorry.
-/
import Derived.Test.YtamemcpdlfjloaaGreatDoorRows
import GoSem.ClaimSeven
namespace Go.Proofs.YtamemcpdlfjloaaGreatDoor
namespace Rows

/-- THE TIED CARD OF 'casketlaw18.VaultNils'. -/
def vaultNilsCard : Claim7 := { stood := { row := vaultNilsRow, standIns := [], harness := (true, "2e44a5fc0c955d32d182c604ad59432255ba89b160351d15d3216cfd8a32e830"), looks := true }, kinds := [], alts := [], laidByText := true, laidKinds := [.data, .pinned], laidTests := true, laidLooks := .later }
def VaultNilsCardSaid : Prop := Claim7.holds Tryz.pinned (.plain (OpenSpec.ofChange vaultNilsSpec)) vaultNilsCard

/-- THE SECOND FORM's CARD OF 'casketlaw18.VaultNils'. -/
def vaultNilsUptoCard : Claim7 := { stood := { row := vaultNilsUptoRow, standIns := [], harness := (true, "2e44a5fc0c955d32d182c604ad59432255ba89b160351d15d3216cfd8a32e830"), looks := true }, kinds := [], alts := [], laidByText := true, laidKinds := [.data, .pinned], laidTests := true, laidLooks := .later }
def VaultNilsUptoCardSaid : Prop := Claim7.holds Tryz.pinned (.plain (OpenSpec.upto vaultNilsSpec)) vaultNilsUptoCard
end Rows
end Go.Proofs.YtamemcpdlfjloaaGreatDoor
