/-
  DERIVED. GIVEN WITH THE SEED: THE CARDS: each row of YtfdnledkcongaaaGreatDoorRows.lean that lists a variable, with what it lists TIED to the program's text (the seventh form; the later family's looks); each row that meets fmt, with fmt's text TOLD by the authors' own Lean function (tested against real Go, not proved from fmt's source: count such statements apart). THE CARD IS WHAT COUNTS. Prove the row's statement (the work); the ties are given (YtfdnledkcongaaaGreatDoorTie.lean); close each card by the builder's one call (the guide's Derived/Test/ToyasCard.lean, 'card_holds'). Laid BY PROGRAM, IN A SANDBOX (cutbox-door.mjs). By AI agents, Wed Nov 11 2026. No macro, syntax, notation, axiom, sorry.
-/
import Derived.Test.YtfdnledkcongaaaGreatDoorRows
import GoSem.ClaimSeven
namespace Go.Proofs.YtfdnledkcongaaaGreatDoor
namespace Rows

/-- THE TIED CARD OF 'filigreelaw27.RefineOrder'. -/
def refineOrderCard : Claim7 := { stood := { row := refineOrderRow, standIns := [], harness := (true, "4ff1c7917a8351a0b5162fb4b26b9713d8626eb8fe271bacfcfde71e42b338ab"), looks := false }, kinds := [], alts := [], laidByText := true, laidKinds := [.data], laidTests := true, laidLooks := .later }
def RefineOrderCardSaid : Prop := Claim7.holds Tryz.pinned (.plain (OpenSpec.ofChange refineOrderSpec)) refineOrderCard

/-- THE TIED CARD OF 'filigreelaw27.RefineReads'. -/
def refineReadsCard : Claim7 := { stood := { row := refineReadsRow, standIns := [], harness := (true, "4ff1c7917a8351a0b5162fb4b26b9713d8626eb8fe271bacfcfde71e42b338ab"), looks := false }, kinds := [], alts := [], laidByText := true, laidKinds := [.data], laidTests := true, laidLooks := .later }
def RefineReadsCardSaid : Prop := Claim7.holds Tryz.pinned (.plain (OpenSpec.ofChange refineReadsSpec)) refineReadsCard

/-- THE TIED CARD OF 'filigreelaw27.RefineDisc'. -/
def refineDiscCard : Claim7 := { stood := { row := refineDiscRow, standIns := [], harness := (true, "4ff1c7917a8351a0b5162fb4b26b9713d8626eb8fe271bacfcfde71e42b338ab"), looks := false }, kinds := [], alts := [], laidByText := true, laidKinds := [.data], laidTests := true, laidLooks := .later }
def RefineDiscCardSaid : Prop := Claim7.holds Tryz.pinned (.plain (OpenSpec.ofChange refineDiscSpec)) refineDiscCard

/-- THE SECOND FORM's CARD OF 'filigreelaw27.RefineOrder'. -/
def refineOrderUptoCard : Claim7 := { stood := { row := refineOrderUptoRow, standIns := [], harness := (true, "4ff1c7917a8351a0b5162fb4b26b9713d8626eb8fe271bacfcfde71e42b338ab"), looks := false }, kinds := [], alts := [], laidByText := true, laidKinds := [.data], laidTests := true, laidLooks := .later }
def RefineOrderUptoCardSaid : Prop := Claim7.holds Tryz.pinned (.plain (OpenSpec.upto refineOrderSpec)) refineOrderUptoCard

/-- THE SECOND FORM's CARD OF 'filigreelaw27.RefineReads'. -/
def refineReadsUptoCard : Claim7 := { stood := { row := refineReadsUptoRow, standIns := [], harness := (true, "4ff1c7917a8351a0b5162fb4b26b9713d8626eb8fe271bacfcfde71e42b338ab"), looks := false }, kinds := [], alts := [], laidByText := true, laidKinds := [.data], laidTests := true, laidLooks := .later }
def RefineReadsUptoCardSaid : Prop := Claim7.holds Tryz.pinned (.plain (OpenSpec.upto refineReadsSpec)) refineReadsUptoCard

/-- THE SECOND FORM's CARD OF 'filigreelaw27.RefineDisc'. -/
def refineDiscUptoCard : Claim7 := { stood := { row := refineDiscUptoRow, standIns := [], harness := (true, "4ff1c7917a8351a0b5162fb4b26b9713d8626eb8fe271bacfcfde71e42b338ab"), looks := false }, kinds := [], alts := [], laidByText := true, laidKinds := [.data], laidTests := true, laidLooks := .later }
def RefineDiscUptoCardSaid : Prop := Claim7.holds Tryz.pinned (.plain (OpenSpec.upto refineDiscSpec)) refineDiscUptoCard
end Rows
end Go.Proofs.YtfdnledkcongaaaGreatDoor
