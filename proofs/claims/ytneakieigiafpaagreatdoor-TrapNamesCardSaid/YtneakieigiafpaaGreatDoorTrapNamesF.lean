/- TrapNames: the row's closed facts. -/
import Derived.Test.YtneakieigiafpaaGreatDoorCards
import Derived.JoinedOf
namespace Go.Proofs.YtneakieigiafpaaGreatDoor
open Go
set_option maxRecDepth 100000
theorem TrapNames.facts : joinedFacts Tryz.pinned.checked.prog 3 Tryz.f3 Rows.trapNamesSpec Rows.trapNamesRow = true := by kernel_rfl
theorem TrapNames.wf : Rows.trapNamesRow.wfByText (OpenSpec.ofChange Rows.trapNamesSpec) = true := by kernel_rfl
theorem TrapNames.goes : false = Rows.trapNamesRow.goesBy Tryz.pinned.checked.prog := by kernel_rfl
theorem TrapNames.named : Tryz.pinned.checked.prog.funcNamed Rows.trapNamesRow.func = some 3 := by kernel_rfl
end Go.Proofs.YtneakieigiafpaaGreatDoor
