/- TileNames: the row's closed facts. -/
import Derived.Test.YtneakieigiafpaaGreatDoorCards
import Derived.JoinedOf
namespace Go.Proofs.YtneakieigiafpaaGreatDoor
open Go
set_option maxRecDepth 100000
theorem TileNames.facts : joinedFacts Tryz.pinned.checked.prog 5 Tryz.f5 Rows.tileNamesSpec Rows.tileNamesRow = true := by kernel_rfl
theorem TileNames.wf : Rows.tileNamesRow.wfByText (OpenSpec.ofChange Rows.tileNamesSpec) = true := by kernel_rfl
theorem TileNames.goes : false = Rows.tileNamesRow.goesBy Tryz.pinned.checked.prog := by kernel_rfl
theorem TileNames.named : Tryz.pinned.checked.prog.funcNamed Rows.tileNamesRow.func = some 5 := by kernel_rfl
end Go.Proofs.YtneakieigiafpaaGreatDoor
