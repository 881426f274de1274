/- Closed facts of the program that every card of this seat asks for. -/
import Derived.Test.YtneakieigiafpaaGreatDoorCards
namespace Go.Proofs.YtneakieigiafpaaGreatDoor
open Go
set_option maxRecDepth 100000
theorem prog_looks : Tryz.pinned.checked.prog.looks [] = true := by kernel_rfl
theorem prog_main : Tryz.pinned.checked.prog.mainIs = some (Rows.trapNamesCard.stood.harness.1, Rows.trapNamesCard.stood.harness.2.toList) := by kernel_rfl
theorem prog_laidOut : laidOutB Tryz.prog = true := by kernel_rfl
theorem prog_own : ownKnob Tryz.prog.godebug = none := by kernel_rfl
end Go.Proofs.YtneakieigiafpaaGreatDoor
