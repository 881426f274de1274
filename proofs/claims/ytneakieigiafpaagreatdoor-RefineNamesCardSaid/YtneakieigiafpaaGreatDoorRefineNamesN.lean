/- RefineNames, run by the kernel: it answers true. -/
import Derived.Test.YtneakieigiafpaaGreatDoorItP
namespace Go.Proofs.YtneakieigiafpaaGreatDoor
open Go.Ex
theorem refineNames_run : saysTrue (exRunI Tryz.prog (oraM refTT) itsO 3000 4 [] H32) = true := by decide +kernel
end Go.Proofs.YtneakieigiafpaaGreatDoor
