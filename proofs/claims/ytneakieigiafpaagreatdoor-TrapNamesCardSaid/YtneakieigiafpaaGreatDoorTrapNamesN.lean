/- TrapNames, run by the kernel: it answers true. -/
import Derived.Test.YtneakieigiafpaaGreatDoorLay
namespace Go.Proofs.YtneakieigiafpaaGreatDoor
open Go.Ex
theorem trapNames_run : saysTrue (exRun Tryz.prog oraF 300 3 [] H64) = true := by decide +kernel
end Go.Proofs.YtneakieigiafpaaGreatDoor
