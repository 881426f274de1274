/- StoreNames, run by the kernel: it answers true. -/
import Derived.Test.YtneakieigiafpaaGreatDoorItS
namespace Go.Proofs.YtneakieigiafpaaGreatDoor
open Go.Ex
theorem storeNames_run : saysTrue (exRunI Tryz.prog (oraM tS) itsR 3000 6 [] laidH) = true := by decide +kernel
end Go.Proofs.YtneakieigiafpaaGreatDoor
