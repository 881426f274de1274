/- TileLong, run by the kernel: it answers true. -/
import Derived.Test.YtneakieigiafpaaGreatDoorLivT
namespace Go.Proofs.YtneakieigiafpaaGreatDoor
open Go.Ex
theorem tileLong_run : saysTrue (exRun Tryz.prog (oraM tT) 3000 10 [] laidH) = true := by decide +kernel
end Go.Proofs.YtneakieigiafpaaGreatDoor
