/- view.Cover of a square: its root, itself. -/
import Derived.Test.YtneakieigiafpaaGreatDoorCovTA0
import Derived.Test.YtneakieigiafpaaGreatDoorCovTA1
import Derived.Test.YtneakieigiafpaaGreatDoorCovTA2
import Derived.Test.YtneakieigiafpaaGreatDoorCovTA3
namespace Go.Proofs.YtneakieigiafpaaGreatDoor
open Go.Ex
set_option maxRecDepth 100000
def covTA : List En := covTA0 ++ (covTA1 ++ (covTA2 ++ (covTA3)))
theorem covTA_ok : ∀ e ∈ covTA, EnOK e := all_app covTA0_ok <| all_app covTA1_ok <| all_app covTA2_ok <| covTA3_ok
def covTRoot : En := ⟨132, [.agg #[.bool false, .string ⟨#[1]⟩, .int .i64 (.ofNat 7)]], [.float .f64 4622558669727284173, .bool true]⟩
theorem covTRoot_r : runsTo covTA covTRoot = true := by decide +kernel
theorem covTB_ok : ∀ e ∈ covTRoot :: covTA, EnOK e := all_cons (runsTo_ok covTA_ok covTRoot_r) covTA_ok
def covTCover : En := ⟨66, [.agg #[.bool true, .string ⟨#[1]⟩, .int .i64 (.ofNat 5), .bool false, .string ⟨#[1]⟩, .int .i64 (.ofNat 4), .int .i64 (.ofNat 4)]], [.agg #[.complex .f64 13850820653977960448 4627448617123184640, .float .f64 4622558669727284173], .int .i64 (.ofNat 0)]⟩
theorem covTCover_r : runsTo (covTRoot :: covTA) covTCover = true := by decide +kernel
theorem covTCover_ok : EnOK covTCover := runsTo_ok covTB_ok covTCover_r
end Go.Proofs.YtneakieigiafpaaGreatDoor
