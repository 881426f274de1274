/- view.Cover of some squares: roots, the calls themselves. -/
import Derived.Test.YtneakieigiafpaaGreatDoorRefTA0
import Derived.Test.YtneakieigiafpaaGreatDoorRefTA1
import Derived.Test.YtneakieigiafpaaGreatDoorRefTA2
import Derived.Test.YtneakieigiafpaaGreatDoorRefTA3
import Derived.Test.YtneakieigiafpaaGreatDoorRefTA4
import Derived.Test.YtneakieigiafpaaGreatDoorRefTA5
import Derived.Test.YtneakieigiafpaaGreatDoorRefTA6
import Derived.Test.YtneakieigiafpaaGreatDoorRefTA7
namespace Go.Proofs.YtneakieigiafpaaGreatDoor
open Go.Ex
set_option maxRecDepth 100000
def refTA : List En := refTA0 ++ (refTA1 ++ (refTA2 ++ (refTA3 ++ (refTA4 ++ (refTA5 ++ (refTA6 ++ (refTA7)))))))
theorem refTA_ok : ∀ e ∈ refTA, EnOK e := all_app refTA0_ok <| all_app refTA1_ok <| all_app refTA2_ok <| all_app refTA3_ok <| all_app refTA4_ok <| all_app refTA5_ok <| all_app refTA6_ok <| refTA7_ok
def refTRoot0 : En := ⟨132, [.agg #[.bool false, .string ⟨#[1]⟩, .int .i64 (.ofNat 1)]], [.float .f64 4609047870845172685, .bool true]⟩
theorem refTRoot0_r : runsTo refTA refTRoot0 = true := by decide +kernel
def refTRoot1 : En := ⟨132, [.agg #[.bool false, .string ⟨#[1]⟩, .int .i64 (.negSucc 0)]], [.float .f64 4604544271217802189, .bool true]⟩
theorem refTRoot1_r : runsTo refTA refTRoot1 = true := by decide +kernel
def refTR : List En := refTRoot0 :: refTRoot1 :: refTA
theorem refTR_ok : ∀ e ∈ refTR, EnOK e := all_cons (runsTo_ok refTA_ok refTRoot0_r) <| all_cons (runsTo_ok refTA_ok refTRoot1_r) <| refTA_ok
def refTCov0 : En := ⟨66, [.agg #[.bool false, .string ⟨#[]⟩, .int .i64 (.ofNat 0), .bool false, .string ⟨#[]⟩, .int .i64 (.ofNat 0), .int .i64 (.ofNat 1)]], [.agg #[.complex .f64 4607182418800017408 4607182418800017408, .float .f64 4609047870845172685], .int .i64 (.ofNat 0)]⟩
theorem refTCov0_r : runsTo refTR refTCov0 = true := by decide +kernel
def refTCov1 : En := ⟨66, [.agg #[.bool false, .string ⟨#[]⟩, .int .i64 (.ofNat 0), .bool false, .string ⟨#[]⟩, .int .i64 (.ofNat 0), .int .i64 (.ofNat 0)]], [.agg #[.complex .f64 4602678819172646912 4602678819172646912, .float .f64 4604544271217802189], .int .i64 (.ofNat 0)]⟩
theorem refTCov1_r : runsTo refTR refTCov1 = true := by decide +kernel
def refTCov2 : En := ⟨66, [.agg #[.bool false, .string ⟨#[1]⟩, .int .i64 (.ofNat 0), .bool false, .string ⟨#[]⟩, .int .i64 (.ofNat 0), .int .i64 (.ofNat 0)]], [.agg #[.complex .f64 4609434218613702656 4602678819172646912, .float .f64 4604544271217802189], .int .i64 (.ofNat 0)]⟩
theorem refTCov2_r : runsTo refTR refTCov2 = true := by decide +kernel
def refTCov3 : En := ⟨66, [.agg #[.bool false, .string ⟨#[]⟩, .int .i64 (.ofNat 0), .bool false, .string ⟨#[1]⟩, .int .i64 (.ofNat 0), .int .i64 (.ofNat 0)]], [.agg #[.complex .f64 4602678819172646912 4609434218613702656, .float .f64 4604544271217802189], .int .i64 (.ofNat 0)]⟩
theorem refTCov3_r : runsTo refTR refTCov3 = true := by decide +kernel
def refTCov4 : En := ⟨66, [.agg #[.bool false, .string ⟨#[1]⟩, .int .i64 (.ofNat 0), .bool false, .string ⟨#[1]⟩, .int .i64 (.ofNat 0), .int .i64 (.ofNat 0)]], [.agg #[.complex .f64 4609434218613702656 4609434218613702656, .float .f64 4604544271217802189], .int .i64 (.ofNat 0)]⟩
theorem refTCov4_r : runsTo refTR refTCov4 = true := by decide +kernel
def refTT : List En := [refTCov0, refTCov1, refTCov2, refTCov3, refTCov4]
theorem refTT_ok : ∀ e ∈ refTT, EnOK e := all_cons (runsTo_ok refTR_ok refTCov0_r) <| all_cons (runsTo_ok refTR_ok refTCov1_r) <| all_cons (runsTo_ok refTR_ok refTCov2_r) <| all_cons (runsTo_ok refTR_ok refTCov3_r) <| all_cons (runsTo_ok refTR_ok refTCov4_r) <| all_nil
end Go.Proofs.YtneakieigiafpaaGreatDoor
