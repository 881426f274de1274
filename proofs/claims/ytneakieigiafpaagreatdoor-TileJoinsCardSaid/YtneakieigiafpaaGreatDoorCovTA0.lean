/- Calls behind view.Cover of a square (part 1): each is run by the kernel. -/
import Derived.Test.YtneakieigiafpaaGreatDoorLayR
namespace Go.Proofs.YtneakieigiafpaaGreatDoor
open Go.Ex
set_option maxRecDepth 100000
def covTA0_e0 : En := ⟨125, [.agg #[.bool true, .string ⟨#[1]⟩, .int .i64 (.ofNat 5), .bool false, .string ⟨#[1]⟩, .int .i64 (.ofNat 4), .int .i64 (.ofNat 4)]], [.agg #[.bool true, .string ⟨#[1]⟩, .int .i64 (.ofNat 5), .bool false, .string ⟨#[1]⟩, .int .i64 (.ofNat 4), .bool true, .string ⟨#[1]⟩, .int .i64 (.ofNat 4), .bool false, .string ⟨#[1]⟩, .int .i64 (.ofNat 4), .bool true, .string ⟨#[1]⟩, .int .i64 (.ofNat 5), .bool false, .string ⟨#[1]⟩, .int .i64 (.ofNat 5), .bool true, .string ⟨#[1]⟩, .int .i64 (.ofNat 4), .bool false, .string ⟨#[1]⟩, .int .i64 (.ofNat 5)], .int .i64 (.ofNat 0)]⟩
theorem covTA0_r0 : runsTo [] covTA0_e0 = true := by decide +kernel
def covTA0_e1 : En := ⟨126, [.agg #[.bool true, .string ⟨#[1]⟩, .int .i64 (.ofNat 5), .bool false, .string ⟨#[1]⟩, .int .i64 (.ofNat 4), .int .i64 (.ofNat 4)]], [.agg #[.bool true, .string ⟨#[3]⟩, .int .i64 (.ofNat 3), .bool false, .string ⟨#[3]⟩, .int .i64 (.ofNat 3)], .int .i64 (.ofNat 0)]⟩
theorem covTA0_r1 : runsTo [] covTA0_e1 = true := by decide +kernel
def covTA0_e2 : En := ⟨127, [.agg #[.bool true, .string ⟨#[3]⟩, .int .i64 (.ofNat 3), .bool false, .string ⟨#[3]⟩, .int .i64 (.ofNat 3)]], [.complex .f64 13850820653977960448 4627448617123184640, .int .i64 (.ofNat 0)]⟩
theorem covTA0_r2 : runsTo [] covTA0_e2 = true := by decide +kernel
def covTA0_e3 : En := ⟨128, [.complex .f64 13850820653977960448 4627448617123184640], [.agg #[.bool true, .string ⟨#[3]⟩, .int .i64 (.ofNat 3), .bool false, .string ⟨#[3]⟩, .int .i64 (.ofNat 3)], .int .i64 (.ofNat 0)]⟩
theorem covTA0_r3 : runsTo [] covTA0_e3 = true := by decide +kernel
def covTA0_e4 : En := ⟨129, [.agg #[.bool true, .string ⟨#[1]⟩, .int .i64 (.ofNat 5), .bool false, .string ⟨#[1]⟩, .int .i64 (.ofNat 4)], .agg #[.bool true, .string ⟨#[3]⟩, .int .i64 (.ofNat 3), .bool false, .string ⟨#[3]⟩, .int .i64 (.ofNat 3)]], [.agg #[.bool true, .string ⟨#[1]⟩, .int .i64 (.ofNat 3), .bool true, .string ⟨#[1]⟩, .int .i64 (.ofNat 3)], .int .i64 (.ofNat 0)]⟩
theorem covTA0_r4 : runsTo [] covTA0_e4 = true := by decide +kernel
def covTA0_e5 : En := ⟨130, [.agg #[.bool true, .string ⟨#[1]⟩, .int .i64 (.ofNat 3), .bool true, .string ⟨#[1]⟩, .int .i64 (.ofNat 3)]], [.agg #[.bool false, .string ⟨#[1]⟩, .int .i64 (.ofNat 7)], .int .i64 (.ofNat 0)]⟩
theorem covTA0_r5 : runsTo [] covTA0_e5 = true := by decide +kernel
def covTA0_e6 : En := ⟨131, [.agg #[.bool false, .string ⟨#[1]⟩, .int .i64 (.ofNat 7)], .agg #[.bool false, .string ⟨#[]⟩, .int .i64 (.ofNat 0)]], [.int .i64 (.ofNat 1), .int .i64 (.ofNat 0)]⟩
theorem covTA0_r6 : runsTo [] covTA0_e6 = true := by decide +kernel
def covTA0_e7 : En := ⟨129, [.agg #[.bool true, .string ⟨#[1]⟩, .int .i64 (.ofNat 4), .bool false, .string ⟨#[1]⟩, .int .i64 (.ofNat 4)], .agg #[.bool true, .string ⟨#[3]⟩, .int .i64 (.ofNat 3), .bool false, .string ⟨#[3]⟩, .int .i64 (.ofNat 3)]], [.agg #[.bool false, .string ⟨#[1]⟩, .int .i64 (.ofNat 3), .bool true, .string ⟨#[1]⟩, .int .i64 (.ofNat 3)], .int .i64 (.ofNat 0)]⟩
theorem covTA0_r7 : runsTo [] covTA0_e7 = true := by decide +kernel
def covTA0_e8 : En := ⟨130, [.agg #[.bool false, .string ⟨#[1]⟩, .int .i64 (.ofNat 3), .bool true, .string ⟨#[1]⟩, .int .i64 (.ofNat 3)]], [.agg #[.bool false, .string ⟨#[1]⟩, .int .i64 (.ofNat 7)], .int .i64 (.ofNat 0)]⟩
theorem covTA0_r8 : runsTo [] covTA0_e8 = true := by decide +kernel
def covTA0_e9 : En := ⟨131, [.agg #[.bool false, .string ⟨#[1]⟩, .int .i64 (.ofNat 7)], .agg #[.bool false, .string ⟨#[1]⟩, .int .i64 (.ofNat 7)]], [.int .i64 (.ofNat 0), .int .i64 (.ofNat 0)]⟩
theorem covTA0_r9 : runsTo [] covTA0_e9 = true := by decide +kernel
def covTA0_e10 : En := ⟨129, [.agg #[.bool true, .string ⟨#[1]⟩, .int .i64 (.ofNat 5), .bool false, .string ⟨#[1]⟩, .int .i64 (.ofNat 5)], .agg #[.bool true, .string ⟨#[3]⟩, .int .i64 (.ofNat 3), .bool false, .string ⟨#[3]⟩, .int .i64 (.ofNat 3)]], [.agg #[.bool true, .string ⟨#[1]⟩, .int .i64 (.ofNat 3), .bool false, .string ⟨#[1]⟩, .int .i64 (.ofNat 3)], .int .i64 (.ofNat 0)]⟩
theorem covTA0_r10 : runsTo [] covTA0_e10 = true := by decide +kernel
def covTA0_e11 : En := ⟨130, [.agg #[.bool true, .string ⟨#[1]⟩, .int .i64 (.ofNat 3), .bool false, .string ⟨#[1]⟩, .int .i64 (.ofNat 3)]], [.agg #[.bool false, .string ⟨#[1]⟩, .int .i64 (.ofNat 7)], .int .i64 (.ofNat 0)]⟩
theorem covTA0_r11 : runsTo [] covTA0_e11 = true := by decide +kernel
def covTA0_e12 : En := ⟨129, [.agg #[.bool true, .string ⟨#[1]⟩, .int .i64 (.ofNat 4), .bool false, .string ⟨#[1]⟩, .int .i64 (.ofNat 5)], .agg #[.bool true, .string ⟨#[3]⟩, .int .i64 (.ofNat 3), .bool false, .string ⟨#[3]⟩, .int .i64 (.ofNat 3)]], [.agg #[.bool false, .string ⟨#[1]⟩, .int .i64 (.ofNat 3), .bool false, .string ⟨#[1]⟩, .int .i64 (.ofNat 3)], .int .i64 (.ofNat 0)]⟩
theorem covTA0_r12 : runsTo [] covTA0_e12 = true := by decide +kernel
def covTA0_e13 : En := ⟨130, [.agg #[.bool false, .string ⟨#[1]⟩, .int .i64 (.ofNat 3), .bool false, .string ⟨#[1]⟩, .int .i64 (.ofNat 3)]], [.agg #[.bool false, .string ⟨#[1]⟩, .int .i64 (.ofNat 7)], .int .i64 (.ofNat 0)]⟩
theorem covTA0_r13 : runsTo [] covTA0_e13 = true := by decide +kernel
def covTA0_e14 : En := ⟨182, [.float .f64 9218868437227405311], [.agg #[.bool false, .string ⟨#[31, 255, 255, 255, 255, 255, 255]⟩, .int .i64 (.ofNat 971)], .int .i64 (.ofNat 0)]⟩
theorem covTA0_r14 : runsTo [] covTA0_e14 = true := by decide +kernel
def covTA0_e15 : En := ⟨196, [.agg #[.bool false, .string ⟨#[31, 255, 255, 255, 255, 255, 255]⟩, .int .i64 (.ofNat 971)], .agg #[.bool false, .string ⟨#[31, 255, 255, 255, 255, 255, 255]⟩, .int .i64 (.ofNat 971)]], [.agg #[.bool false, .string ⟨#[3, 255, 255, 255, 255, 255, 255, 192, 0, 0, 0, 0, 0, 1]⟩, .int .i64 (.ofNat 1942)], .int .i64 (.ofNat 0)]⟩
theorem covTA0_r15 : runsTo [] covTA0_e15 = true := by decide +kernel
def covTA0_e16 : En := ⟨131, [.agg #[.bool false, .string ⟨#[3, 255, 255, 255, 255, 255, 255, 192, 0, 0, 0, 0, 0, 1]⟩, .int .i64 (.ofNat 1942)], .agg #[.bool false, .string ⟨#[1]⟩, .int .i64 (.ofNat 7)]], [.int .i64 (.ofNat 1), .int .i64 (.ofNat 0)]⟩
theorem covTA0_r16 : runsTo [] covTA0_e16 = true := by decide +kernel
def covTA0_e17 : En := ⟨182, [.float .f64 4609434218613702655], [.agg #[.bool false, .string ⟨#[23, 255, 255, 255, 255, 255, 255]⟩, .int .i64 (.negSucc 51)], .int .i64 (.ofNat 0)]⟩
theorem covTA0_r17 : runsTo [] covTA0_e17 = true := by decide +kernel
def covTA0_e18 : En := ⟨196, [.agg #[.bool false, .string ⟨#[23, 255, 255, 255, 255, 255, 255]⟩, .int .i64 (.negSucc 51)], .agg #[.bool false, .string ⟨#[23, 255, 255, 255, 255, 255, 255]⟩, .int .i64 (.negSucc 51)]], [.agg #[.bool false, .string ⟨#[2, 63, 255, 255, 255, 255, 255, 208, 0, 0, 0, 0, 0, 1]⟩, .int .i64 (.negSucc 103)], .int .i64 (.ofNat 0)]⟩
theorem covTA0_r18 : runsTo [] covTA0_e18 = true := by decide +kernel
def covTA0_e19 : En := ⟨131, [.agg #[.bool false, .string ⟨#[2, 63, 255, 255, 255, 255, 255, 208, 0, 0, 0, 0, 0, 1]⟩, .int .i64 (.negSucc 103)], .agg #[.bool false, .string ⟨#[1]⟩, .int .i64 (.ofNat 7)]], [.int .i64 (.negSucc 0), .int .i64 (.ofNat 0)]⟩
theorem covTA0_r19 : runsTo [] covTA0_e19 = true := by decide +kernel
def covTA0_e20 : En := ⟨182, [.float .f64 6914151327920553983], [.agg #[.bool false, .string ⟨#[19, 255, 255, 255, 255, 255, 255]⟩, .int .i64 (.ofNat 460)], .int .i64 (.ofNat 0)]⟩
theorem covTA0_r20 : runsTo [] covTA0_e20 = true := by decide +kernel
def covTA0_e21 : En := ⟨196, [.agg #[.bool false, .string ⟨#[19, 255, 255, 255, 255, 255, 255]⟩, .int .i64 (.ofNat 460)], .agg #[.bool false, .string ⟨#[19, 255, 255, 255, 255, 255, 255]⟩, .int .i64 (.ofNat 460)]], [.agg #[.bool false, .string ⟨#[1, 143, 255, 255, 255, 255, 255, 216, 0, 0, 0, 0, 0, 1]⟩, .int .i64 (.ofNat 920)], .int .i64 (.ofNat 0)]⟩
theorem covTA0_r21 : runsTo [] covTA0_e21 = true := by decide +kernel
def covTA0_e22 : En := ⟨131, [.agg #[.bool false, .string ⟨#[1, 143, 255, 255, 255, 255, 255, 216, 0, 0, 0, 0, 0, 1]⟩, .int .i64 (.ofNat 920)], .agg #[.bool false, .string ⟨#[1]⟩, .int .i64 (.ofNat 7)]], [.int .i64 (.ofNat 1), .int .i64 (.ofNat 0)]⟩
theorem covTA0_r22 : runsTo [] covTA0_e22 = true := by decide +kernel
def covTA0_e23 : En := ⟨182, [.float .f64 5761792773267128319], [.agg #[.bool false, .string ⟨#[21, 255, 255, 255, 255, 255, 255]⟩, .int .i64 (.ofNat 204)], .int .i64 (.ofNat 0)]⟩
theorem covTA0_r23 : runsTo [] covTA0_e23 = true := by decide +kernel
def covTA0_e24 : En := ⟨196, [.agg #[.bool false, .string ⟨#[21, 255, 255, 255, 255, 255, 255]⟩, .int .i64 (.ofNat 204)], .agg #[.bool false, .string ⟨#[21, 255, 255, 255, 255, 255, 255]⟩, .int .i64 (.ofNat 204)]], [.agg #[.bool false, .string ⟨#[1, 227, 255, 255, 255, 255, 255, 212, 0, 0, 0, 0, 0, 1]⟩, .int .i64 (.ofNat 408)], .int .i64 (.ofNat 0)]⟩
theorem covTA0_r24 : runsTo [] covTA0_e24 = true := by decide +kernel
def covTA0_e25 : En := ⟨131, [.agg #[.bool false, .string ⟨#[1, 227, 255, 255, 255, 255, 255, 212, 0, 0, 0, 0, 0, 1]⟩, .int .i64 (.ofNat 408)], .agg #[.bool false, .string ⟨#[1]⟩, .int .i64 (.ofNat 7)]], [.int .i64 (.ofNat 1), .int .i64 (.ofNat 0)]⟩
theorem covTA0_r25 : runsTo [] covTA0_e25 = true := by decide +kernel
def covTA0_e26 : En := ⟨182, [.float .f64 5185613495940415487], [.agg #[.bool false, .string ⟨#[22, 255, 255, 255, 255, 255, 255]⟩, .int .i64 (.ofNat 76)], .int .i64 (.ofNat 0)]⟩
theorem covTA0_r26 : runsTo [] covTA0_e26 = true := by decide +kernel
def covTA0_e27 : En := ⟨196, [.agg #[.bool false, .string ⟨#[22, 255, 255, 255, 255, 255, 255]⟩, .int .i64 (.ofNat 76)], .agg #[.bool false, .string ⟨#[22, 255, 255, 255, 255, 255, 255]⟩, .int .i64 (.ofNat 76)]], [.agg #[.bool false, .string ⟨#[2, 16, 255, 255, 255, 255, 255, 210, 0, 0, 0, 0, 0, 1]⟩, .int .i64 (.ofNat 152)], .int .i64 (.ofNat 0)]⟩
theorem covTA0_r27 : runsTo [] covTA0_e27 = true := by decide +kernel
def covTA0_e28 : En := ⟨131, [.agg #[.bool false, .string ⟨#[2, 16, 255, 255, 255, 255, 255, 210, 0, 0, 0, 0, 0, 1]⟩, .int .i64 (.ofNat 152)], .agg #[.bool false, .string ⟨#[1]⟩, .int .i64 (.ofNat 7)]], [.int .i64 (.ofNat 1), .int .i64 (.ofNat 0)]⟩
theorem covTA0_r28 : runsTo [] covTA0_e28 = true := by decide +kernel
def covTA0_e29 : En := ⟨182, [.float .f64 4897523857277059071], [.agg #[.bool false, .string ⟨#[23, 127, 255, 255, 255, 255, 255]⟩, .int .i64 (.ofNat 12)], .int .i64 (.ofNat 0)]⟩
theorem covTA0_r29 : runsTo [] covTA0_e29 = true := by decide +kernel
def covTA0_e30 : En := ⟨196, [.agg #[.bool false, .string ⟨#[23, 127, 255, 255, 255, 255, 255]⟩, .int .i64 (.ofNat 12)], .agg #[.bool false, .string ⟨#[23, 127, 255, 255, 255, 255, 255]⟩, .int .i64 (.ofNat 12)]], [.agg #[.bool false, .string ⟨#[2, 40, 63, 255, 255, 255, 255, 209, 0, 0, 0, 0, 0, 1]⟩, .int .i64 (.ofNat 24)], .int .i64 (.ofNat 0)]⟩
theorem covTA0_r30 : runsTo [] covTA0_e30 = true := by decide +kernel
def covTA0_e31 : En := ⟨131, [.agg #[.bool false, .string ⟨#[2, 40, 63, 255, 255, 255, 255, 209, 0, 0, 0, 0, 0, 1]⟩, .int .i64 (.ofNat 24)], .agg #[.bool false, .string ⟨#[1]⟩, .int .i64 (.ofNat 7)]], [.int .i64 (.ofNat 1), .int .i64 (.ofNat 0)]⟩
theorem covTA0_r31 : runsTo [] covTA0_e31 = true := by decide +kernel
def covTA0_e32 : En := ⟨182, [.float .f64 4753479037945380863], [.agg #[.bool false, .string ⟨#[23, 191, 255, 255, 255, 255, 255]⟩, .int .i64 (.negSucc 19)], .int .i64 (.ofNat 0)]⟩
theorem covTA0_r32 : runsTo [] covTA0_e32 = true := by decide +kernel
def covTA0_e33 : En := ⟨196, [.agg #[.bool false, .string ⟨#[23, 191, 255, 255, 255, 255, 255]⟩, .int .i64 (.negSucc 19)], .agg #[.bool false, .string ⟨#[23, 191, 255, 255, 255, 255, 255]⟩, .int .i64 (.negSucc 19)]], [.agg #[.bool false, .string ⟨#[2, 52, 15, 255, 255, 255, 255, 208, 128, 0, 0, 0, 0, 1]⟩, .int .i64 (.negSucc 39)], .int .i64 (.ofNat 0)]⟩
theorem covTA0_r33 : runsTo [] covTA0_e33 = true := by decide +kernel
def covTA0_e34 : En := ⟨131, [.agg #[.bool false, .string ⟨#[2, 52, 15, 255, 255, 255, 255, 208, 128, 0, 0, 0, 0, 1]⟩, .int .i64 (.negSucc 39)], .agg #[.bool false, .string ⟨#[1]⟩, .int .i64 (.ofNat 7)]], [.int .i64 (.ofNat 1), .int .i64 (.ofNat 0)]⟩
theorem covTA0_r34 : runsTo [] covTA0_e34 = true := by decide +kernel
def covTA0_e35 : En := ⟨182, [.float .f64 4681456628279541759], [.agg #[.bool false, .string ⟨#[23, 223, 255, 255, 255, 255, 255]⟩, .int .i64 (.negSucc 35)], .int .i64 (.ofNat 0)]⟩
theorem covTA0_r35 : runsTo [] covTA0_e35 = true := by decide +kernel
def covTA0_e36 : En := ⟨196, [.agg #[.bool false, .string ⟨#[23, 223, 255, 255, 255, 255, 255]⟩, .int .i64 (.negSucc 35)], .agg #[.bool false, .string ⟨#[23, 223, 255, 255, 255, 255, 255]⟩, .int .i64 (.negSucc 35)]], [.agg #[.bool false, .string ⟨#[2, 58, 3, 255, 255, 255, 255, 208, 64, 0, 0, 0, 0, 1]⟩, .int .i64 (.negSucc 71)], .int .i64 (.ofNat 0)]⟩
theorem covTA0_r36 : runsTo [] covTA0_e36 = true := by decide +kernel
def covTA0_e37 : En := ⟨131, [.agg #[.bool false, .string ⟨#[2, 58, 3, 255, 255, 255, 255, 208, 64, 0, 0, 0, 0, 1]⟩, .int .i64 (.negSucc 71)], .agg #[.bool false, .string ⟨#[1]⟩, .int .i64 (.ofNat 7)]], [.int .i64 (.ofNat 1), .int .i64 (.ofNat 0)]⟩
theorem covTA0_r37 : runsTo [] covTA0_e37 = true := by decide +kernel
def covTA0_e38 : En := ⟨182, [.float .f64 4645445423446622207], [.agg #[.bool false, .string ⟨#[23, 239, 255, 255, 255, 255, 255]⟩, .int .i64 (.negSucc 43)], .int .i64 (.ofNat 0)]⟩
theorem covTA0_r38 : runsTo [] covTA0_e38 = true := by decide +kernel
def covTA0_e39 : En := ⟨196, [.agg #[.bool false, .string ⟨#[23, 239, 255, 255, 255, 255, 255]⟩, .int .i64 (.negSucc 43)], .agg #[.bool false, .string ⟨#[23, 239, 255, 255, 255, 255, 255]⟩, .int .i64 (.negSucc 43)]], [.agg #[.bool false, .string ⟨#[2, 61, 0, 255, 255, 255, 255, 208, 32, 0, 0, 0, 0, 1]⟩, .int .i64 (.negSucc 87)], .int .i64 (.ofNat 0)]⟩
theorem covTA0_r39 : runsTo [] covTA0_e39 = true := by decide +kernel
def covTA0_e40 : En := ⟨131, [.agg #[.bool false, .string ⟨#[2, 61, 0, 255, 255, 255, 255, 208, 32, 0, 0, 0, 0, 1]⟩, .int .i64 (.negSucc 87)], .agg #[.bool false, .string ⟨#[1]⟩, .int .i64 (.ofNat 7)]], [.int .i64 (.ofNat 1), .int .i64 (.ofNat 0)]⟩
theorem covTA0_r40 : runsTo [] covTA0_e40 = true := by decide +kernel
def covTA0_e41 : En := ⟨182, [.float .f64 4627439821030162431], [.agg #[.bool false, .string ⟨#[23, 247, 255, 255, 255, 255, 255]⟩, .int .i64 (.negSucc 47)], .int .i64 (.ofNat 0)]⟩
theorem covTA0_r41 : runsTo [] covTA0_e41 = true := by decide +kernel
def covTA0_e42 : En := ⟨196, [.agg #[.bool false, .string ⟨#[23, 247, 255, 255, 255, 255, 255]⟩, .int .i64 (.negSucc 47)], .agg #[.bool false, .string ⟨#[23, 247, 255, 255, 255, 255, 255]⟩, .int .i64 (.negSucc 47)]], [.agg #[.bool false, .string ⟨#[2, 62, 128, 63, 255, 255, 255, 208, 16, 0, 0, 0, 0, 1]⟩, .int .i64 (.negSucc 95)], .int .i64 (.ofNat 0)]⟩
theorem covTA0_r42 : runsTo [] covTA0_e42 = true := by decide +kernel
def covTA0_e43 : En := ⟨131, [.agg #[.bool false, .string ⟨#[2, 62, 128, 63, 255, 255, 255, 208, 16, 0, 0, 0, 0, 1]⟩, .int .i64 (.negSucc 95)], .agg #[.bool false, .string ⟨#[1]⟩, .int .i64 (.ofNat 7)]], [.int .i64 (.ofNat 1), .int .i64 (.ofNat 0)]⟩
theorem covTA0_r43 : runsTo [] covTA0_e43 = true := by decide +kernel
def covTA0_e44 : En := ⟨182, [.float .f64 4618437019821932543], [.agg #[.bool false, .string ⟨#[23, 251, 255, 255, 255, 255, 255]⟩, .int .i64 (.negSucc 49)], .int .i64 (.ofNat 0)]⟩
theorem covTA0_r44 : runsTo [] covTA0_e44 = true := by decide +kernel
def covTA0_e45 : En := ⟨196, [.agg #[.bool false, .string ⟨#[23, 251, 255, 255, 255, 255, 255]⟩, .int .i64 (.negSucc 49)], .agg #[.bool false, .string ⟨#[23, 251, 255, 255, 255, 255, 255]⟩, .int .i64 (.negSucc 49)]], [.agg #[.bool false, .string ⟨#[2, 63, 64, 15, 255, 255, 255, 208, 8, 0, 0, 0, 0, 1]⟩, .int .i64 (.negSucc 99)], .int .i64 (.ofNat 0)]⟩
theorem covTA0_r45 : runsTo [] covTA0_e45 = true := by decide +kernel
def covTA0_e46 : En := ⟨131, [.agg #[.bool false, .string ⟨#[2, 63, 64, 15, 255, 255, 255, 208, 8, 0, 0, 0, 0, 1]⟩, .int .i64 (.negSucc 99)], .agg #[.bool false, .string ⟨#[1]⟩, .int .i64 (.ofNat 7)]], [.int .i64 (.negSucc 0), .int .i64 (.ofNat 0)]⟩
theorem covTA0_r46 : runsTo [] covTA0_e46 = true := by decide +kernel
def covTA0_e47 : En := ⟨182, [.float .f64 4622938420426047487], [.agg #[.bool false, .string ⟨#[23, 249, 255, 255, 255, 255, 255]⟩, .int .i64 (.negSucc 48)], .int .i64 (.ofNat 0)]⟩
theorem covTA0_r47 : runsTo [] covTA0_e47 = true := by decide +kernel
def covTA0_e48 : En := ⟨196, [.agg #[.bool false, .string ⟨#[23, 249, 255, 255, 255, 255, 255]⟩, .int .i64 (.negSucc 48)], .agg #[.bool false, .string ⟨#[23, 249, 255, 255, 255, 255, 255]⟩, .int .i64 (.negSucc 48)]], [.agg #[.bool false, .string ⟨#[2, 62, 224, 35, 255, 255, 255, 208, 12, 0, 0, 0, 0, 1]⟩, .int .i64 (.negSucc 97)], .int .i64 (.ofNat 0)]⟩
theorem covTA0_r48 : runsTo [] covTA0_e48 = true := by decide +kernel
def covTA0_e49 : En := ⟨131, [.agg #[.bool false, .string ⟨#[2, 62, 224, 35, 255, 255, 255, 208, 12, 0, 0, 0, 0, 1]⟩, .int .i64 (.negSucc 97)], .agg #[.bool false, .string ⟨#[1]⟩, .int .i64 (.ofNat 7)]], [.int .i64 (.ofNat 1), .int .i64 (.ofNat 0)]⟩
theorem covTA0_r49 : runsTo [] covTA0_e49 = true := by decide +kernel
def covTA0_e50 : En := ⟨182, [.float .f64 4620687720123990015], [.agg #[.bool false, .string ⟨#[31, 250, 255, 255, 255, 255, 255]⟩, .int .i64 (.negSucc 49)], .int .i64 (.ofNat 0)]⟩
theorem covTA0_r50 : runsTo [] covTA0_e50 = true := by decide +kernel
def covTA0_e51 : En := ⟨196, [.agg #[.bool false, .string ⟨#[31, 250, 255, 255, 255, 255, 255]⟩, .int .i64 (.negSucc 49)], .agg #[.bool false, .string ⟨#[31, 250, 255, 255, 255, 255, 255]⟩, .int .i64 (.negSucc 49)]], [.agg #[.bool false, .string ⟨#[3, 254, 192, 24, 255, 255, 255, 192, 10, 0, 0, 0, 0, 1]⟩, .int .i64 (.negSucc 99)], .int .i64 (.ofNat 0)]⟩
theorem covTA0_r51 : runsTo [] covTA0_e51 = true := by decide +kernel
def covTA0 : List En := [covTA0_e0, covTA0_e1, covTA0_e2, covTA0_e3, covTA0_e4, covTA0_e5, covTA0_e6, covTA0_e7, covTA0_e8, covTA0_e9, covTA0_e10, covTA0_e11, covTA0_e12, covTA0_e13, covTA0_e14, covTA0_e15, covTA0_e16, covTA0_e17, covTA0_e18, covTA0_e19, covTA0_e20, covTA0_e21, covTA0_e22, covTA0_e23, covTA0_e24, covTA0_e25, covTA0_e26, covTA0_e27, covTA0_e28, covTA0_e29, covTA0_e30, covTA0_e31, covTA0_e32, covTA0_e33, covTA0_e34, covTA0_e35, covTA0_e36, covTA0_e37, covTA0_e38, covTA0_e39, covTA0_e40, covTA0_e41, covTA0_e42, covTA0_e43, covTA0_e44, covTA0_e45, covTA0_e46, covTA0_e47, covTA0_e48, covTA0_e49, covTA0_e50, covTA0_e51]
theorem covTA0_ok : ∀ e ∈ covTA0, EnOK e := all_cons (runsTo_ok all_nil covTA0_r0) <| all_cons (runsTo_ok all_nil covTA0_r1) <| all_cons (runsTo_ok all_nil covTA0_r2) <| all_cons (runsTo_ok all_nil covTA0_r3) <| all_cons (runsTo_ok all_nil covTA0_r4) <| all_cons (runsTo_ok all_nil covTA0_r5) <| all_cons (runsTo_ok all_nil covTA0_r6) <| all_cons (runsTo_ok all_nil covTA0_r7) <| all_cons (runsTo_ok all_nil covTA0_r8) <| all_cons (runsTo_ok all_nil covTA0_r9) <| all_cons (runsTo_ok all_nil covTA0_r10) <| all_cons (runsTo_ok all_nil covTA0_r11) <| all_cons (runsTo_ok all_nil covTA0_r12) <| all_cons (runsTo_ok all_nil covTA0_r13) <| all_cons (runsTo_ok all_nil covTA0_r14) <| all_cons (runsTo_ok all_nil covTA0_r15) <| all_cons (runsTo_ok all_nil covTA0_r16) <| all_cons (runsTo_ok all_nil covTA0_r17) <| all_cons (runsTo_ok all_nil covTA0_r18) <| all_cons (runsTo_ok all_nil covTA0_r19) <| all_cons (runsTo_ok all_nil covTA0_r20) <| all_cons (runsTo_ok all_nil covTA0_r21) <| all_cons (runsTo_ok all_nil covTA0_r22) <| all_cons (runsTo_ok all_nil covTA0_r23) <| all_cons (runsTo_ok all_nil covTA0_r24) <| all_cons (runsTo_ok all_nil covTA0_r25) <| all_cons (runsTo_ok all_nil covTA0_r26) <| all_cons (runsTo_ok all_nil covTA0_r27) <| all_cons (runsTo_ok all_nil covTA0_r28) <| all_cons (runsTo_ok all_nil covTA0_r29) <| all_cons (runsTo_ok all_nil covTA0_r30) <| all_cons (runsTo_ok all_nil covTA0_r31) <| all_cons (runsTo_ok all_nil covTA0_r32) <| all_cons (runsTo_ok all_nil covTA0_r33) <| all_cons (runsTo_ok all_nil covTA0_r34) <| all_cons (runsTo_ok all_nil covTA0_r35) <| all_cons (runsTo_ok all_nil covTA0_r36) <| all_cons (runsTo_ok all_nil covTA0_r37) <| all_cons (runsTo_ok all_nil covTA0_r38) <| all_cons (runsTo_ok all_nil covTA0_r39) <| all_cons (runsTo_ok all_nil covTA0_r40) <| all_cons (runsTo_ok all_nil covTA0_r41) <| all_cons (runsTo_ok all_nil covTA0_r42) <| all_cons (runsTo_ok all_nil covTA0_r43) <| all_cons (runsTo_ok all_nil covTA0_r44) <| all_cons (runsTo_ok all_nil covTA0_r45) <| all_cons (runsTo_ok all_nil covTA0_r46) <| all_cons (runsTo_ok all_nil covTA0_r47) <| all_cons (runsTo_ok all_nil covTA0_r48) <| all_cons (runsTo_ok all_nil covTA0_r49) <| all_cons (runsTo_ok all_nil covTA0_r50) <| all_cons (runsTo_ok all_nil covTA0_r51) <|  all_nil
end Go.Proofs.YtneakieigiafpaaGreatDoor
