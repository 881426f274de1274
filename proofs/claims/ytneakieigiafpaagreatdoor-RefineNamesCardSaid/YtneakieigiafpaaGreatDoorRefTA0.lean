/- Calls behind view.Cover of some squares (part 1): each is run by the kernel. -/
import Derived.Test.YtneakieigiafpaaGreatDoorExR
namespace Go.Proofs.YtneakieigiafpaaGreatDoor
open Go.Ex
set_option maxRecDepth 100000
def refTA0_e0 : En := ⟨125, [.agg #[.bool false, .string ⟨#[]⟩, .int .i64 (.ofNat 0), .bool false, .string ⟨#[]⟩, .int .i64 (.ofNat 0), .int .i64 (.ofNat 1)]], [.agg #[.bool false, .string ⟨#[]⟩, .int .i64 (.ofNat 0), .bool false, .string ⟨#[]⟩, .int .i64 (.ofNat 0), .bool false, .string ⟨#[1]⟩, .int .i64 (.ofNat 1), .bool false, .string ⟨#[]⟩, .int .i64 (.ofNat 0), .bool false, .string ⟨#[]⟩, .int .i64 (.ofNat 0), .bool false, .string ⟨#[1]⟩, .int .i64 (.ofNat 1), .bool false, .string ⟨#[1]⟩, .int .i64 (.ofNat 1), .bool false, .string ⟨#[1]⟩, .int .i64 (.ofNat 1)], .int .i64 (.ofNat 0)]⟩
theorem refTA0_r0 : runsTo [] refTA0_e0 = true := by decide +kernel
def refTA0_e1 : En := ⟨126, [.agg #[.bool false, .string ⟨#[]⟩, .int .i64 (.ofNat 0), .bool false, .string ⟨#[]⟩, .int .i64 (.ofNat 0), .int .i64 (.ofNat 1)]], [.agg #[.bool false, .string ⟨#[1]⟩, .int .i64 (.ofNat 0), .bool false, .string ⟨#[1]⟩, .int .i64 (.ofNat 0)], .int .i64 (.ofNat 0)]⟩
theorem refTA0_r1 : runsTo [] refTA0_e1 = true := by decide +kernel
def refTA0_e2 : En := ⟨127, [.agg #[.bool false, .string ⟨#[1]⟩, .int .i64 (.ofNat 0), .bool false, .string ⟨#[1]⟩, .int .i64 (.ofNat 0)]], [.complex .f64 4607182418800017408 4607182418800017408, .int .i64 (.ofNat 0)]⟩
theorem refTA0_r2 : runsTo [] refTA0_e2 = true := by decide +kernel
def refTA0_e3 : En := ⟨128, [.complex .f64 4607182418800017408 4607182418800017408], [.agg #[.bool false, .string ⟨#[1]⟩, .int .i64 (.ofNat 0), .bool false, .string ⟨#[1]⟩, .int .i64 (.ofNat 0)], .int .i64 (.ofNat 0)]⟩
theorem refTA0_r3 : runsTo [] refTA0_e3 = true := by decide +kernel
def refTA0_e4 : En := ⟨129, [.agg #[.bool false, .string ⟨#[]⟩, .int .i64 (.ofNat 0), .bool false, .string ⟨#[]⟩, .int .i64 (.ofNat 0)], .agg #[.bool false, .string ⟨#[1]⟩, .int .i64 (.ofNat 0), .bool false, .string ⟨#[1]⟩, .int .i64 (.ofNat 0)]], [.agg #[.bool true, .string ⟨#[1]⟩, .int .i64 (.ofNat 0), .bool true, .string ⟨#[1]⟩, .int .i64 (.ofNat 0)], .int .i64 (.ofNat 0)]⟩
theorem refTA0_r4 : runsTo [] refTA0_e4 = true := by decide +kernel
def refTA0_e5 : En := ⟨130, [.agg #[.bool true, .string ⟨#[1]⟩, .int .i64 (.ofNat 0), .bool true, .string ⟨#[1]⟩, .int .i64 (.ofNat 0)]], [.agg #[.bool false, .string ⟨#[1]⟩, .int .i64 (.ofNat 1)], .int .i64 (.ofNat 0)]⟩
theorem refTA0_r5 : runsTo [] refTA0_e5 = true := by decide +kernel
def refTA0_e6 : En := ⟨131, [.agg #[.bool false, .string ⟨#[1]⟩, .int .i64 (.ofNat 1)], .agg #[.bool false, .string ⟨#[]⟩, .int .i64 (.ofNat 0)]], [.int .i64 (.ofNat 1), .int .i64 (.ofNat 0)]⟩
theorem refTA0_r6 : runsTo [] refTA0_e6 = true := by decide +kernel
def refTA0_e7 : En := ⟨129, [.agg #[.bool false, .string ⟨#[1]⟩, .int .i64 (.ofNat 1), .bool false, .string ⟨#[]⟩, .int .i64 (.ofNat 0)], .agg #[.bool false, .string ⟨#[1]⟩, .int .i64 (.ofNat 0), .bool false, .string ⟨#[1]⟩, .int .i64 (.ofNat 0)]], [.agg #[.bool false, .string ⟨#[1]⟩, .int .i64 (.ofNat 0), .bool true, .string ⟨#[1]⟩, .int .i64 (.ofNat 0)], .int .i64 (.ofNat 0)]⟩
theorem refTA0_r7 : runsTo [] refTA0_e7 = true := by decide +kernel
def refTA0_e8 : En := ⟨130, [.agg #[.bool false, .string ⟨#[1]⟩, .int .i64 (.ofNat 0), .bool true, .string ⟨#[1]⟩, .int .i64 (.ofNat 0)]], [.agg #[.bool false, .string ⟨#[1]⟩, .int .i64 (.ofNat 1)], .int .i64 (.ofNat 0)]⟩
theorem refTA0_r8 : runsTo [] refTA0_e8 = true := by decide +kernel
def refTA0_e9 : En := ⟨131, [.agg #[.bool false, .string ⟨#[1]⟩, .int .i64 (.ofNat 1)], .agg #[.bool false, .string ⟨#[1]⟩, .int .i64 (.ofNat 1)]], [.int .i64 (.ofNat 0), .int .i64 (.ofNat 0)]⟩
theorem refTA0_r9 : runsTo [] refTA0_e9 = true := by decide +kernel
def refTA0_e10 : En := ⟨129, [.agg #[.bool false, .string ⟨#[]⟩, .int .i64 (.ofNat 0), .bool false, .string ⟨#[1]⟩, .int .i64 (.ofNat 1)], .agg #[.bool false, .string ⟨#[1]⟩, .int .i64 (.ofNat 0), .bool false, .string ⟨#[1]⟩, .int .i64 (.ofNat 0)]], [.agg #[.bool true, .string ⟨#[1]⟩, .int .i64 (.ofNat 0), .bool false, .string ⟨#[1]⟩, .int .i64 (.ofNat 0)], .int .i64 (.ofNat 0)]⟩
theorem refTA0_r10 : runsTo [] refTA0_e10 = true := by decide +kernel
def refTA0_e11 : En := ⟨130, [.agg #[.bool true, .string ⟨#[1]⟩, .int .i64 (.ofNat 0), .bool false, .string ⟨#[1]⟩, .int .i64 (.ofNat 0)]], [.agg #[.bool false, .string ⟨#[1]⟩, .int .i64 (.ofNat 1)], .int .i64 (.ofNat 0)]⟩
theorem refTA0_r11 : runsTo [] refTA0_e11 = true := by decide +kernel
def refTA0_e12 : En := ⟨129, [.agg #[.bool false, .string ⟨#[1]⟩, .int .i64 (.ofNat 1), .bool false, .string ⟨#[1]⟩, .int .i64 (.ofNat 1)], .agg #[.bool false, .string ⟨#[1]⟩, .int .i64 (.ofNat 0), .bool false, .string ⟨#[1]⟩, .int .i64 (.ofNat 0)]], [.agg #[.bool false, .string ⟨#[1]⟩, .int .i64 (.ofNat 0), .bool false, .string ⟨#[1]⟩, .int .i64 (.ofNat 0)], .int .i64 (.ofNat 0)]⟩
theorem refTA0_r12 : runsTo [] refTA0_e12 = true := by decide +kernel
def refTA0_e13 : En := ⟨130, [.agg #[.bool false, .string ⟨#[1]⟩, .int .i64 (.ofNat 0), .bool false, .string ⟨#[1]⟩, .int .i64 (.ofNat 0)]], [.agg #[.bool false, .string ⟨#[1]⟩, .int .i64 (.ofNat 1)], .int .i64 (.ofNat 0)]⟩
theorem refTA0_r13 : runsTo [] refTA0_e13 = true := by decide +kernel
def refTA0_e14 : En := ⟨182, [.float .f64 9218868437227405311], [.agg #[.bool false, .string ⟨#[31, 255, 255, 255, 255, 255, 255]⟩, .int .i64 (.ofNat 971)], .int .i64 (.ofNat 0)]⟩
theorem refTA0_r14 : runsTo [] refTA0_e14 = true := by decide +kernel
def refTA0_e15 : En := ⟨196, [.agg #[.bool false, .string ⟨#[31, 255, 255, 255, 255, 255, 255]⟩, .int .i64 (.ofNat 971)], .agg #[.bool false, .string ⟨#[31, 255, 255, 255, 255, 255, 255]⟩, .int .i64 (.ofNat 971)]], [.agg #[.bool false, .string ⟨#[3, 255, 255, 255, 255, 255, 255, 192, 0, 0, 0, 0, 0, 1]⟩, .int .i64 (.ofNat 1942)], .int .i64 (.ofNat 0)]⟩
theorem refTA0_r15 : runsTo [] refTA0_e15 = true := by decide +kernel
def refTA0_e16 : En := ⟨131, [.agg #[.bool false, .string ⟨#[3, 255, 255, 255, 255, 255, 255, 192, 0, 0, 0, 0, 0, 1]⟩, .int .i64 (.ofNat 1942)], .agg #[.bool false, .string ⟨#[1]⟩, .int .i64 (.ofNat 1)]], [.int .i64 (.ofNat 1), .int .i64 (.ofNat 0)]⟩
theorem refTA0_r16 : runsTo [] refTA0_e16 = true := by decide +kernel
def refTA0_e17 : En := ⟨182, [.float .f64 4609434218613702655], [.agg #[.bool false, .string ⟨#[23, 255, 255, 255, 255, 255, 255]⟩, .int .i64 (.negSucc 51)], .int .i64 (.ofNat 0)]⟩
theorem refTA0_r17 : runsTo [] refTA0_e17 = true := by decide +kernel
def refTA0_e18 : En := ⟨196, [.agg #[.bool false, .string ⟨#[23, 255, 255, 255, 255, 255, 255]⟩, .int .i64 (.negSucc 51)], .agg #[.bool false, .string ⟨#[23, 255, 255, 255, 255, 255, 255]⟩, .int .i64 (.negSucc 51)]], [.agg #[.bool false, .string ⟨#[2, 63, 255, 255, 255, 255, 255, 208, 0, 0, 0, 0, 0, 1]⟩, .int .i64 (.negSucc 103)], .int .i64 (.ofNat 0)]⟩
theorem refTA0_r18 : runsTo [] refTA0_e18 = true := by decide +kernel
def refTA0_e19 : En := ⟨131, [.agg #[.bool false, .string ⟨#[2, 63, 255, 255, 255, 255, 255, 208, 0, 0, 0, 0, 0, 1]⟩, .int .i64 (.negSucc 103)], .agg #[.bool false, .string ⟨#[1]⟩, .int .i64 (.ofNat 1)]], [.int .i64 (.ofNat 1), .int .i64 (.ofNat 0)]⟩
theorem refTA0_r19 : runsTo [] refTA0_e19 = true := by decide +kernel
def refTA0_e20 : En := ⟨182, [.float .f64 2304717109306851327], [.agg #[.bool false, .string ⟨#[27, 255, 255, 255, 255, 255, 255]⟩, .int .i64 (.negSucc 563)], .int .i64 (.ofNat 0)]⟩
theorem refTA0_r20 : runsTo [] refTA0_e20 = true := by decide +kernel
def refTA0_e21 : En := ⟨196, [.agg #[.bool false, .string ⟨#[27, 255, 255, 255, 255, 255, 255]⟩, .int .i64 (.negSucc 563)], .agg #[.bool false, .string ⟨#[27, 255, 255, 255, 255, 255, 255]⟩, .int .i64 (.negSucc 563)]], [.agg #[.bool false, .string ⟨#[3, 15, 255, 255, 255, 255, 255, 200, 0, 0, 0, 0, 0, 1]⟩, .int .i64 (.negSucc 1127)], .int .i64 (.ofNat 0)]⟩
theorem refTA0_r21 : runsTo [] refTA0_e21 = true := by decide +kernel
def refTA0_e22 : En := ⟨131, [.agg #[.bool false, .string ⟨#[3, 15, 255, 255, 255, 255, 255, 200, 0, 0, 0, 0, 0, 1]⟩, .int .i64 (.negSucc 1127)], .agg #[.bool false, .string ⟨#[1]⟩, .int .i64 (.ofNat 1)]], [.int .i64 (.negSucc 0), .int .i64 (.ofNat 0)]⟩
theorem refTA0_r22 : runsTo [] refTA0_e22 = true := by decide +kernel
def refTA0_e23 : En := ⟨182, [.float .f64 3457075663960276991], [.agg #[.bool false, .string ⟨#[25, 255, 255, 255, 255, 255, 255]⟩, .int .i64 (.negSucc 307)], .int .i64 (.ofNat 0)]⟩
theorem refTA0_r23 : runsTo [] refTA0_e23 = true := by decide +kernel
def refTA0_e24 : En := ⟨196, [.agg #[.bool false, .string ⟨#[25, 255, 255, 255, 255, 255, 255]⟩, .int .i64 (.negSucc 307)], .agg #[.bool false, .string ⟨#[25, 255, 255, 255, 255, 255, 255]⟩, .int .i64 (.negSucc 307)]], [.agg #[.bool false, .string ⟨#[2, 163, 255, 255, 255, 255, 255, 204, 0, 0, 0, 0, 0, 1]⟩, .int .i64 (.negSucc 615)], .int .i64 (.ofNat 0)]⟩
theorem refTA0_r24 : runsTo [] refTA0_e24 = true := by decide +kernel
def refTA0_e25 : En := ⟨131, [.agg #[.bool false, .string ⟨#[2, 163, 255, 255, 255, 255, 255, 204, 0, 0, 0, 0, 0, 1]⟩, .int .i64 (.negSucc 615)], .agg #[.bool false, .string ⟨#[1]⟩, .int .i64 (.ofNat 1)]], [.int .i64 (.negSucc 0), .int .i64 (.ofNat 0)]⟩
theorem refTA0_r25 : runsTo [] refTA0_e25 = true := by decide +kernel
def refTA0_e26 : En := ⟨182, [.float .f64 4033254941286989823], [.agg #[.bool false, .string ⟨#[24, 255, 255, 255, 255, 255, 255]⟩, .int .i64 (.negSucc 179)], .int .i64 (.ofNat 0)]⟩
theorem refTA0_r26 : runsTo [] refTA0_e26 = true := by decide +kernel
def refTA0_e27 : En := ⟨196, [.agg #[.bool false, .string ⟨#[24, 255, 255, 255, 255, 255, 255]⟩, .int .i64 (.negSucc 179)], .agg #[.bool false, .string ⟨#[24, 255, 255, 255, 255, 255, 255]⟩, .int .i64 (.negSucc 179)]], [.agg #[.bool false, .string ⟨#[2, 112, 255, 255, 255, 255, 255, 206, 0, 0, 0, 0, 0, 1]⟩, .int .i64 (.negSucc 359)], .int .i64 (.ofNat 0)]⟩
theorem refTA0_r27 : runsTo [] refTA0_e27 = true := by decide +kernel
def refTA0_e28 : En := ⟨131, [.agg #[.bool false, .string ⟨#[2, 112, 255, 255, 255, 255, 255, 206, 0, 0, 0, 0, 0, 1]⟩, .int .i64 (.negSucc 359)], .agg #[.bool false, .string ⟨#[1]⟩, .int .i64 (.ofNat 1)]], [.int .i64 (.negSucc 0), .int .i64 (.ofNat 0)]⟩
theorem refTA0_r28 : runsTo [] refTA0_e28 = true := by decide +kernel
def refTA0_e29 : En := ⟨182, [.float .f64 4321344579950346239], [.agg #[.bool false, .string ⟨#[24, 127, 255, 255, 255, 255, 255]⟩, .int .i64 (.negSucc 115)], .int .i64 (.ofNat 0)]⟩
theorem refTA0_r29 : runsTo [] refTA0_e29 = true := by decide +kernel
def refTA0_e30 : En := ⟨196, [.agg #[.bool false, .string ⟨#[24, 127, 255, 255, 255, 255, 255]⟩, .int .i64 (.negSucc 115)], .agg #[.bool false, .string ⟨#[24, 127, 255, 255, 255, 255, 255]⟩, .int .i64 (.negSucc 115)]], [.agg #[.bool false, .string ⟨#[2, 88, 63, 255, 255, 255, 255, 207, 0, 0, 0, 0, 0, 1]⟩, .int .i64 (.negSucc 231)], .int .i64 (.ofNat 0)]⟩
theorem refTA0_r30 : runsTo [] refTA0_e30 = true := by decide +kernel
def refTA0_e31 : En := ⟨131, [.agg #[.bool false, .string ⟨#[2, 88, 63, 255, 255, 255, 255, 207, 0, 0, 0, 0, 0, 1]⟩, .int .i64 (.negSucc 231)], .agg #[.bool false, .string ⟨#[1]⟩, .int .i64 (.ofNat 1)]], [.int .i64 (.negSucc 0), .int .i64 (.ofNat 0)]⟩
theorem refTA0_r31 : runsTo [] refTA0_e31 = true := by decide +kernel
def refTA0_e32 : En := ⟨182, [.float .f64 4465389399282024447], [.agg #[.bool false, .string ⟨#[24, 63, 255, 255, 255, 255, 255]⟩, .int .i64 (.negSucc 83)], .int .i64 (.ofNat 0)]⟩
theorem refTA0_r32 : runsTo [] refTA0_e32 = true := by decide +kernel
def refTA0_e33 : En := ⟨196, [.agg #[.bool false, .string ⟨#[24, 63, 255, 255, 255, 255, 255]⟩, .int .i64 (.negSucc 83)], .agg #[.bool false, .string ⟨#[24, 63, 255, 255, 255, 255, 255]⟩, .int .i64 (.negSucc 83)]], [.agg #[.bool false, .string ⟨#[2, 76, 15, 255, 255, 255, 255, 207, 128, 0, 0, 0, 0, 1]⟩, .int .i64 (.negSucc 167)], .int .i64 (.ofNat 0)]⟩
theorem refTA0_r33 : runsTo [] refTA0_e33 = true := by decide +kernel
def refTA0_e34 : En := ⟨131, [.agg #[.bool false, .string ⟨#[2, 76, 15, 255, 255, 255, 255, 207, 128, 0, 0, 0, 0, 1]⟩, .int .i64 (.negSucc 167)], .agg #[.bool false, .string ⟨#[1]⟩, .int .i64 (.ofNat 1)]], [.int .i64 (.negSucc 0), .int .i64 (.ofNat 0)]⟩
theorem refTA0_r34 : runsTo [] refTA0_e34 = true := by decide +kernel
def refTA0_e35 : En := ⟨182, [.float .f64 4537411808947863551], [.agg #[.bool false, .string ⟨#[24, 31, 255, 255, 255, 255, 255]⟩, .int .i64 (.negSucc 67)], .int .i64 (.ofNat 0)]⟩
theorem refTA0_r35 : runsTo [] refTA0_e35 = true := by decide +kernel
def refTA0_e36 : En := ⟨196, [.agg #[.bool false, .string ⟨#[24, 31, 255, 255, 255, 255, 255]⟩, .int .i64 (.negSucc 67)], .agg #[.bool false, .string ⟨#[24, 31, 255, 255, 255, 255, 255]⟩, .int .i64 (.negSucc 67)]], [.agg #[.bool false, .string ⟨#[2, 70, 3, 255, 255, 255, 255, 207, 192, 0, 0, 0, 0, 1]⟩, .int .i64 (.negSucc 135)], .int .i64 (.ofNat 0)]⟩
theorem refTA0_r36 : runsTo [] refTA0_e36 = true := by decide +kernel
def refTA0_e37 : En := ⟨131, [.agg #[.bool false, .string ⟨#[2, 70, 3, 255, 255, 255, 255, 207, 192, 0, 0, 0, 0, 1]⟩, .int .i64 (.negSucc 135)], .agg #[.bool false, .string ⟨#[1]⟩, .int .i64 (.ofNat 1)]], [.int .i64 (.negSucc 0), .int .i64 (.ofNat 0)]⟩
theorem refTA0_r37 : runsTo [] refTA0_e37 = true := by decide +kernel
def refTA0_e38 : En := ⟨182, [.float .f64 4573423013780783103], [.agg #[.bool false, .string ⟨#[24, 15, 255, 255, 255, 255, 255]⟩, .int .i64 (.negSucc 59)], .int .i64 (.ofNat 0)]⟩
theorem refTA0_r38 : runsTo [] refTA0_e38 = true := by decide +kernel
def refTA0_e39 : En := ⟨196, [.agg #[.bool false, .string ⟨#[24, 15, 255, 255, 255, 255, 255]⟩, .int .i64 (.negSucc 59)], .agg #[.bool false, .string ⟨#[24, 15, 255, 255, 255, 255, 255]⟩, .int .i64 (.negSucc 59)]], [.agg #[.bool false, .string ⟨#[2, 67, 0, 255, 255, 255, 255, 207, 224, 0, 0, 0, 0, 1]⟩, .int .i64 (.negSucc 119)], .int .i64 (.ofNat 0)]⟩
theorem refTA0_r39 : runsTo [] refTA0_e39 = true := by decide +kernel
def refTA0_e40 : En := ⟨131, [.agg #[.bool false, .string ⟨#[2, 67, 0, 255, 255, 255, 255, 207, 224, 0, 0, 0, 0, 1]⟩, .int .i64 (.negSucc 119)], .agg #[.bool false, .string ⟨#[1]⟩, .int .i64 (.ofNat 1)]], [.int .i64 (.negSucc 0), .int .i64 (.ofNat 0)]⟩
theorem refTA0_r40 : runsTo [] refTA0_e40 = true := by decide +kernel
def refTA0_e41 : En := ⟨182, [.float .f64 4591428616197242879], [.agg #[.bool false, .string ⟨#[24, 7, 255, 255, 255, 255, 255]⟩, .int .i64 (.negSucc 55)], .int .i64 (.ofNat 0)]⟩
theorem refTA0_r41 : runsTo [] refTA0_e41 = true := by decide +kernel
def refTA0_e42 : En := ⟨196, [.agg #[.bool false, .string ⟨#[24, 7, 255, 255, 255, 255, 255]⟩, .int .i64 (.negSucc 55)], .agg #[.bool false, .string ⟨#[24, 7, 255, 255, 255, 255, 255]⟩, .int .i64 (.negSucc 55)]], [.agg #[.bool false, .string ⟨#[2, 65, 128, 63, 255, 255, 255, 207, 240, 0, 0, 0, 0, 1]⟩, .int .i64 (.negSucc 111)], .int .i64 (.ofNat 0)]⟩
theorem refTA0_r42 : runsTo [] refTA0_e42 = true := by decide +kernel
def refTA0_e43 : En := ⟨131, [.agg #[.bool false, .string ⟨#[2, 65, 128, 63, 255, 255, 255, 207, 240, 0, 0, 0, 0, 1]⟩, .int .i64 (.negSucc 111)], .agg #[.bool false, .string ⟨#[1]⟩, .int .i64 (.ofNat 1)]], [.int .i64 (.negSucc 0), .int .i64 (.ofNat 0)]⟩
theorem refTA0_r43 : runsTo [] refTA0_e43 = true := by decide +kernel
def refTA0_e44 : En := ⟨182, [.float .f64 4600431417405472767], [.agg #[.bool false, .string ⟨#[24, 3, 255, 255, 255, 255, 255]⟩, .int .i64 (.negSucc 53)], .int .i64 (.ofNat 0)]⟩
theorem refTA0_r44 : runsTo [] refTA0_e44 = true := by decide +kernel
def refTA0_e45 : En := ⟨196, [.agg #[.bool false, .string ⟨#[24, 3, 255, 255, 255, 255, 255]⟩, .int .i64 (.negSucc 53)], .agg #[.bool false, .string ⟨#[24, 3, 255, 255, 255, 255, 255]⟩, .int .i64 (.negSucc 53)]], [.agg #[.bool false, .string ⟨#[2, 64, 192, 15, 255, 255, 255, 207, 248, 0, 0, 0, 0, 1]⟩, .int .i64 (.negSucc 107)], .int .i64 (.ofNat 0)]⟩
theorem refTA0_r45 : runsTo [] refTA0_e45 = true := by decide +kernel
def refTA0_e46 : En := ⟨131, [.agg #[.bool false, .string ⟨#[2, 64, 192, 15, 255, 255, 255, 207, 248, 0, 0, 0, 0, 1]⟩, .int .i64 (.negSucc 107)], .agg #[.bool false, .string ⟨#[1]⟩, .int .i64 (.ofNat 1)]], [.int .i64 (.negSucc 0), .int .i64 (.ofNat 0)]⟩
theorem refTA0_r46 : runsTo [] refTA0_e46 = true := by decide +kernel
def refTA0_e47 : En := ⟨182, [.float .f64 4604932818009587711], [.agg #[.bool false, .string ⟨#[24, 1, 255, 255, 255, 255, 255]⟩, .int .i64 (.negSucc 52)], .int .i64 (.ofNat 0)]⟩
theorem refTA0_r47 : runsTo [] refTA0_e47 = true := by decide +kernel
def refTA0_e48 : En := ⟨196, [.agg #[.bool false, .string ⟨#[24, 1, 255, 255, 255, 255, 255]⟩, .int .i64 (.negSucc 52)], .agg #[.bool false, .string ⟨#[24, 1, 255, 255, 255, 255, 255]⟩, .int .i64 (.negSucc 52)]], [.agg #[.bool false, .string ⟨#[2, 64, 96, 3, 255, 255, 255, 207, 252, 0, 0, 0, 0, 1]⟩, .int .i64 (.negSucc 105)], .int .i64 (.ofNat 0)]⟩
theorem refTA0_r48 : runsTo [] refTA0_e48 = true := by decide +kernel
def refTA0_e49 : En := ⟨131, [.agg #[.bool false, .string ⟨#[2, 64, 96, 3, 255, 255, 255, 207, 252, 0, 0, 0, 0, 1]⟩, .int .i64 (.negSucc 105)], .agg #[.bool false, .string ⟨#[1]⟩, .int .i64 (.ofNat 1)]], [.int .i64 (.negSucc 0), .int .i64 (.ofNat 0)]⟩
theorem refTA0_r49 : runsTo [] refTA0_e49 = true := by decide +kernel
def refTA0_e50 : En := ⟨182, [.float .f64 4607183518311645183], [.agg #[.bool false, .string ⟨#[16, 0, 255, 255, 255, 255, 255]⟩, .int .i64 (.negSucc 51)], .int .i64 (.ofNat 0)]⟩
theorem refTA0_r50 : runsTo [] refTA0_e50 = true := by decide +kernel
def refTA0_e51 : En := ⟨196, [.agg #[.bool false, .string ⟨#[16, 0, 255, 255, 255, 255, 255]⟩, .int .i64 (.negSucc 51)], .agg #[.bool false, .string ⟨#[16, 0, 255, 255, 255, 255, 255]⟩, .int .i64 (.negSucc 51)]], [.agg #[.bool false, .string ⟨#[1, 0, 32, 0, 255, 255, 255, 223, 254, 0, 0, 0, 0, 1]⟩, .int .i64 (.negSucc 103)], .int .i64 (.ofNat 0)]⟩
theorem refTA0_r51 : runsTo [] refTA0_e51 = true := by decide +kernel
def refTA0 : List En := [refTA0_e0, refTA0_e1, refTA0_e2, refTA0_e3, refTA0_e4, refTA0_e5, refTA0_e6, refTA0_e7, refTA0_e8, refTA0_e9, refTA0_e10, refTA0_e11, refTA0_e12, refTA0_e13, refTA0_e14, refTA0_e15, refTA0_e16, refTA0_e17, refTA0_e18, refTA0_e19, refTA0_e20, refTA0_e21, refTA0_e22, refTA0_e23, refTA0_e24, refTA0_e25, refTA0_e26, refTA0_e27, refTA0_e28, refTA0_e29, refTA0_e30, refTA0_e31, refTA0_e32, refTA0_e33, refTA0_e34, refTA0_e35, refTA0_e36, refTA0_e37, refTA0_e38, refTA0_e39, refTA0_e40, refTA0_e41, refTA0_e42, refTA0_e43, refTA0_e44, refTA0_e45, refTA0_e46, refTA0_e47, refTA0_e48, refTA0_e49, refTA0_e50, refTA0_e51]
theorem refTA0_ok : ∀ e ∈ refTA0, EnOK e := all_cons (runsTo_ok all_nil refTA0_r0) <| all_cons (runsTo_ok all_nil refTA0_r1) <| all_cons (runsTo_ok all_nil refTA0_r2) <| all_cons (runsTo_ok all_nil refTA0_r3) <| all_cons (runsTo_ok all_nil refTA0_r4) <| all_cons (runsTo_ok all_nil refTA0_r5) <| all_cons (runsTo_ok all_nil refTA0_r6) <| all_cons (runsTo_ok all_nil refTA0_r7) <| all_cons (runsTo_ok all_nil refTA0_r8) <| all_cons (runsTo_ok all_nil refTA0_r9) <| all_cons (runsTo_ok all_nil refTA0_r10) <| all_cons (runsTo_ok all_nil refTA0_r11) <| all_cons (runsTo_ok all_nil refTA0_r12) <| all_cons (runsTo_ok all_nil refTA0_r13) <| all_cons (runsTo_ok all_nil refTA0_r14) <| all_cons (runsTo_ok all_nil refTA0_r15) <| all_cons (runsTo_ok all_nil refTA0_r16) <| all_cons (runsTo_ok all_nil refTA0_r17) <| all_cons (runsTo_ok all_nil refTA0_r18) <| all_cons (runsTo_ok all_nil refTA0_r19) <| all_cons (runsTo_ok all_nil refTA0_r20) <| all_cons (runsTo_ok all_nil refTA0_r21) <| all_cons (runsTo_ok all_nil refTA0_r22) <| all_cons (runsTo_ok all_nil refTA0_r23) <| all_cons (runsTo_ok all_nil refTA0_r24) <| all_cons (runsTo_ok all_nil refTA0_r25) <| all_cons (runsTo_ok all_nil refTA0_r26) <| all_cons (runsTo_ok all_nil refTA0_r27) <| all_cons (runsTo_ok all_nil refTA0_r28) <| all_cons (runsTo_ok all_nil refTA0_r29) <| all_cons (runsTo_ok all_nil refTA0_r30) <| all_cons (runsTo_ok all_nil refTA0_r31) <| all_cons (runsTo_ok all_nil refTA0_r32) <| all_cons (runsTo_ok all_nil refTA0_r33) <| all_cons (runsTo_ok all_nil refTA0_r34) <| all_cons (runsTo_ok all_nil refTA0_r35) <| all_cons (runsTo_ok all_nil refTA0_r36) <| all_cons (runsTo_ok all_nil refTA0_r37) <| all_cons (runsTo_ok all_nil refTA0_r38) <| all_cons (runsTo_ok all_nil refTA0_r39) <| all_cons (runsTo_ok all_nil refTA0_r40) <| all_cons (runsTo_ok all_nil refTA0_r41) <| all_cons (runsTo_ok all_nil refTA0_r42) <| all_cons (runsTo_ok all_nil refTA0_r43) <| all_cons (runsTo_ok all_nil refTA0_r44) <| all_cons (runsTo_ok all_nil refTA0_r45) <| all_cons (runsTo_ok all_nil refTA0_r46) <| all_cons (runsTo_ok all_nil refTA0_r47) <| all_cons (runsTo_ok all_nil refTA0_r48) <| all_cons (runsTo_ok all_nil refTA0_r49) <| all_cons (runsTo_ok all_nil refTA0_r50) <| all_cons (runsTo_ok all_nil refTA0_r51) <|  all_nil
end Go.Proofs.YtneakieigiafpaaGreatDoor
