/- Calls behind view.Cover of some squares (part 5): each is run by the kernel. -/
import Derived.Test.YtneakieigiafpaaGreatDoorExR
namespace Go.Proofs.YtneakieigiafpaaGreatDoor
open Go.Ex
set_option maxRecDepth 100000
def refTA4_e0 : En := ⟨127, [.agg #[.bool false, .string ⟨#[1]⟩, .int .i64 (.negSucc 0), .bool false, .string ⟨#[1]⟩, .int .i64 (.negSucc 0)]], [.complex .f64 4602678819172646912 4602678819172646912, .int .i64 (.ofNat 0)]⟩
theorem refTA4_r0 : runsTo [] refTA4_e0 = true := by decide +kernel
def refTA4_e1 : En := ⟨128, [.complex .f64 4602678819172646912 4602678819172646912], [.agg #[.bool false, .string ⟨#[1]⟩, .int .i64 (.negSucc 0), .bool false, .string ⟨#[1]⟩, .int .i64 (.negSucc 0)], .int .i64 (.ofNat 0)]⟩
theorem refTA4_r1 : runsTo [] refTA4_e1 = true := by decide +kernel
def refTA4_e2 : En := ⟨129, [.agg #[.bool false, .string ⟨#[]⟩, .int .i64 (.ofNat 0), .bool false, .string ⟨#[]⟩, .int .i64 (.ofNat 0)], .agg #[.bool false, .string ⟨#[1]⟩, .int .i64 (.negSucc 0), .bool false, .string ⟨#[1]⟩, .int .i64 (.negSucc 0)]], [.agg #[.bool true, .string ⟨#[1]⟩, .int .i64 (.negSucc 0), .bool true, .string ⟨#[1]⟩, .int .i64 (.negSucc 0)], .int .i64 (.ofNat 0)]⟩
theorem refTA4_r2 : runsTo [] refTA4_e2 = true := by decide +kernel
def refTA4_e3 : En := ⟨130, [.agg #[.bool true, .string ⟨#[1]⟩, .int .i64 (.negSucc 0), .bool true, .string ⟨#[1]⟩, .int .i64 (.negSucc 0)]], [.agg #[.bool false, .string ⟨#[1]⟩, .int .i64 (.negSucc 0)], .int .i64 (.ofNat 0)]⟩
theorem refTA4_r3 : runsTo [] refTA4_e3 = true := by decide +kernel
def refTA4_e4 : En := ⟨131, [.agg #[.bool false, .string ⟨#[1]⟩, .int .i64 (.negSucc 0)], .agg #[.bool false, .string ⟨#[]⟩, .int .i64 (.ofNat 0)]], [.int .i64 (.ofNat 1), .int .i64 (.ofNat 0)]⟩
theorem refTA4_r4 : runsTo [] refTA4_e4 = true := by decide +kernel
def refTA4_e5 : En := ⟨129, [.agg #[.bool false, .string ⟨#[1]⟩, .int .i64 (.ofNat 0), .bool false, .string ⟨#[]⟩, .int .i64 (.ofNat 0)], .agg #[.bool false, .string ⟨#[1]⟩, .int .i64 (.negSucc 0), .bool false, .string ⟨#[1]⟩, .int .i64 (.negSucc 0)]], [.agg #[.bool false, .string ⟨#[1]⟩, .int .i64 (.negSucc 0), .bool true, .string ⟨#[1]⟩, .int .i64 (.negSucc 0)], .int .i64 (.ofNat 0)]⟩
theorem refTA4_r5 : runsTo [] refTA4_e5 = true := by decide +kernel
def refTA4_e6 : En := ⟨130, [.agg #[.bool false, .string ⟨#[1]⟩, .int .i64 (.negSucc 0), .bool true, .string ⟨#[1]⟩, .int .i64 (.negSucc 0)]], [.agg #[.bool false, .string ⟨#[1]⟩, .int .i64 (.negSucc 0)], .int .i64 (.ofNat 0)]⟩
theorem refTA4_r6 : runsTo [] refTA4_e6 = true := by decide +kernel
def refTA4_e7 : En := ⟨131, [.agg #[.bool false, .string ⟨#[1]⟩, .int .i64 (.negSucc 0)], .agg #[.bool false, .string ⟨#[1]⟩, .int .i64 (.negSucc 0)]], [.int .i64 (.ofNat 0), .int .i64 (.ofNat 0)]⟩
theorem refTA4_r7 : runsTo [] refTA4_e7 = true := by decide +kernel
def refTA4_e8 : En := ⟨129, [.agg #[.bool false, .string ⟨#[]⟩, .int .i64 (.ofNat 0), .bool false, .string ⟨#[1]⟩, .int .i64 (.ofNat 0)], .agg #[.bool false, .string ⟨#[1]⟩, .int .i64 (.negSucc 0), .bool false, .string ⟨#[1]⟩, .int .i64 (.negSucc 0)]], [.agg #[.bool true, .string ⟨#[1]⟩, .int .i64 (.negSucc 0), .bool false, .string ⟨#[1]⟩, .int .i64 (.negSucc 0)], .int .i64 (.ofNat 0)]⟩
theorem refTA4_r8 : runsTo [] refTA4_e8 = true := by decide +kernel
def refTA4_e9 : En := ⟨130, [.agg #[.bool true, .string ⟨#[1]⟩, .int .i64 (.negSucc 0), .bool false, .string ⟨#[1]⟩, .int .i64 (.negSucc 0)]], [.agg #[.bool false, .string ⟨#[1]⟩, .int .i64 (.negSucc 0)], .int .i64 (.ofNat 0)]⟩
theorem refTA4_r9 : runsTo [] refTA4_e9 = true := by decide +kernel
def refTA4_e10 : En := ⟨129, [.agg #[.bool false, .string ⟨#[1]⟩, .int .i64 (.ofNat 0), .bool false, .string ⟨#[1]⟩, .int .i64 (.ofNat 0)], .agg #[.bool false, .string ⟨#[1]⟩, .int .i64 (.negSucc 0), .bool false, .string ⟨#[1]⟩, .int .i64 (.negSucc 0)]], [.agg #[.bool false, .string ⟨#[1]⟩, .int .i64 (.negSucc 0), .bool false, .string ⟨#[1]⟩, .int .i64 (.negSucc 0)], .int .i64 (.ofNat 0)]⟩
theorem refTA4_r10 : runsTo [] refTA4_e10 = true := by decide +kernel
def refTA4_e11 : En := ⟨130, [.agg #[.bool false, .string ⟨#[1]⟩, .int .i64 (.negSucc 0), .bool false, .string ⟨#[1]⟩, .int .i64 (.negSucc 0)]], [.agg #[.bool false, .string ⟨#[1]⟩, .int .i64 (.negSucc 0)], .int .i64 (.ofNat 0)]⟩
theorem refTA4_r11 : runsTo [] refTA4_e11 = true := by decide +kernel
def refTA4_e12 : En := ⟨131, [.agg #[.bool false, .string ⟨#[3, 255, 255, 255, 255, 255, 255, 192, 0, 0, 0, 0, 0, 1]⟩, .int .i64 (.ofNat 1942)], .agg #[.bool false, .string ⟨#[1]⟩, .int .i64 (.negSucc 0)]], [.int .i64 (.ofNat 1), .int .i64 (.ofNat 0)]⟩
theorem refTA4_r12 : runsTo [] refTA4_e12 = true := by decide +kernel
def refTA4_e13 : En := ⟨131, [.agg #[.bool false, .string ⟨#[2, 63, 255, 255, 255, 255, 255, 208, 0, 0, 0, 0, 0, 1]⟩, .int .i64 (.negSucc 103)], .agg #[.bool false, .string ⟨#[1]⟩, .int .i64 (.negSucc 0)]], [.int .i64 (.ofNat 1), .int .i64 (.ofNat 0)]⟩
theorem refTA4_r13 : runsTo [] refTA4_e13 = true := by decide +kernel
def refTA4_e14 : En := ⟨131, [.agg #[.bool false, .string ⟨#[3, 15, 255, 255, 255, 255, 255, 200, 0, 0, 0, 0, 0, 1]⟩, .int .i64 (.negSucc 1127)], .agg #[.bool false, .string ⟨#[1]⟩, .int .i64 (.negSucc 0)]], [.int .i64 (.negSucc 0), .int .i64 (.ofNat 0)]⟩
theorem refTA4_r14 : runsTo [] refTA4_e14 = true := by decide +kernel
def refTA4_e15 : En := ⟨131, [.agg #[.bool false, .string ⟨#[2, 163, 255, 255, 255, 255, 255, 204, 0, 0, 0, 0, 0, 1]⟩, .int .i64 (.negSucc 615)], .agg #[.bool false, .string ⟨#[1]⟩, .int .i64 (.negSucc 0)]], [.int .i64 (.negSucc 0), .int .i64 (.ofNat 0)]⟩
theorem refTA4_r15 : runsTo [] refTA4_e15 = true := by decide +kernel
def refTA4_e16 : En := ⟨131, [.agg #[.bool false, .string ⟨#[2, 112, 255, 255, 255, 255, 255, 206, 0, 0, 0, 0, 0, 1]⟩, .int .i64 (.negSucc 359)], .agg #[.bool false, .string ⟨#[1]⟩, .int .i64 (.negSucc 0)]], [.int .i64 (.negSucc 0), .int .i64 (.ofNat 0)]⟩
theorem refTA4_r16 : runsTo [] refTA4_e16 = true := by decide +kernel
def refTA4_e17 : En := ⟨131, [.agg #[.bool false, .string ⟨#[2, 88, 63, 255, 255, 255, 255, 207, 0, 0, 0, 0, 0, 1]⟩, .int .i64 (.negSucc 231)], .agg #[.bool false, .string ⟨#[1]⟩, .int .i64 (.negSucc 0)]], [.int .i64 (.negSucc 0), .int .i64 (.ofNat 0)]⟩
theorem refTA4_r17 : runsTo [] refTA4_e17 = true := by decide +kernel
def refTA4_e18 : En := ⟨131, [.agg #[.bool false, .string ⟨#[2, 76, 15, 255, 255, 255, 255, 207, 128, 0, 0, 0, 0, 1]⟩, .int .i64 (.negSucc 167)], .agg #[.bool false, .string ⟨#[1]⟩, .int .i64 (.negSucc 0)]], [.int .i64 (.negSucc 0), .int .i64 (.ofNat 0)]⟩
theorem refTA4_r18 : runsTo [] refTA4_e18 = true := by decide +kernel
def refTA4_e19 : En := ⟨131, [.agg #[.bool false, .string ⟨#[2, 70, 3, 255, 255, 255, 255, 207, 192, 0, 0, 0, 0, 1]⟩, .int .i64 (.negSucc 135)], .agg #[.bool false, .string ⟨#[1]⟩, .int .i64 (.negSucc 0)]], [.int .i64 (.negSucc 0), .int .i64 (.ofNat 0)]⟩
theorem refTA4_r19 : runsTo [] refTA4_e19 = true := by decide +kernel
def refTA4_e20 : En := ⟨131, [.agg #[.bool false, .string ⟨#[2, 67, 0, 255, 255, 255, 255, 207, 224, 0, 0, 0, 0, 1]⟩, .int .i64 (.negSucc 119)], .agg #[.bool false, .string ⟨#[1]⟩, .int .i64 (.negSucc 0)]], [.int .i64 (.negSucc 0), .int .i64 (.ofNat 0)]⟩
theorem refTA4_r20 : runsTo [] refTA4_e20 = true := by decide +kernel
def refTA4_e21 : En := ⟨131, [.agg #[.bool false, .string ⟨#[2, 65, 128, 63, 255, 255, 255, 207, 240, 0, 0, 0, 0, 1]⟩, .int .i64 (.negSucc 111)], .agg #[.bool false, .string ⟨#[1]⟩, .int .i64 (.negSucc 0)]], [.int .i64 (.negSucc 0), .int .i64 (.ofNat 0)]⟩
theorem refTA4_r21 : runsTo [] refTA4_e21 = true := by decide +kernel
def refTA4_e22 : En := ⟨131, [.agg #[.bool false, .string ⟨#[2, 64, 192, 15, 255, 255, 255, 207, 248, 0, 0, 0, 0, 1]⟩, .int .i64 (.negSucc 107)], .agg #[.bool false, .string ⟨#[1]⟩, .int .i64 (.negSucc 0)]], [.int .i64 (.negSucc 0), .int .i64 (.ofNat 0)]⟩
theorem refTA4_r22 : runsTo [] refTA4_e22 = true := by decide +kernel
def refTA4_e23 : En := ⟨131, [.agg #[.bool false, .string ⟨#[2, 64, 96, 3, 255, 255, 255, 207, 252, 0, 0, 0, 0, 1]⟩, .int .i64 (.negSucc 105)], .agg #[.bool false, .string ⟨#[1]⟩, .int .i64 (.negSucc 0)]], [.int .i64 (.ofNat 1), .int .i64 (.ofNat 0)]⟩
theorem refTA4_r23 : runsTo [] refTA4_e23 = true := by decide +kernel
def refTA4_e24 : En := ⟨182, [.float .f64 4602682117707530239], [.agg #[.bool false, .string ⟨#[16, 2, 255, 255, 255, 255, 255]⟩, .int .i64 (.negSucc 52)], .int .i64 (.ofNat 0)]⟩
theorem refTA4_r24 : runsTo [] refTA4_e24 = true := by decide +kernel
def refTA4_e25 : En := ⟨196, [.agg #[.bool false, .string ⟨#[16, 2, 255, 255, 255, 255, 255]⟩, .int .i64 (.negSucc 52)], .agg #[.bool false, .string ⟨#[16, 2, 255, 255, 255, 255, 255]⟩, .int .i64 (.negSucc 52)]], [.agg #[.bool false, .string ⟨#[1, 0, 96, 8, 255, 255, 255, 223, 250, 0, 0, 0, 0, 1]⟩, .int .i64 (.negSucc 105)], .int .i64 (.ofNat 0)]⟩
theorem refTA4_r25 : runsTo [] refTA4_e25 = true := by decide +kernel
def refTA4_e26 : En := ⟨131, [.agg #[.bool false, .string ⟨#[1, 0, 96, 8, 255, 255, 255, 223, 250, 0, 0, 0, 0, 1]⟩, .int .i64 (.negSucc 105)], .agg #[.bool false, .string ⟨#[1]⟩, .int .i64 (.negSucc 0)]], [.int .i64 (.negSucc 0), .int .i64 (.ofNat 0)]⟩
theorem refTA4_r26 : runsTo [] refTA4_e26 = true := by decide +kernel
def refTA4_e27 : En := ⟨182, [.float .f64 4603807467858558975], [.agg #[.bool false, .string ⟨#[20, 2, 127, 255, 255, 255, 255]⟩, .int .i64 (.negSucc 52)], .int .i64 (.ofNat 0)]⟩
theorem refTA4_r27 : runsTo [] refTA4_e27 = true := by decide +kernel
def refTA4_e28 : En := ⟨196, [.agg #[.bool false, .string ⟨#[20, 2, 127, 255, 255, 255, 255]⟩, .int .i64 (.negSucc 52)], .agg #[.bool false, .string ⟨#[20, 2, 127, 255, 255, 255, 255]⟩, .int .i64 (.negSucc 52)]], [.agg #[.bool false, .string ⟨#[1, 144, 100, 6, 63, 255, 255, 215, 251, 0, 0, 0, 0, 1]⟩, .int .i64 (.negSucc 105)], .int .i64 (.ofNat 0)]⟩
theorem refTA4_r28 : runsTo [] refTA4_e28 = true := by decide +kernel
def refTA4_e29 : En := ⟨131, [.agg #[.bool false, .string ⟨#[1, 144, 100, 6, 63, 255, 255, 215, 251, 0, 0, 0, 0, 1]⟩, .int .i64 (.negSucc 105)], .agg #[.bool false, .string ⟨#[1]⟩, .int .i64 (.negSucc 0)]], [.int .i64 (.negSucc 0), .int .i64 (.ofNat 0)]⟩
theorem refTA4_r29 : runsTo [] refTA4_e29 = true := by decide +kernel
def refTA4_e30 : En := ⟨182, [.float .f64 4604370142934073343], [.agg #[.bool false, .string ⟨#[22, 2, 63, 255, 255, 255, 255]⟩, .int .i64 (.negSucc 52)], .int .i64 (.ofNat 0)]⟩
theorem refTA4_r30 : runsTo [] refTA4_e30 = true := by decide +kernel
def refTA4_e31 : En := ⟨196, [.agg #[.bool false, .string ⟨#[22, 2, 63, 255, 255, 255, 255]⟩, .int .i64 (.negSucc 52)], .agg #[.bool false, .string ⟨#[22, 2, 63, 255, 255, 255, 255]⟩, .int .i64 (.negSucc 52)]], [.agg #[.bool false, .string ⟨#[1, 228, 99, 5, 15, 255, 255, 211, 251, 128, 0, 0, 0, 1]⟩, .int .i64 (.negSucc 105)], .int .i64 (.ofNat 0)]⟩
theorem refTA4_r31 : runsTo [] refTA4_e31 = true := by decide +kernel
def refTA4_e32 : En := ⟨131, [.agg #[.bool false, .string ⟨#[1, 228, 99, 5, 15, 255, 255, 211, 251, 128, 0, 0, 0, 1]⟩, .int .i64 (.negSucc 105)], .agg #[.bool false, .string ⟨#[1]⟩, .int .i64 (.negSucc 0)]], [.int .i64 (.negSucc 0), .int .i64 (.ofNat 0)]⟩
theorem refTA4_r32 : runsTo [] refTA4_e32 = true := by decide +kernel
def refTA4_e33 : En := ⟨182, [.float .f64 4604651480471830527], [.agg #[.bool false, .string ⟨#[23, 2, 31, 255, 255, 255, 255]⟩, .int .i64 (.negSucc 52)], .int .i64 (.ofNat 0)]⟩
theorem refTA4_r33 : runsTo [] refTA4_e33 = true := by decide +kernel
def refTA4_e34 : En := ⟨196, [.agg #[.bool false, .string ⟨#[23, 2, 31, 255, 255, 255, 255]⟩, .int .i64 (.negSucc 52)], .agg #[.bool false, .string ⟨#[23, 2, 31, 255, 255, 255, 255]⟩, .int .i64 (.negSucc 52)]], [.agg #[.bool false, .string ⟨#[2, 17, 97, 196, 131, 255, 255, 209, 251, 192, 0, 0, 0, 1]⟩, .int .i64 (.negSucc 105)], .int .i64 (.ofNat 0)]⟩
theorem refTA4_r34 : runsTo [] refTA4_e34 = true := by decide +kernel
def refTA4_e35 : En := ⟨131, [.agg #[.bool false, .string ⟨#[2, 17, 97, 196, 131, 255, 255, 209, 251, 192, 0, 0, 0, 1]⟩, .int .i64 (.negSucc 105)], .agg #[.bool false, .string ⟨#[1]⟩, .int .i64 (.negSucc 0)]], [.int .i64 (.ofNat 1), .int .i64 (.ofNat 0)]⟩
theorem refTA4_r35 : runsTo [] refTA4_e35 = true := by decide +kernel
def refTA4_e36 : En := ⟨182, [.float .f64 4604510811702951935], [.agg #[.bool false, .string ⟨#[22, 130, 47, 255, 255, 255, 255]⟩, .int .i64 (.negSucc 52)], .int .i64 (.ofNat 0)]⟩
theorem refTA4_r36 : runsTo [] refTA4_e36 = true := by decide +kernel
def refTA4_e37 : En := ⟨196, [.agg #[.bool false, .string ⟨#[22, 130, 47, 255, 255, 255, 255]⟩, .int .i64 (.negSucc 52)], .agg #[.bool false, .string ⟨#[22, 130, 47, 255, 255, 255, 255]⟩, .int .i64 (.negSucc 52)]], [.agg #[.bool false, .string ⟨#[1, 250, 162, 116, 200, 255, 255, 210, 251, 160, 0, 0, 0, 1]⟩, .int .i64 (.negSucc 105)], .int .i64 (.ofNat 0)]⟩
theorem refTA4_r37 : runsTo [] refTA4_e37 = true := by decide +kernel
def refTA4_e38 : En := ⟨131, [.agg #[.bool false, .string ⟨#[1, 250, 162, 116, 200, 255, 255, 210, 251, 160, 0, 0, 0, 1]⟩, .int .i64 (.negSucc 105)], .agg #[.bool false, .string ⟨#[1]⟩, .int .i64 (.negSucc 0)]], [.int .i64 (.negSucc 0), .int .i64 (.ofNat 0)]⟩
theorem refTA4_r38 : runsTo [] refTA4_e38 = true := by decide +kernel
def refTA4_e39 : En := ⟨182, [.float .f64 4604581146087391231], [.agg #[.bool false, .string ⟨#[22, 194, 39, 255, 255, 255, 255]⟩, .int .i64 (.negSucc 52)], .int .i64 (.ofNat 0)]⟩
theorem refTA4_r39 : runsTo [] refTA4_e39 = true := by decide +kernel
def refTA4_e40 : En := ⟨196, [.agg #[.bool false, .string ⟨#[22, 194, 39, 255, 255, 255, 255]⟩, .int .i64 (.negSucc 52)], .agg #[.bool false, .string ⟨#[22, 194, 39, 255, 255, 255, 255]⟩, .int .i64 (.negSucc 52)]], [.agg #[.bool false, .string ⟨#[2, 5, 242, 32, 166, 63, 255, 210, 123, 176, 0, 0, 0, 1]⟩, .int .i64 (.negSucc 105)], .int .i64 (.ofNat 0)]⟩
theorem refTA4_r40 : runsTo [] refTA4_e40 = true := by decide +kernel
def refTA4_e41 : En := ⟨131, [.agg #[.bool false, .string ⟨#[2, 5, 242, 32, 166, 63, 255, 210, 123, 176, 0, 0, 0, 1]⟩, .int .i64 (.negSucc 105)], .agg #[.bool false, .string ⟨#[1]⟩, .int .i64 (.negSucc 0)]], [.int .i64 (.ofNat 1), .int .i64 (.ofNat 0)]⟩
theorem refTA4_r41 : runsTo [] refTA4_e41 = true := by decide +kernel
def refTA4_e42 : En := ⟨182, [.float .f64 4604545978895171583], [.agg #[.bool false, .string ⟨#[22, 162, 43, 255, 255, 255, 255]⟩, .int .i64 (.negSucc 52)], .int .i64 (.ofNat 0)]⟩
theorem refTA4_r42 : runsTo [] refTA4_e42 = true := by decide +kernel
def refTA4_e43 : En := ⟨196, [.agg #[.bool false, .string ⟨#[22, 162, 43, 255, 255, 255, 255]⟩, .int .i64 (.negSucc 52)], .agg #[.bool false, .string ⟨#[22, 162, 43, 255, 255, 255, 255]⟩, .int .i64 (.negSucc 52)]], [.agg #[.bool false, .string ⟨#[2, 0, 70, 75, 183, 143, 255, 210, 187, 168, 0, 0, 0, 1]⟩, .int .i64 (.negSucc 105)], .int .i64 (.ofNat 0)]⟩
theorem refTA4_r43 : runsTo [] refTA4_e43 = true := by decide +kernel
def refTA4_e44 : En := ⟨131, [.agg #[.bool false, .string ⟨#[2, 0, 70, 75, 183, 143, 255, 210, 187, 168, 0, 0, 0, 1]⟩, .int .i64 (.negSucc 105)], .agg #[.bool false, .string ⟨#[1]⟩, .int .i64 (.negSucc 0)]], [.int .i64 (.ofNat 1), .int .i64 (.ofNat 0)]⟩
theorem refTA4_r44 : runsTo [] refTA4_e44 = true := by decide +kernel
def refTA4_e45 : En := ⟨182, [.float .f64 4604528395299061759], [.agg #[.bool false, .string ⟨#[22, 146, 45, 255, 255, 255, 255]⟩, .int .i64 (.negSucc 52)], .int .i64 (.ofNat 0)]⟩
theorem refTA4_r45 : runsTo [] refTA4_e45 = true := by decide +kernel
def refTA4_e46 : En := ⟨196, [.agg #[.bool false, .string ⟨#[22, 146, 45, 255, 255, 255, 255]⟩, .int .i64 (.negSucc 52)], .agg #[.bool false, .string ⟨#[22, 146, 45, 255, 255, 255, 255]⟩, .int .i64 (.negSucc 52)]], [.agg #[.bool false, .string ⟨#[1, 253, 115, 96, 128, 67, 255, 210, 219, 164, 0, 0, 0, 1]⟩, .int .i64 (.negSucc 105)], .int .i64 (.ofNat 0)]⟩
theorem refTA4_r46 : runsTo [] refTA4_e46 = true := by decide +kernel
def refTA4_e47 : En := ⟨131, [.agg #[.bool false, .string ⟨#[1, 253, 115, 96, 128, 67, 255, 210, 219, 164, 0, 0, 0, 1]⟩, .int .i64 (.negSucc 105)], .agg #[.bool false, .string ⟨#[1]⟩, .int .i64 (.negSucc 0)]], [.int .i64 (.negSucc 0), .int .i64 (.ofNat 0)]⟩
theorem refTA4_r47 : runsTo [] refTA4_e47 = true := by decide +kernel
def refTA4_e48 : En := ⟨182, [.float .f64 4604537187097116671], [.agg #[.bool false, .string ⟨#[22, 154, 44, 255, 255, 255, 255]⟩, .int .i64 (.negSucc 52)], .int .i64 (.ofNat 0)]⟩
theorem refTA4_r48 : runsTo [] refTA4_e48 = true := by decide +kernel
def refTA4_e49 : En := ⟨196, [.agg #[.bool false, .string ⟨#[22, 154, 44, 255, 255, 255, 255]⟩, .int .i64 (.negSucc 52)], .agg #[.bool false, .string ⟨#[22, 154, 44, 255, 255, 255, 255]⟩, .int .i64 (.negSucc 52)]], [.agg #[.bool false, .string ⟨#[1, 254, 220, 150, 43, 232, 255, 210, 203, 166, 0, 0, 0, 1]⟩, .int .i64 (.negSucc 105)], .int .i64 (.ofNat 0)]⟩
theorem refTA4_r49 : runsTo [] refTA4_e49 = true := by decide +kernel
def refTA4_e50 : En := ⟨131, [.agg #[.bool false, .string ⟨#[1, 254, 220, 150, 43, 232, 255, 210, 203, 166, 0, 0, 0, 1]⟩, .int .i64 (.negSucc 105)], .agg #[.bool false, .string ⟨#[1]⟩, .int .i64 (.negSucc 0)]], [.int .i64 (.negSucc 0), .int .i64 (.ofNat 0)]⟩
theorem refTA4_r50 : runsTo [] refTA4_e50 = true := by decide +kernel
def refTA4_e51 : En := ⟨182, [.float .f64 4604541582996144127], [.agg #[.bool false, .string ⟨#[22, 158, 44, 127, 255, 255, 255]⟩, .int .i64 (.negSucc 52)], .int .i64 (.ofNat 0)]⟩
theorem refTA4_r51 : runsTo [] refTA4_e51 = true := by decide +kernel
def refTA4 : List En := [refTA4_e0, refTA4_e1, refTA4_e2, refTA4_e3, refTA4_e4, refTA4_e5, refTA4_e6, refTA4_e7, refTA4_e8, refTA4_e9, refTA4_e10, refTA4_e11, refTA4_e12, refTA4_e13, refTA4_e14, refTA4_e15, refTA4_e16, refTA4_e17, refTA4_e18, refTA4_e19, refTA4_e20, refTA4_e21, refTA4_e22, refTA4_e23, refTA4_e24, refTA4_e25, refTA4_e26, refTA4_e27, refTA4_e28, refTA4_e29, refTA4_e30, refTA4_e31, refTA4_e32, refTA4_e33, refTA4_e34, refTA4_e35, refTA4_e36, refTA4_e37, refTA4_e38, refTA4_e39, refTA4_e40, refTA4_e41, refTA4_e42, refTA4_e43, refTA4_e44, refTA4_e45, refTA4_e46, refTA4_e47, refTA4_e48, refTA4_e49, refTA4_e50, refTA4_e51]
theorem refTA4_ok : ∀ e ∈ refTA4, EnOK e := all_cons (runsTo_ok all_nil refTA4_r0) <| all_cons (runsTo_ok all_nil refTA4_r1) <| all_cons (runsTo_ok all_nil refTA4_r2) <| all_cons (runsTo_ok all_nil refTA4_r3) <| all_cons (runsTo_ok all_nil refTA4_r4) <| all_cons (runsTo_ok all_nil refTA4_r5) <| all_cons (runsTo_ok all_nil refTA4_r6) <| all_cons (runsTo_ok all_nil refTA4_r7) <| all_cons (runsTo_ok all_nil refTA4_r8) <| all_cons (runsTo_ok all_nil refTA4_r9) <| all_cons (runsTo_ok all_nil refTA4_r10) <| all_cons (runsTo_ok all_nil refTA4_r11) <| all_cons (runsTo_ok all_nil refTA4_r12) <| all_cons (runsTo_ok all_nil refTA4_r13) <| all_cons (runsTo_ok all_nil refTA4_r14) <| all_cons (runsTo_ok all_nil refTA4_r15) <| all_cons (runsTo_ok all_nil refTA4_r16) <| all_cons (runsTo_ok all_nil refTA4_r17) <| all_cons (runsTo_ok all_nil refTA4_r18) <| all_cons (runsTo_ok all_nil refTA4_r19) <| all_cons (runsTo_ok all_nil refTA4_r20) <| all_cons (runsTo_ok all_nil refTA4_r21) <| all_cons (runsTo_ok all_nil refTA4_r22) <| all_cons (runsTo_ok all_nil refTA4_r23) <| all_cons (runsTo_ok all_nil refTA4_r24) <| all_cons (runsTo_ok all_nil refTA4_r25) <| all_cons (runsTo_ok all_nil refTA4_r26) <| all_cons (runsTo_ok all_nil refTA4_r27) <| all_cons (runsTo_ok all_nil refTA4_r28) <| all_cons (runsTo_ok all_nil refTA4_r29) <| all_cons (runsTo_ok all_nil refTA4_r30) <| all_cons (runsTo_ok all_nil refTA4_r31) <| all_cons (runsTo_ok all_nil refTA4_r32) <| all_cons (runsTo_ok all_nil refTA4_r33) <| all_cons (runsTo_ok all_nil refTA4_r34) <| all_cons (runsTo_ok all_nil refTA4_r35) <| all_cons (runsTo_ok all_nil refTA4_r36) <| all_cons (runsTo_ok all_nil refTA4_r37) <| all_cons (runsTo_ok all_nil refTA4_r38) <| all_cons (runsTo_ok all_nil refTA4_r39) <| all_cons (runsTo_ok all_nil refTA4_r40) <| all_cons (runsTo_ok all_nil refTA4_r41) <| all_cons (runsTo_ok all_nil refTA4_r42) <| all_cons (runsTo_ok all_nil refTA4_r43) <| all_cons (runsTo_ok all_nil refTA4_r44) <| all_cons (runsTo_ok all_nil refTA4_r45) <| all_cons (runsTo_ok all_nil refTA4_r46) <| all_cons (runsTo_ok all_nil refTA4_r47) <| all_cons (runsTo_ok all_nil refTA4_r48) <| all_cons (runsTo_ok all_nil refTA4_r49) <| all_cons (runsTo_ok all_nil refTA4_r50) <| all_cons (runsTo_ok all_nil refTA4_r51) <|  all_nil
end Go.Proofs.YtneakieigiafpaaGreatDoor
