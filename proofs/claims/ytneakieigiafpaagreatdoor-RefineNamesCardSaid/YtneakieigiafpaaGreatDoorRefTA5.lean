/- Calls behind view.Cover of some squares (part 6): each is run by the kernel. -/
import Derived.Test.YtneakieigiafpaaGreatDoorExR
namespace Go.Proofs.YtneakieigiafpaaGreatDoor
open Go.Ex
set_option maxRecDepth 100000
def refTA5_e0 : En := ⟨196, [.agg #[.bool false, .string ⟨#[22, 158, 44, 127, 255, 255, 255]⟩, .int .i64 (.negSucc 52)], .agg #[.bool false, .string ⟨#[22, 158, 44, 127, 255, 255, 255]⟩, .int .i64 (.negSucc 52)]], [.agg #[.bool false, .string ⟨#[1, 255, 145, 96, 245, 188, 63, 210, 195, 167, 0, 0, 0, 1]⟩, .int .i64 (.negSucc 105)], .int .i64 (.ofNat 0)]⟩
theorem refTA5_r0 : runsTo [] refTA5_e0 = true := by decide +kernel
def refTA5_e1 : En := ⟨131, [.agg #[.bool false, .string ⟨#[1, 255, 145, 96, 245, 188, 63, 210, 195, 167, 0, 0, 0, 1]⟩, .int .i64 (.negSucc 105)], .agg #[.bool false, .string ⟨#[1]⟩, .int .i64 (.negSucc 0)]], [.int .i64 (.negSucc 0), .int .i64 (.ofNat 0)]⟩
theorem refTA5_r1 : runsTo [] refTA5_e1 = true := by decide +kernel
def refTA5_e2 : En := ⟨182, [.float .f64 4604543780945657855], [.agg #[.bool false, .string ⟨#[22, 160, 44, 63, 255, 255, 255]⟩, .int .i64 (.negSucc 52)], .int .i64 (.ofNat 0)]⟩
theorem refTA5_r2 : runsTo [] refTA5_e2 = true := by decide +kernel
def refTA5_e3 : En := ⟨196, [.agg #[.bool false, .string ⟨#[22, 160, 44, 63, 255, 255, 255]⟩, .int .i64 (.negSucc 52)], .agg #[.bool false, .string ⟨#[22, 160, 44, 63, 255, 255, 255]⟩, .int .i64 (.negSucc 52)]], [.agg #[.bool false, .string ⟨#[1, 255, 235, 210, 87, 166, 15, 210, 191, 167, 128, 0, 0, 1]⟩, .int .i64 (.negSucc 105)], .int .i64 (.ofNat 0)]⟩
theorem refTA5_r3 : runsTo [] refTA5_e3 = true := by decide +kernel
def refTA5_e4 : En := ⟨131, [.agg #[.bool false, .string ⟨#[1, 255, 235, 210, 87, 166, 15, 210, 191, 167, 128, 0, 0, 1]⟩, .int .i64 (.negSucc 105)], .agg #[.bool false, .string ⟨#[1]⟩, .int .i64 (.negSucc 0)]], [.int .i64 (.negSucc 0), .int .i64 (.ofNat 0)]⟩
theorem refTA5_r4 : runsTo [] refTA5_e4 = true := by decide +kernel
def refTA5_e5 : En := ⟨182, [.float .f64 4604544879920414719], [.agg #[.bool false, .string ⟨#[22, 161, 44, 31, 255, 255, 255]⟩, .int .i64 (.negSucc 52)], .int .i64 (.ofNat 0)]⟩
theorem refTA5_r5 : runsTo [] refTA5_e5 = true := by decide +kernel
def refTA5_e6 : En := ⟨196, [.agg #[.bool false, .string ⟨#[22, 161, 44, 31, 255, 255, 255]⟩, .int .i64 (.negSucc 52)], .agg #[.bool false, .string ⟨#[22, 161, 44, 31, 255, 255, 255]⟩, .int .i64 (.negSucc 52)]], [.agg #[.bool false, .string ⟨#[2, 0, 25, 14, 7, 219, 3, 210, 189, 167, 192, 0, 0, 1]⟩, .int .i64 (.negSucc 105)], .int .i64 (.ofNat 0)]⟩
theorem refTA5_r6 : runsTo [] refTA5_e6 = true := by decide +kernel
def refTA5_e7 : En := ⟨131, [.agg #[.bool false, .string ⟨#[2, 0, 25, 14, 7, 219, 3, 210, 189, 167, 192, 0, 0, 1]⟩, .int .i64 (.negSucc 105)], .agg #[.bool false, .string ⟨#[1]⟩, .int .i64 (.negSucc 0)]], [.int .i64 (.ofNat 1), .int .i64 (.ofNat 0)]⟩
theorem refTA5_r7 : runsTo [] refTA5_e7 = true := by decide +kernel
def refTA5_e8 : En := ⟨182, [.float .f64 4604544330433036287], [.agg #[.bool false, .string ⟨#[22, 160, 172, 47, 255, 255, 255]⟩, .int .i64 (.negSucc 52)], .int .i64 (.ofNat 0)]⟩
theorem refTA5_r8 : runsTo [] refTA5_e8 = true := by decide +kernel
def refTA5_e9 : En := ⟨196, [.agg #[.bool false, .string ⟨#[22, 160, 172, 47, 255, 255, 255]⟩, .int .i64 (.negSucc 52)], .agg #[.bool false, .string ⟨#[22, 160, 172, 47, 255, 255, 255]⟩, .int .i64 (.negSucc 52)]], [.agg #[.bool false, .string ⟨#[2, 0, 2, 111, 239, 208, 136, 210, 190, 167, 160, 0, 0, 1]⟩, .int .i64 (.negSucc 105)], .int .i64 (.ofNat 0)]⟩
theorem refTA5_r9 : runsTo [] refTA5_e9 = true := by decide +kernel
def refTA5_e10 : En := ⟨131, [.agg #[.bool false, .string ⟨#[2, 0, 2, 111, 239, 208, 136, 210, 190, 167, 160, 0, 0, 1]⟩, .int .i64 (.negSucc 105)], .agg #[.bool false, .string ⟨#[1]⟩, .int .i64 (.negSucc 0)]], [.int .i64 (.ofNat 1), .int .i64 (.ofNat 0)]⟩
theorem refTA5_r10 : runsTo [] refTA5_e10 = true := by decide +kernel
def refTA5_e11 : En := ⟨182, [.float .f64 4604544055689347071], [.agg #[.bool false, .string ⟨#[22, 160, 108, 55, 255, 255, 255]⟩, .int .i64 (.negSucc 52)], .int .i64 (.ofNat 0)]⟩
theorem refTA5_r11 : runsTo [] refTA5_e11 = true := by decide +kernel
def refTA5_e12 : En := ⟨196, [.agg #[.bool false, .string ⟨#[22, 160, 108, 55, 255, 255, 255]⟩, .int .i64 (.negSucc 52)], .agg #[.bool false, .string ⟨#[22, 160, 108, 55, 255, 255, 255]⟩, .int .i64 (.negSucc 52)]], [.agg #[.bool false, .string ⟨#[1, 255, 247, 33, 19, 191, 76, 18, 191, 39, 144, 0, 0, 1]⟩, .int .i64 (.negSucc 105)], .int .i64 (.ofNat 0)]⟩
theorem refTA5_r12 : runsTo [] refTA5_e12 = true := by decide +kernel
def refTA5_e13 : En := ⟨131, [.agg #[.bool false, .string ⟨#[1, 255, 247, 33, 19, 191, 76, 18, 191, 39, 144, 0, 0, 1]⟩, .int .i64 (.negSucc 105)], .agg #[.bool false, .string ⟨#[1]⟩, .int .i64 (.negSucc 0)]], [.int .i64 (.negSucc 0), .int .i64 (.ofNat 0)]⟩
theorem refTA5_r13 : runsTo [] refTA5_e13 = true := by decide +kernel
def refTA5_e14 : En := ⟨182, [.float .f64 4604544193061191679], [.agg #[.bool false, .string ⟨#[22, 160, 140, 51, 255, 255, 255]⟩, .int .i64 (.negSucc 52)], .int .i64 (.ofNat 0)]⟩
theorem refTA5_r14 : runsTo [] refTA5_e14 = true := by decide +kernel
def refTA5_e15 : En := ⟨196, [.agg #[.bool false, .string ⟨#[22, 160, 140, 51, 255, 255, 255]⟩, .int .i64 (.negSucc 52)], .agg #[.bool false, .string ⟨#[22, 160, 140, 51, 255, 255, 255]⟩, .int .i64 (.negSucc 52)]], [.agg #[.bool false, .string ⟨#[1, 255, 252, 200, 125, 200, 234, 98, 190, 231, 152, 0, 0, 1]⟩, .int .i64 (.negSucc 105)], .int .i64 (.ofNat 0)]⟩
theorem refTA5_r15 : runsTo [] refTA5_e15 = true := by decide +kernel
def refTA5_e16 : En := ⟨131, [.agg #[.bool false, .string ⟨#[1, 255, 252, 200, 125, 200, 234, 98, 190, 231, 152, 0, 0, 1]⟩, .int .i64 (.negSucc 105)], .agg #[.bool false, .string ⟨#[1]⟩, .int .i64 (.negSucc 0)]], [.int .i64 (.negSucc 0), .int .i64 (.ofNat 0)]⟩
theorem refTA5_r16 : runsTo [] refTA5_e16 = true := by decide +kernel
def refTA5_e17 : En := ⟨182, [.float .f64 4604544261747113983], [.agg #[.bool false, .string ⟨#[22, 160, 156, 49, 255, 255, 255]⟩, .int .i64 (.negSucc 52)], .int .i64 (.ofNat 0)]⟩
theorem refTA5_r17 : runsTo [] refTA5_e17 = true := by decide +kernel
def refTA5_e18 : En := ⟨196, [.agg #[.bool false, .string ⟨#[22, 160, 156, 49, 255, 255, 255]⟩, .int .i64 (.negSucc 52)], .agg #[.bool false, .string ⟨#[22, 160, 156, 49, 255, 255, 255]⟩, .int .i64 (.negSucc 52)]], [.agg #[.bool false, .string ⟨#[1, 255, 255, 156, 53, 204, 249, 150, 190, 199, 156, 0, 0, 1]⟩, .int .i64 (.negSucc 105)], .int .i64 (.ofNat 0)]⟩
theorem refTA5_r18 : runsTo [] refTA5_e18 = true := by decide +kernel
def refTA5_e19 : En := ⟨131, [.agg #[.bool false, .string ⟨#[1, 255, 255, 156, 53, 204, 249, 150, 190, 199, 156, 0, 0, 1]⟩, .int .i64 (.negSucc 105)], .agg #[.bool false, .string ⟨#[1]⟩, .int .i64 (.negSucc 0)]], [.int .i64 (.negSucc 0), .int .i64 (.ofNat 0)]⟩
theorem refTA5_r19 : runsTo [] refTA5_e19 = true := by decide +kernel
def refTA5_e20 : En := ⟨182, [.float .f64 4604544296090075135], [.agg #[.bool false, .string ⟨#[22, 160, 164, 48, 255, 255, 255]⟩, .int .i64 (.negSucc 52)], .int .i64 (.ofNat 0)]⟩
theorem refTA5_r20 : runsTo [] refTA5_e20 = true := by decide +kernel
def refTA5_e21 : En := ⟨196, [.agg #[.bool false, .string ⟨#[22, 160, 164, 48, 255, 255, 255]⟩, .int .i64 (.negSucc 52)], .agg #[.bool false, .string ⟨#[22, 160, 164, 48, 255, 255, 255]⟩, .int .i64 (.negSucc 52)]], [.agg #[.bool false, .string ⟨#[2, 0, 1, 6, 18, 142, 209, 51, 190, 183, 158, 0, 0, 1]⟩, .int .i64 (.negSucc 105)], .int .i64 (.ofNat 0)]⟩
theorem refTA5_r21 : runsTo [] refTA5_e21 = true := by decide +kernel
def refTA5_e22 : En := ⟨131, [.agg #[.bool false, .string ⟨#[2, 0, 1, 6, 18, 142, 209, 51, 190, 183, 158, 0, 0, 1]⟩, .int .i64 (.negSucc 105)], .agg #[.bool false, .string ⟨#[1]⟩, .int .i64 (.negSucc 0)]], [.int .i64 (.ofNat 1), .int .i64 (.ofNat 0)]⟩
theorem refTA5_r22 : runsTo [] refTA5_e22 = true := by decide +kernel
def refTA5_e23 : En := ⟨182, [.float .f64 4604544278918594559], [.agg #[.bool false, .string ⟨#[22, 160, 160, 49, 127, 255, 255]⟩, .int .i64 (.negSucc 52)], .int .i64 (.ofNat 0)]⟩
theorem refTA5_r23 : runsTo [] refTA5_e23 = true := by decide +kernel
def refTA5_e24 : En := ⟨196, [.agg #[.bool false, .string ⟨#[22, 160, 160, 49, 127, 255, 255]⟩, .int .i64 (.negSucc 52)], .agg #[.bool false, .string ⟨#[22, 160, 160, 49, 127, 255, 255]⟩, .int .i64 (.negSucc 52)]], [.agg #[.bool false, .string ⟨#[2, 0, 0, 81, 36, 29, 233, 100, 254, 191, 157, 0, 0, 1]⟩, .int .i64 (.negSucc 105)], .int .i64 (.ofNat 0)]⟩
theorem refTA5_r24 : runsTo [] refTA5_e24 = true := by decide +kernel
def refTA5_e25 : En := ⟨131, [.agg #[.bool false, .string ⟨#[2, 0, 0, 81, 36, 29, 233, 100, 254, 191, 157, 0, 0, 1]⟩, .int .i64 (.negSucc 105)], .agg #[.bool false, .string ⟨#[1]⟩, .int .i64 (.negSucc 0)]], [.int .i64 (.ofNat 1), .int .i64 (.ofNat 0)]⟩
theorem refTA5_r25 : runsTo [] refTA5_e25 = true := by decide +kernel
def refTA5_e26 : En := ⟨182, [.float .f64 4604544270332854271], [.agg #[.bool false, .string ⟨#[22, 160, 158, 49, 191, 255, 255]⟩, .int .i64 (.negSucc 52)], .int .i64 (.ofNat 0)]⟩
theorem refTA5_r26 : runsTo [] refTA5_e26 = true := by decide +kernel
def refTA5_e27 : En := ⟨196, [.agg #[.bool false, .string ⟨#[22, 160, 158, 49, 191, 255, 255]⟩, .int .i64 (.negSucc 52)], .agg #[.bool false, .string ⟨#[22, 160, 158, 49, 191, 255, 255]⟩, .int .i64 (.negSucc 52)]], [.agg #[.bool false, .string ⟨#[1, 255, 255, 246, 172, 241, 114, 125, 206, 195, 156, 128, 0, 1]⟩, .int .i64 (.negSucc 105)], .int .i64 (.ofNat 0)]⟩
theorem refTA5_r27 : runsTo [] refTA5_e27 = true := by decide +kernel
def refTA5_e28 : En := ⟨131, [.agg #[.bool false, .string ⟨#[1, 255, 255, 246, 172, 241, 114, 125, 206, 195, 156, 128, 0, 1]⟩, .int .i64 (.negSucc 105)], .agg #[.bool false, .string ⟨#[1]⟩, .int .i64 (.negSucc 0)]], [.int .i64 (.negSucc 0), .int .i64 (.ofNat 0)]⟩
theorem refTA5_r28 : runsTo [] refTA5_e28 = true := by decide +kernel
def refTA5_e29 : En := ⟨182, [.float .f64 4604544274625724415], [.agg #[.bool false, .string ⟨#[22, 160, 159, 49, 159, 255, 255]⟩, .int .i64 (.negSucc 52)], .int .i64 (.ofNat 0)]⟩
theorem refTA5_r29 : runsTo [] refTA5_e29 = true := by decide +kernel
def refTA5_e30 : En := ⟨196, [.agg #[.bool false, .string ⟨#[22, 160, 159, 49, 159, 255, 255]⟩, .int .i64 (.negSucc 52)], .agg #[.bool false, .string ⟨#[22, 160, 159, 49, 159, 255, 255]⟩, .int .i64 (.negSucc 52)]], [.agg #[.bool false, .string ⟨#[2, 0, 0, 35, 232, 134, 174, 49, 98, 193, 156, 192, 0, 1]⟩, .int .i64 (.negSucc 105)], .int .i64 (.ofNat 0)]⟩
theorem refTA5_r30 : runsTo [] refTA5_e30 = true := by decide +kernel
def refTA5_e31 : En := ⟨131, [.agg #[.bool false, .string ⟨#[2, 0, 0, 35, 232, 134, 174, 49, 98, 193, 156, 192, 0, 1]⟩, .int .i64 (.negSucc 105)], .agg #[.bool false, .string ⟨#[1]⟩, .int .i64 (.negSucc 0)]], [.int .i64 (.ofNat 1), .int .i64 (.ofNat 0)]⟩
theorem refTA5_r31 : runsTo [] refTA5_e31 = true := by decide +kernel
def refTA5_e32 : En := ⟨182, [.float .f64 4604544272479289343], [.agg #[.bool false, .string ⟨#[22, 160, 158, 177, 175, 255, 255]⟩, .int .i64 (.negSucc 52)], .int .i64 (.ofNat 0)]⟩
theorem refTA5_r32 : runsTo [] refTA5_e32 = true := by decide +kernel
def refTA5_e33 : En := ⟨196, [.agg #[.bool false, .string ⟨#[22, 160, 158, 177, 175, 255, 255]⟩, .int .i64 (.negSucc 52)], .agg #[.bool false, .string ⟨#[22, 160, 158, 177, 175, 255, 255]⟩, .int .i64 (.negSucc 52)]], [.agg #[.bool false, .string ⟨#[2, 0, 0, 13, 74, 187, 208, 103, 151, 194, 156, 160, 0, 1]⟩, .int .i64 (.negSucc 105)], .int .i64 (.ofNat 0)]⟩
theorem refTA5_r33 : runsTo [] refTA5_e33 = true := by decide +kernel
def refTA5_e34 : En := ⟨131, [.agg #[.bool false, .string ⟨#[2, 0, 0, 13, 74, 187, 208, 103, 151, 194, 156, 160, 0, 1]⟩, .int .i64 (.negSucc 105)], .agg #[.bool false, .string ⟨#[1]⟩, .int .i64 (.negSucc 0)]], [.int .i64 (.ofNat 1), .int .i64 (.ofNat 0)]⟩
theorem refTA5_r34 : runsTo [] refTA5_e34 = true := by decide +kernel
def refTA5_e35 : En := ⟨182, [.float .f64 4604544271406071807], [.agg #[.bool false, .string ⟨#[22, 160, 158, 113, 183, 255, 255]⟩, .int .i64 (.negSucc 52)], .int .i64 (.ofNat 0)]⟩
theorem refTA5_r35 : runsTo [] refTA5_e35 = true := by decide +kernel
def refTA5_e36 : En := ⟨196, [.agg #[.bool false, .string ⟨#[22, 160, 158, 113, 183, 255, 255]⟩, .int .i64 (.negSucc 52)], .agg #[.bool false, .string ⟨#[22, 160, 158, 113, 183, 255, 255]⟩, .int .i64 (.negSucc 52)]], [.agg #[.bool false, .string ⟨#[2, 0, 0, 1, 251, 214, 145, 118, 179, 3, 28, 144, 0, 1]⟩, .int .i64 (.negSucc 105)], .int .i64 (.ofNat 0)]⟩
theorem refTA5_r36 : runsTo [] refTA5_e36 = true := by decide +kernel
def refTA5_e37 : En := ⟨131, [.agg #[.bool false, .string ⟨#[2, 0, 0, 1, 251, 214, 145, 118, 179, 3, 28, 144, 0, 1]⟩, .int .i64 (.negSucc 105)], .agg #[.bool false, .string ⟨#[1]⟩, .int .i64 (.negSucc 0)]], [.int .i64 (.ofNat 1), .int .i64 (.ofNat 0)]⟩
theorem refTA5_r37 : runsTo [] refTA5_e37 = true := by decide +kernel
def refTA5_e38 : En := ⟨182, [.float .f64 4604544270869463039], [.agg #[.bool false, .string ⟨#[22, 160, 158, 81, 187, 255, 255]⟩, .int .i64 (.negSucc 52)], .int .i64 (.ofNat 0)]⟩
theorem refTA5_r38 : runsTo [] refTA5_e38 = true := by decide +kernel
def refTA5_e39 : En := ⟨196, [.agg #[.bool false, .string ⟨#[22, 160, 158, 81, 187, 255, 255]⟩, .int .i64 (.negSucc 52)], .agg #[.bool false, .string ⟨#[22, 160, 158, 81, 187, 255, 255]⟩, .int .i64 (.negSucc 52)]], [.agg #[.bool false, .string ⟨#[1, 255, 255, 252, 84, 99, 253, 251, 64, 211, 92, 136, 0, 1]⟩, .int .i64 (.negSucc 105)], .int .i64 (.ofNat 0)]⟩
theorem refTA5_r39 : runsTo [] refTA5_e39 = true := by decide +kernel
def refTA5_e40 : En := ⟨131, [.agg #[.bool false, .string ⟨#[1, 255, 255, 252, 84, 99, 253, 251, 64, 211, 92, 136, 0, 1]⟩, .int .i64 (.negSucc 105)], .agg #[.bool false, .string ⟨#[1]⟩, .int .i64 (.negSucc 0)]], [.int .i64 (.negSucc 0), .int .i64 (.ofNat 0)]⟩
theorem refTA5_r40 : runsTo [] refTA5_e40 = true := by decide +kernel
def refTA5_e41 : En := ⟨182, [.float .f64 4604544271137767423], [.agg #[.bool false, .string ⟨#[22, 160, 158, 97, 185, 255, 255]⟩, .int .i64 (.negSucc 52)], .int .i64 (.ofNat 0)]⟩
theorem refTA5_r41 : runsTo [] refTA5_e41 = true := by decide +kernel
def refTA5_e42 : En := ⟨196, [.agg #[.bool false, .string ⟨#[22, 160, 158, 97, 185, 255, 255]⟩, .int .i64 (.negSucc 52)], .agg #[.bool false, .string ⟨#[22, 160, 158, 97, 185, 255, 255]⟩, .int .i64 (.negSucc 52)]], [.agg #[.bool false, .string ⟨#[1, 255, 255, 255, 40, 29, 70, 185, 57, 231, 60, 140, 0, 1]⟩, .int .i64 (.negSucc 105)], .int .i64 (.ofNat 0)]⟩
theorem refTA5_r42 : runsTo [] refTA5_e42 = true := by decide +kernel
def refTA5_e43 : En := ⟨131, [.agg #[.bool false, .string ⟨#[1, 255, 255, 255, 40, 29, 70, 185, 57, 231, 60, 140, 0, 1]⟩, .int .i64 (.negSucc 105)], .agg #[.bool false, .string ⟨#[1]⟩, .int .i64 (.negSucc 0)]], [.int .i64 (.negSucc 0), .int .i64 (.ofNat 0)]⟩
theorem refTA5_r43 : runsTo [] refTA5_e43 = true := by decide +kernel
def refTA5_e44 : En := ⟨182, [.float .f64 4604544271271919615], [.agg #[.bool false, .string ⟨#[22, 160, 158, 105, 184, 255, 255]⟩, .int .i64 (.negSucc 52)], .int .i64 (.ofNat 0)]⟩
theorem refTA5_r44 : runsTo [] refTA5_e44 = true := by decide +kernel
def refTA5_e45 : En := ⟨196, [.agg #[.bool false, .string ⟨#[22, 160, 158, 105, 184, 255, 255]⟩, .int .i64 (.negSucc 52)], .agg #[.bool false, .string ⟨#[22, 160, 158, 105, 184, 255, 255]⟩, .int .i64 (.negSucc 52)]], [.agg #[.bool false, .string ⟨#[2, 0, 0, 0, 145, 249, 235, 216, 6, 116, 44, 142, 0, 1]⟩, .int .i64 (.negSucc 105)], .int .i64 (.ofNat 0)]⟩
theorem refTA5_r45 : runsTo [] refTA5_e45 = true := by decide +kernel
def refTA5_e46 : En := ⟨131, [.agg #[.bool false, .string ⟨#[2, 0, 0, 0, 145, 249, 235, 216, 6, 116, 44, 142, 0, 1]⟩, .int .i64 (.negSucc 105)], .agg #[.bool false, .string ⟨#[1]⟩, .int .i64 (.negSucc 0)]], [.int .i64 (.ofNat 1), .int .i64 (.ofNat 0)]⟩
theorem refTA5_r46 : runsTo [] refTA5_e46 = true := by decide +kernel
def refTA5_e47 : En := ⟨182, [.float .f64 4604544271204843519], [.agg #[.bool false, .string ⟨#[22, 160, 158, 101, 185, 127, 255]⟩, .int .i64 (.negSucc 52)], .int .i64 (.ofNat 0)]⟩
theorem refTA5_r47 : runsTo [] refTA5_e47 = true := by decide +kernel
def refTA5_e48 : En := ⟨196, [.agg #[.bool false, .string ⟨#[22, 160, 158, 101, 185, 127, 255]⟩, .int .i64 (.negSucc 52)], .agg #[.bool false, .string ⟨#[22, 160, 158, 101, 185, 127, 255]⟩, .int .i64 (.negSucc 52)]], [.agg #[.bool false, .string ⟨#[1, 255, 255, 255, 221, 11, 153, 56, 164, 45, 116, 141, 0, 1]⟩, .int .i64 (.negSucc 105)], .int .i64 (.ofNat 0)]⟩
theorem refTA5_r48 : runsTo [] refTA5_e48 = true := by decide +kernel
def refTA5_e49 : En := ⟨131, [.agg #[.bool false, .string ⟨#[1, 255, 255, 255, 221, 11, 153, 56, 164, 45, 116, 141, 0, 1]⟩, .int .i64 (.negSucc 105)], .agg #[.bool false, .string ⟨#[1]⟩, .int .i64 (.negSucc 0)]], [.int .i64 (.negSucc 0), .int .i64 (.ofNat 0)]⟩
theorem refTA5_r49 : runsTo [] refTA5_e49 = true := by decide +kernel
def refTA5_e50 : En := ⟨182, [.float .f64 4604544271238381567], [.agg #[.bool false, .string ⟨#[22, 160, 158, 103, 185, 63, 255]⟩, .int .i64 (.negSucc 52)], .int .i64 (.ofNat 0)]⟩
theorem refTA5_r50 : runsTo [] refTA5_e50 = true := by decide +kernel
def refTA5_e51 : En := ⟨196, [.agg #[.bool false, .string ⟨#[22, 160, 158, 103, 185, 63, 255]⟩, .int .i64 (.negSucc 52)], .agg #[.bool false, .string ⟨#[22, 160, 158, 103, 185, 63, 255]⟩, .int .i64 (.negSucc 52)]], [.agg #[.bool false, .string ⟨#[2, 0, 0, 0, 55, 130, 194, 132, 86, 80, 192, 141, 128, 1]⟩, .int .i64 (.negSucc 105)], .int .i64 (.ofNat 0)]⟩
theorem refTA5_r51 : runsTo [] refTA5_e51 = true := by decide +kernel
def refTA5 : List En := [refTA5_e0, refTA5_e1, refTA5_e2, refTA5_e3, refTA5_e4, refTA5_e5, refTA5_e6, refTA5_e7, refTA5_e8, refTA5_e9, refTA5_e10, refTA5_e11, refTA5_e12, refTA5_e13, refTA5_e14, refTA5_e15, refTA5_e16, refTA5_e17, refTA5_e18, refTA5_e19, refTA5_e20, refTA5_e21, refTA5_e22, refTA5_e23, refTA5_e24, refTA5_e25, refTA5_e26, refTA5_e27, refTA5_e28, refTA5_e29, refTA5_e30, refTA5_e31, refTA5_e32, refTA5_e33, refTA5_e34, refTA5_e35, refTA5_e36, refTA5_e37, refTA5_e38, refTA5_e39, refTA5_e40, refTA5_e41, refTA5_e42, refTA5_e43, refTA5_e44, refTA5_e45, refTA5_e46, refTA5_e47, refTA5_e48, refTA5_e49, refTA5_e50, refTA5_e51]
theorem refTA5_ok : ∀ e ∈ refTA5, EnOK e := all_cons (runsTo_ok all_nil refTA5_r0) <| all_cons (runsTo_ok all_nil refTA5_r1) <| all_cons (runsTo_ok all_nil refTA5_r2) <| all_cons (runsTo_ok all_nil refTA5_r3) <| all_cons (runsTo_ok all_nil refTA5_r4) <| all_cons (runsTo_ok all_nil refTA5_r5) <| all_cons (runsTo_ok all_nil refTA5_r6) <| all_cons (runsTo_ok all_nil refTA5_r7) <| all_cons (runsTo_ok all_nil refTA5_r8) <| all_cons (runsTo_ok all_nil refTA5_r9) <| all_cons (runsTo_ok all_nil refTA5_r10) <| all_cons (runsTo_ok all_nil refTA5_r11) <| all_cons (runsTo_ok all_nil refTA5_r12) <| all_cons (runsTo_ok all_nil refTA5_r13) <| all_cons (runsTo_ok all_nil refTA5_r14) <| all_cons (runsTo_ok all_nil refTA5_r15) <| all_cons (runsTo_ok all_nil refTA5_r16) <| all_cons (runsTo_ok all_nil refTA5_r17) <| all_cons (runsTo_ok all_nil refTA5_r18) <| all_cons (runsTo_ok all_nil refTA5_r19) <| all_cons (runsTo_ok all_nil refTA5_r20) <| all_cons (runsTo_ok all_nil refTA5_r21) <| all_cons (runsTo_ok all_nil refTA5_r22) <| all_cons (runsTo_ok all_nil refTA5_r23) <| all_cons (runsTo_ok all_nil refTA5_r24) <| all_cons (runsTo_ok all_nil refTA5_r25) <| all_cons (runsTo_ok all_nil refTA5_r26) <| all_cons (runsTo_ok all_nil refTA5_r27) <| all_cons (runsTo_ok all_nil refTA5_r28) <| all_cons (runsTo_ok all_nil refTA5_r29) <| all_cons (runsTo_ok all_nil refTA5_r30) <| all_cons (runsTo_ok all_nil refTA5_r31) <| all_cons (runsTo_ok all_nil refTA5_r32) <| all_cons (runsTo_ok all_nil refTA5_r33) <| all_cons (runsTo_ok all_nil refTA5_r34) <| all_cons (runsTo_ok all_nil refTA5_r35) <| all_cons (runsTo_ok all_nil refTA5_r36) <| all_cons (runsTo_ok all_nil refTA5_r37) <| all_cons (runsTo_ok all_nil refTA5_r38) <| all_cons (runsTo_ok all_nil refTA5_r39) <| all_cons (runsTo_ok all_nil refTA5_r40) <| all_cons (runsTo_ok all_nil refTA5_r41) <| all_cons (runsTo_ok all_nil refTA5_r42) <| all_cons (runsTo_ok all_nil refTA5_r43) <| all_cons (runsTo_ok all_nil refTA5_r44) <| all_cons (runsTo_ok all_nil refTA5_r45) <| all_cons (runsTo_ok all_nil refTA5_r46) <| all_cons (runsTo_ok all_nil refTA5_r47) <| all_cons (runsTo_ok all_nil refTA5_r48) <| all_cons (runsTo_ok all_nil refTA5_r49) <| all_cons (runsTo_ok all_nil refTA5_r50) <| all_cons (runsTo_ok all_nil refTA5_r51) <|  all_nil
end Go.Proofs.YtneakieigiafpaaGreatDoor
