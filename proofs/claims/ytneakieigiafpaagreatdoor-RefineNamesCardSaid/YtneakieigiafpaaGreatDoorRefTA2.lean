/- Calls behind view.Cover of some squares (part 3): each is run by the kernel. -/
import Derived.Test.YtneakieigiafpaaGreatDoorExR
namespace Go.Proofs.YtneakieigiafpaaGreatDoor
open Go.Ex
set_option maxRecDepth 100000
def refTA2_e0 : En := ⟨182, [.float .f64 4609047868886482943], [.agg #[.bool false, .string ⟨#[22, 160, 157, 241, 191, 255, 255]⟩, .int .i64 (.negSucc 51)], .int .i64 (.ofNat 0)]⟩
theorem refTA2_r0 : runsTo [] refTA2_e0 = true := by decide +kernel
def refTA2_e1 : En := ⟨196, [.agg #[.bool false, .string ⟨#[22, 160, 157, 241, 191, 255, 255]⟩, .int .i64 (.negSucc 51)], .agg #[.bool false, .string ⟨#[22, 160, 157, 241, 191, 255, 255]⟩, .int .i64 (.negSucc 51)]], [.agg #[.bool false, .string ⟨#[1, 255, 255, 235, 92, 162, 105, 157, 206, 196, 28, 128, 0, 1]⟩, .int .i64 (.negSucc 103)], .int .i64 (.ofNat 0)]⟩
theorem refTA2_r1 : runsTo [] refTA2_e1 = true := by decide +kernel
def refTA2_e2 : En := ⟨131, [.agg #[.bool false, .string ⟨#[1, 255, 255, 235, 92, 162, 105, 157, 206, 196, 28, 128, 0, 1]⟩, .int .i64 (.negSucc 103)], .agg #[.bool false, .string ⟨#[1]⟩, .int .i64 (.ofNat 1)]], [.int .i64 (.negSucc 0), .int .i64 (.ofNat 0)]⟩
theorem refTA2_r2 : runsTo [] refTA2_e2 = true := by decide +kernel
def refTA2_e3 : En := ⟨182, [.float .f64 4609047873179353087], [.agg #[.bool false, .string ⟨#[22, 160, 158, 241, 159, 255, 255]⟩, .int .i64 (.negSucc 51)], .int .i64 (.ofNat 0)]⟩
theorem refTA2_r3 : runsTo [] refTA2_e3 = true := by decide +kernel
def refTA2_e4 : En := ⟨196, [.agg #[.bool false, .string ⟨#[22, 160, 158, 241, 159, 255, 255]⟩, .int .i64 (.negSucc 51)], .agg #[.bool false, .string ⟨#[22, 160, 158, 241, 159, 255, 255]⟩, .int .i64 (.negSucc 51)]], [.agg #[.bool false, .string ⟨#[2, 0, 0, 24, 152, 55, 37, 97, 98, 194, 28, 192, 0, 1]⟩, .int .i64 (.negSucc 103)], .int .i64 (.ofNat 0)]⟩
theorem refTA2_r4 : runsTo [] refTA2_e4 = true := by decide +kernel
def refTA2_e5 : En := ⟨131, [.agg #[.bool false, .string ⟨#[2, 0, 0, 24, 152, 55, 37, 97, 98, 194, 28, 192, 0, 1]⟩, .int .i64 (.negSucc 103)], .agg #[.bool false, .string ⟨#[1]⟩, .int .i64 (.ofNat 1)]], [.int .i64 (.ofNat 1), .int .i64 (.ofNat 0)]⟩
theorem refTA2_r5 : runsTo [] refTA2_e5 = true := by decide +kernel
def refTA2_e6 : En := ⟨182, [.float .f64 4609047871032918015], [.agg #[.bool false, .string ⟨#[22, 160, 158, 113, 175, 255, 255]⟩, .int .i64 (.negSucc 51)], .int .i64 (.ofNat 0)]⟩
theorem refTA2_r6 : runsTo [] refTA2_e6 = true := by decide +kernel
def refTA2_e7 : En := ⟨196, [.agg #[.bool false, .string ⟨#[22, 160, 158, 113, 175, 255, 255]⟩, .int .i64 (.negSucc 51)], .agg #[.bool false, .string ⟨#[22, 160, 158, 113, 175, 255, 255]⟩, .int .i64 (.negSucc 51)]], [.agg #[.bool false, .string ⟨#[2, 0, 0, 1, 250, 108, 135, 143, 151, 195, 28, 160, 0, 1]⟩, .int .i64 (.negSucc 103)], .int .i64 (.ofNat 0)]⟩
theorem refTA2_r7 : runsTo [] refTA2_e7 = true := by decide +kernel
def refTA2_e8 : En := ⟨131, [.agg #[.bool false, .string ⟨#[2, 0, 0, 1, 250, 108, 135, 143, 151, 195, 28, 160, 0, 1]⟩, .int .i64 (.negSucc 103)], .agg #[.bool false, .string ⟨#[1]⟩, .int .i64 (.ofNat 1)]], [.int .i64 (.ofNat 1), .int .i64 (.ofNat 0)]⟩
theorem refTA2_r8 : runsTo [] refTA2_e8 = true := by decide +kernel
def refTA2_e9 : En := ⟨182, [.float .f64 4609047869959700479], [.agg #[.bool false, .string ⟨#[22, 160, 158, 49, 183, 255, 255]⟩, .int .i64 (.negSucc 51)], .int .i64 (.ofNat 0)]⟩
theorem refTA2_r9 : runsTo [] refTA2_e9 = true := by decide +kernel
def refTA2_e10 : En := ⟨196, [.agg #[.bool false, .string ⟨#[22, 160, 158, 49, 183, 255, 255]⟩, .int .i64 (.negSucc 51)], .agg #[.bool false, .string ⟨#[22, 160, 158, 49, 183, 255, 255]⟩, .int .i64 (.negSucc 51)]], [.agg #[.bool false, .string ⟨#[1, 255, 255, 246, 171, 135, 104, 154, 179, 3, 156, 144, 0, 1]⟩, .int .i64 (.negSucc 103)], .int .i64 (.ofNat 0)]⟩
theorem refTA2_r10 : runsTo [] refTA2_e10 = true := by decide +kernel
def refTA2_e11 : En := ⟨131, [.agg #[.bool false, .string ⟨#[1, 255, 255, 246, 171, 135, 104, 154, 179, 3, 156, 144, 0, 1]⟩, .int .i64 (.negSucc 103)], .agg #[.bool false, .string ⟨#[1]⟩, .int .i64 (.ofNat 1)]], [.int .i64 (.negSucc 0), .int .i64 (.ofNat 0)]⟩
theorem refTA2_r11 : runsTo [] refTA2_e11 = true := by decide +kernel
def refTA2_e12 : En := ⟨182, [.float .f64 4609047870496309247], [.agg #[.bool false, .string ⟨#[22, 160, 158, 81, 179, 255, 255]⟩, .int .i64 (.negSucc 51)], .int .i64 (.ofNat 0)]⟩
theorem refTA2_r12 : runsTo [] refTA2_e12 = true := by decide +kernel
def refTA2_e13 : En := ⟨196, [.agg #[.bool false, .string ⟨#[22, 160, 158, 81, 179, 255, 255]⟩, .int .i64 (.negSucc 51)], .agg #[.bool false, .string ⟨#[22, 160, 158, 81, 179, 255, 255]⟩, .int .i64 (.negSucc 51)]], [.agg #[.bool false, .string ⟨#[1, 255, 255, 252, 82, 249, 244, 22, 37, 83, 92, 152, 0, 1]⟩, .int .i64 (.negSucc 103)], .int .i64 (.ofNat 0)]⟩
theorem refTA2_r13 : runsTo [] refTA2_e13 = true := by decide +kernel
def refTA2_e14 : En := ⟨131, [.agg #[.bool false, .string ⟨#[1, 255, 255, 252, 82, 249, 244, 22, 37, 83, 92, 152, 0, 1]⟩, .int .i64 (.negSucc 103)], .agg #[.bool false, .string ⟨#[1]⟩, .int .i64 (.ofNat 1)]], [.int .i64 (.negSucc 0), .int .i64 (.ofNat 0)]⟩
theorem refTA2_r14 : runsTo [] refTA2_e14 = true := by decide +kernel
def refTA2_e15 : En := ⟨182, [.float .f64 4609047870764613631], [.agg #[.bool false, .string ⟨#[22, 160, 158, 97, 177, 255, 255]⟩, .int .i64 (.negSucc 51)], .int .i64 (.ofNat 0)]⟩
theorem refTA2_r15 : runsTo [] refTA2_e15 = true := by decide +kernel
def refTA2_e16 : En := ⟨196, [.agg #[.bool false, .string ⟨#[22, 160, 158, 97, 177, 255, 255]⟩, .int .i64 (.negSucc 51)], .agg #[.bool false, .string ⟨#[22, 160, 158, 97, 177, 255, 255]⟩, .int .i64 (.negSucc 51)]], [.agg #[.bool false, .string ⟨#[1, 255, 255, 255, 38, 179, 60, 211, 30, 135, 60, 156, 0, 1]⟩, .int .i64 (.negSucc 103)], .int .i64 (.ofNat 0)]⟩
theorem refTA2_r16 : runsTo [] refTA2_e16 = true := by decide +kernel
def refTA2_e17 : En := ⟨131, [.agg #[.bool false, .string ⟨#[1, 255, 255, 255, 38, 179, 60, 211, 30, 135, 60, 156, 0, 1]⟩, .int .i64 (.negSucc 103)], .agg #[.bool false, .string ⟨#[1]⟩, .int .i64 (.ofNat 1)]], [.int .i64 (.negSucc 0), .int .i64 (.ofNat 0)]⟩
theorem refTA2_r17 : runsTo [] refTA2_e17 = true := by decide +kernel
def refTA2_e18 : En := ⟨182, [.float .f64 4609047870898765823], [.agg #[.bool false, .string ⟨#[22, 160, 158, 105, 176, 255, 255]⟩, .int .i64 (.negSucc 51)], .int .i64 (.ofNat 0)]⟩
theorem refTA2_r18 : runsTo [] refTA2_e18 = true := by decide +kernel
def refTA2_e19 : En := ⟨196, [.agg #[.bool false, .string ⟨#[22, 160, 158, 105, 176, 255, 255]⟩, .int .i64 (.negSucc 51)], .agg #[.bool false, .string ⟨#[22, 160, 158, 105, 176, 255, 255]⟩, .int .i64 (.negSucc 51)]], [.agg #[.bool false, .string ⟨#[2, 0, 0, 0, 144, 143, 225, 241, 107, 36, 44, 158, 0, 1]⟩, .int .i64 (.negSucc 103)], .int .i64 (.ofNat 0)]⟩
theorem refTA2_r19 : runsTo [] refTA2_e19 = true := by decide +kernel
def refTA2_e20 : En := ⟨131, [.agg #[.bool false, .string ⟨#[2, 0, 0, 0, 144, 143, 225, 241, 107, 36, 44, 158, 0, 1]⟩, .int .i64 (.negSucc 103)], .agg #[.bool false, .string ⟨#[1]⟩, .int .i64 (.ofNat 1)]], [.int .i64 (.ofNat 1), .int .i64 (.ofNat 0)]⟩
theorem refTA2_r20 : runsTo [] refTA2_e20 = true := by decide +kernel
def refTA2_e21 : En := ⟨182, [.float .f64 4609047870831689727], [.agg #[.bool false, .string ⟨#[22, 160, 158, 101, 177, 127, 255]⟩, .int .i64 (.negSucc 51)], .int .i64 (.ofNat 0)]⟩
theorem refTA2_r21 : runsTo [] refTA2_e21 = true := by decide +kernel
def refTA2_e22 : En := ⟨196, [.agg #[.bool false, .string ⟨#[22, 160, 158, 101, 177, 127, 255]⟩, .int .i64 (.negSucc 51)], .agg #[.bool false, .string ⟨#[22, 160, 158, 101, 177, 127, 255]⟩, .int .i64 (.negSucc 51)]], [.agg #[.bool false, .string ⟨#[1, 255, 255, 255, 219, 161, 143, 82, 72, 213, 116, 157, 0, 1]⟩, .int .i64 (.negSucc 103)], .int .i64 (.ofNat 0)]⟩
theorem refTA2_r22 : runsTo [] refTA2_e22 = true := by decide +kernel
def refTA2_e23 : En := ⟨131, [.agg #[.bool false, .string ⟨#[1, 255, 255, 255, 219, 161, 143, 82, 72, 213, 116, 157, 0, 1]⟩, .int .i64 (.negSucc 103)], .agg #[.bool false, .string ⟨#[1]⟩, .int .i64 (.ofNat 1)]], [.int .i64 (.negSucc 0), .int .i64 (.ofNat 0)]⟩
theorem refTA2_r23 : runsTo [] refTA2_e23 = true := by decide +kernel
def refTA2_e24 : En := ⟨182, [.float .f64 4609047870865227775], [.agg #[.bool false, .string ⟨#[22, 160, 158, 103, 177, 63, 255]⟩, .int .i64 (.negSucc 51)], .int .i64 (.ofNat 0)]⟩
theorem refTA2_r24 : runsTo [] refTA2_e24 = true := by decide +kernel
def refTA2_e25 : En := ⟨196, [.agg #[.bool false, .string ⟨#[22, 160, 158, 103, 177, 63, 255]⟩, .int .i64 (.negSucc 51)], .agg #[.bool false, .string ⟨#[22, 160, 158, 103, 177, 63, 255]⟩, .int .i64 (.negSucc 51)]], [.agg #[.bool false, .string ⟨#[2, 0, 0, 0, 54, 24, 184, 157, 218, 252, 192, 157, 128, 1]⟩, .int .i64 (.negSucc 103)], .int .i64 (.ofNat 0)]⟩
theorem refTA2_r25 : runsTo [] refTA2_e25 = true := by decide +kernel
def refTA2_e26 : En := ⟨131, [.agg #[.bool false, .string ⟨#[2, 0, 0, 0, 54, 24, 184, 157, 218, 252, 192, 157, 128, 1]⟩, .int .i64 (.negSucc 103)], .agg #[.bool false, .string ⟨#[1]⟩, .int .i64 (.ofNat 1)]], [.int .i64 (.ofNat 1), .int .i64 (.ofNat 0)]⟩
theorem refTA2_r26 : runsTo [] refTA2_e26 = true := by decide +kernel
def refTA2_e27 : En := ⟨182, [.float .f64 4609047870848458751], [.agg #[.bool false, .string ⟨#[22, 160, 158, 102, 177, 95, 255]⟩, .int .i64 (.negSucc 51)], .int .i64 (.ofNat 0)]⟩
theorem refTA2_r27 : runsTo [] refTA2_e27 = true := by decide +kernel
def refTA2_e28 : En := ⟨196, [.agg #[.bool false, .string ⟨#[22, 160, 158, 102, 177, 95, 255]⟩, .int .i64 (.negSucc 51)], .agg #[.bool false, .string ⟨#[22, 160, 158, 102, 177, 95, 255]⟩, .int .i64 (.negSucc 51)]], [.agg #[.bool false, .string ⟨#[2, 0, 0, 0, 8, 221, 35, 247, 18, 41, 22, 157, 64, 1]⟩, .int .i64 (.negSucc 103)], .int .i64 (.ofNat 0)]⟩
theorem refTA2_r28 : runsTo [] refTA2_e28 = true := by decide +kernel
def refTA2_e29 : En := ⟨131, [.agg #[.bool false, .string ⟨#[2, 0, 0, 0, 8, 221, 35, 247, 18, 41, 22, 157, 64, 1]⟩, .int .i64 (.negSucc 103)], .agg #[.bool false, .string ⟨#[1]⟩, .int .i64 (.ofNat 1)]], [.int .i64 (.ofNat 1), .int .i64 (.ofNat 0)]⟩
theorem refTA2_r29 : runsTo [] refTA2_e29 = true := by decide +kernel
def refTA2_e30 : En := ⟨182, [.float .f64 4609047870840074239], [.agg #[.bool false, .string ⟨#[22, 160, 158, 102, 49, 111, 255]⟩, .int .i64 (.negSucc 51)], .int .i64 (.ofNat 0)]⟩
theorem refTA2_r30 : runsTo [] refTA2_e30 = true := by decide +kernel
def refTA2_e31 : En := ⟨196, [.agg #[.bool false, .string ⟨#[22, 160, 158, 102, 49, 111, 255]⟩, .int .i64 (.negSucc 51)], .agg #[.bool false, .string ⟨#[22, 160, 158, 102, 49, 111, 255]⟩, .int .i64 (.negSucc 51)]], [.agg #[.bool false, .string ⟨#[1, 255, 255, 255, 242, 63, 89, 164, 109, 143, 68, 157, 32, 1]⟩, .int .i64 (.negSucc 103)], .int .i64 (.ofNat 0)]⟩
theorem refTA2_r31 : runsTo [] refTA2_e31 = true := by decide +kernel
def refTA2_e32 : En := ⟨131, [.agg #[.bool false, .string ⟨#[1, 255, 255, 255, 242, 63, 89, 164, 109, 143, 68, 157, 32, 1]⟩, .int .i64 (.negSucc 103)], .agg #[.bool false, .string ⟨#[1]⟩, .int .i64 (.ofNat 1)]], [.int .i64 (.negSucc 0), .int .i64 (.ofNat 0)]⟩
theorem refTA2_r32 : runsTo [] refTA2_e32 = true := by decide +kernel
def refTA2_e33 : En := ⟨182, [.float .f64 4609047870844266495], [.agg #[.bool false, .string ⟨#[22, 160, 158, 102, 113, 103, 255]⟩, .int .i64 (.negSucc 51)], .int .i64 (.ofNat 0)]⟩
theorem refTA2_r33 : runsTo [] refTA2_e33 = true := by decide +kernel
def refTA2_e34 : En := ⟨196, [.agg #[.bool false, .string ⟨#[22, 160, 158, 102, 113, 103, 255]⟩, .int .i64 (.negSucc 51)], .agg #[.bool false, .string ⟨#[22, 160, 158, 102, 113, 103, 255]⟩, .int .i64 (.negSucc 51)]], [.agg #[.bool false, .string ⟨#[1, 255, 255, 255, 253, 142, 62, 205, 175, 224, 45, 93, 48, 1]⟩, .int .i64 (.negSucc 103)], .int .i64 (.ofNat 0)]⟩
theorem refTA2_r34 : runsTo [] refTA2_e34 = true := by decide +kernel
def refTA2_e35 : En := ⟨131, [.agg #[.bool false, .string ⟨#[1, 255, 255, 255, 253, 142, 62, 205, 175, 224, 45, 93, 48, 1]⟩, .int .i64 (.negSucc 103)], .agg #[.bool false, .string ⟨#[1]⟩, .int .i64 (.ofNat 1)]], [.int .i64 (.negSucc 0), .int .i64 (.ofNat 0)]⟩
theorem refTA2_r35 : runsTo [] refTA2_e35 = true := by decide +kernel
def refTA2_e36 : En := ⟨182, [.float .f64 4609047870846362623], [.agg #[.bool false, .string ⟨#[22, 160, 158, 102, 145, 99, 255]⟩, .int .i64 (.negSucc 51)], .int .i64 (.ofNat 0)]⟩
theorem refTA2_r36 : runsTo [] refTA2_e36 = true := by decide +kernel
def refTA2_e37 : En := ⟨196, [.agg #[.bool false, .string ⟨#[22, 160, 158, 102, 145, 99, 255]⟩, .int .i64 (.negSucc 51)], .agg #[.bool false, .string ⟨#[22, 160, 158, 102, 145, 99, 255]⟩, .int .i64 (.negSucc 51)]], [.agg #[.bool false, .string ⟨#[2, 0, 0, 0, 3, 53, 177, 98, 93, 5, 161, 237, 56, 1]⟩, .int .i64 (.negSucc 103)], .int .i64 (.ofNat 0)]⟩
theorem refTA2_r37 : runsTo [] refTA2_e37 = true := by decide +kernel
def refTA2_e38 : En := ⟨131, [.agg #[.bool false, .string ⟨#[2, 0, 0, 0, 3, 53, 177, 98, 93, 5, 161, 237, 56, 1]⟩, .int .i64 (.negSucc 103)], .agg #[.bool false, .string ⟨#[1]⟩, .int .i64 (.ofNat 1)]], [.int .i64 (.ofNat 1), .int .i64 (.ofNat 0)]⟩
theorem refTA2_r38 : runsTo [] refTA2_e38 = true := by decide +kernel
def refTA2_e39 : En := ⟨182, [.float .f64 4609047870845314559], [.agg #[.bool false, .string ⟨#[22, 160, 158, 102, 129, 101, 255]⟩, .int .i64 (.negSucc 51)], .int .i64 (.ofNat 0)]⟩
theorem refTA2_r39 : runsTo [] refTA2_e39 = true := by decide +kernel
def refTA2_e40 : En := ⟨196, [.agg #[.bool false, .string ⟨#[22, 160, 158, 102, 129, 101, 255]⟩, .int .i64 (.negSucc 51)], .agg #[.bool false, .string ⟨#[22, 160, 158, 102, 129, 101, 255]⟩, .int .i64 (.negSucc 51)]], [.agg #[.bool false, .string ⟨#[2, 0, 0, 0, 0, 97, 248, 24, 5, 115, 39, 161, 52, 1]⟩, .int .i64 (.negSucc 103)], .int .i64 (.ofNat 0)]⟩
theorem refTA2_r40 : runsTo [] refTA2_e40 = true := by decide +kernel
def refTA2_e41 : En := ⟨131, [.agg #[.bool false, .string ⟨#[2, 0, 0, 0, 0, 97, 248, 24, 5, 115, 39, 161, 52, 1]⟩, .int .i64 (.negSucc 103)], .agg #[.bool false, .string ⟨#[1]⟩, .int .i64 (.ofNat 1)]], [.int .i64 (.ofNat 1), .int .i64 (.ofNat 0)]⟩
theorem refTA2_r41 : runsTo [] refTA2_e41 = true := by decide +kernel
def refTA2_e42 : En := ⟨182, [.float .f64 4609047870844790527], [.agg #[.bool false, .string ⟨#[22, 160, 158, 102, 121, 102, 255]⟩, .int .i64 (.negSucc 51)], .int .i64 (.ofNat 0)]⟩
theorem refTA2_r42 : runsTo [] refTA2_e42 = true := by decide +kernel
def refTA2_e43 : En := ⟨196, [.agg #[.bool false, .string ⟨#[22, 160, 158, 102, 121, 102, 255]⟩, .int .i64 (.negSucc 51)], .agg #[.bool false, .string ⟨#[22, 160, 158, 102, 121, 102, 255]⟩, .int .i64 (.negSucc 51)]], [.agg #[.bool false, .string ⟨#[1, 255, 255, 255, 254, 248, 27, 114, 218, 105, 186, 126, 50, 1]⟩, .int .i64 (.negSucc 103)], .int .i64 (.ofNat 0)]⟩
theorem refTA2_r43 : runsTo [] refTA2_e43 = true := by decide +kernel
def refTA2_e44 : En := ⟨131, [.agg #[.bool false, .string ⟨#[1, 255, 255, 255, 254, 248, 27, 114, 218, 105, 186, 126, 50, 1]⟩, .int .i64 (.negSucc 103)], .agg #[.bool false, .string ⟨#[1]⟩, .int .i64 (.ofNat 1)]], [.int .i64 (.negSucc 0), .int .i64 (.ofNat 0)]⟩
theorem refTA2_r44 : runsTo [] refTA2_e44 = true := by decide +kernel
def refTA2_e45 : En := ⟨182, [.float .f64 4609047870845052543], [.agg #[.bool false, .string ⟨#[22, 160, 158, 102, 125, 102, 127]⟩, .int .i64 (.negSucc 51)], .int .i64 (.ofNat 0)]⟩
theorem refTA2_r45 : runsTo [] refTA2_e45 = true := by decide +kernel
def refTA2_e46 : En := ⟨196, [.agg #[.bool false, .string ⟨#[22, 160, 158, 102, 125, 102, 127]⟩, .int .i64 (.negSucc 51)], .agg #[.bool false, .string ⟨#[22, 160, 158, 102, 125, 102, 127]⟩, .int .i64 (.negSucc 51)]], [.agg #[.bool false, .string ⟨#[1, 255, 255, 255, 255, 173, 9, 197, 111, 222, 117, 15, 115, 1]⟩, .int .i64 (.negSucc 103)], .int .i64 (.ofNat 0)]⟩
theorem refTA2_r46 : runsTo [] refTA2_e46 = true := by decide +kernel
def refTA2_e47 : En := ⟨131, [.agg #[.bool false, .string ⟨#[1, 255, 255, 255, 255, 173, 9, 197, 111, 222, 117, 15, 115, 1]⟩, .int .i64 (.negSucc 103)], .agg #[.bool false, .string ⟨#[1]⟩, .int .i64 (.ofNat 1)]], [.int .i64 (.negSucc 0), .int .i64 (.ofNat 0)]⟩
theorem refTA2_r47 : runsTo [] refTA2_e47 = true := by decide +kernel
def refTA2_e48 : En := ⟨182, [.float .f64 4609047870845183551], [.agg #[.bool false, .string ⟨#[22, 160, 158, 102, 127, 102, 63]⟩, .int .i64 (.negSucc 51)], .int .i64 (.ofNat 0)]⟩
theorem refTA2_r48 : runsTo [] refTA2_e48 = true := by decide +kernel
def refTA2_e49 : En := ⟨196, [.agg #[.bool false, .string ⟨#[22, 160, 158, 102, 127, 102, 63]⟩, .int .i64 (.negSucc 51)], .agg #[.bool false, .string ⟨#[22, 160, 158, 102, 127, 102, 63]⟩, .int .i64 (.negSucc 51)]], [.agg #[.bool false, .string ⟨#[2, 0, 0, 0, 0, 7, 128, 238, 186, 164, 207, 88, 67, 129]⟩, .int .i64 (.negSucc 103)], .int .i64 (.ofNat 0)]⟩
theorem refTA2_r49 : runsTo [] refTA2_e49 = true := by decide +kernel
def refTA2_e50 : En := ⟨131, [.agg #[.bool false, .string ⟨#[2, 0, 0, 0, 0, 7, 128, 238, 186, 164, 207, 88, 67, 129]⟩, .int .i64 (.negSucc 103)], .agg #[.bool false, .string ⟨#[1]⟩, .int .i64 (.ofNat 1)]], [.int .i64 (.ofNat 1), .int .i64 (.ofNat 0)]⟩
theorem refTA2_r50 : runsTo [] refTA2_e50 = true := by decide +kernel
def refTA2_e51 : En := ⟨182, [.float .f64 4609047870845118047], [.agg #[.bool false, .string ⟨#[22, 160, 158, 102, 126, 102, 95]⟩, .int .i64 (.negSucc 51)], .int .i64 (.ofNat 0)]⟩
theorem refTA2_r51 : runsTo [] refTA2_e51 = true := by decide +kernel
def refTA2 : List En := [refTA2_e0, refTA2_e1, refTA2_e2, refTA2_e3, refTA2_e4, refTA2_e5, refTA2_e6, refTA2_e7, refTA2_e8, refTA2_e9, refTA2_e10, refTA2_e11, refTA2_e12, refTA2_e13, refTA2_e14, refTA2_e15, refTA2_e16, refTA2_e17, refTA2_e18, refTA2_e19, refTA2_e20, refTA2_e21, refTA2_e22, refTA2_e23, refTA2_e24, refTA2_e25, refTA2_e26, refTA2_e27, refTA2_e28, refTA2_e29, refTA2_e30, refTA2_e31, refTA2_e32, refTA2_e33, refTA2_e34, refTA2_e35, refTA2_e36, refTA2_e37, refTA2_e38, refTA2_e39, refTA2_e40, refTA2_e41, refTA2_e42, refTA2_e43, refTA2_e44, refTA2_e45, refTA2_e46, refTA2_e47, refTA2_e48, refTA2_e49, refTA2_e50, refTA2_e51]
theorem refTA2_ok : ∀ e ∈ refTA2, EnOK e := all_cons (runsTo_ok all_nil refTA2_r0) <| all_cons (runsTo_ok all_nil refTA2_r1) <| all_cons (runsTo_ok all_nil refTA2_r2) <| all_cons (runsTo_ok all_nil refTA2_r3) <| all_cons (runsTo_ok all_nil refTA2_r4) <| all_cons (runsTo_ok all_nil refTA2_r5) <| all_cons (runsTo_ok all_nil refTA2_r6) <| all_cons (runsTo_ok all_nil refTA2_r7) <| all_cons (runsTo_ok all_nil refTA2_r8) <| all_cons (runsTo_ok all_nil refTA2_r9) <| all_cons (runsTo_ok all_nil refTA2_r10) <| all_cons (runsTo_ok all_nil refTA2_r11) <| all_cons (runsTo_ok all_nil refTA2_r12) <| all_cons (runsTo_ok all_nil refTA2_r13) <| all_cons (runsTo_ok all_nil refTA2_r14) <| all_cons (runsTo_ok all_nil refTA2_r15) <| all_cons (runsTo_ok all_nil refTA2_r16) <| all_cons (runsTo_ok all_nil refTA2_r17) <| all_cons (runsTo_ok all_nil refTA2_r18) <| all_cons (runsTo_ok all_nil refTA2_r19) <| all_cons (runsTo_ok all_nil refTA2_r20) <| all_cons (runsTo_ok all_nil refTA2_r21) <| all_cons (runsTo_ok all_nil refTA2_r22) <| all_cons (runsTo_ok all_nil refTA2_r23) <| all_cons (runsTo_ok all_nil refTA2_r24) <| all_cons (runsTo_ok all_nil refTA2_r25) <| all_cons (runsTo_ok all_nil refTA2_r26) <| all_cons (runsTo_ok all_nil refTA2_r27) <| all_cons (runsTo_ok all_nil refTA2_r28) <| all_cons (runsTo_ok all_nil refTA2_r29) <| all_cons (runsTo_ok all_nil refTA2_r30) <| all_cons (runsTo_ok all_nil refTA2_r31) <| all_cons (runsTo_ok all_nil refTA2_r32) <| all_cons (runsTo_ok all_nil refTA2_r33) <| all_cons (runsTo_ok all_nil refTA2_r34) <| all_cons (runsTo_ok all_nil refTA2_r35) <| all_cons (runsTo_ok all_nil refTA2_r36) <| all_cons (runsTo_ok all_nil refTA2_r37) <| all_cons (runsTo_ok all_nil refTA2_r38) <| all_cons (runsTo_ok all_nil refTA2_r39) <| all_cons (runsTo_ok all_nil refTA2_r40) <| all_cons (runsTo_ok all_nil refTA2_r41) <| all_cons (runsTo_ok all_nil refTA2_r42) <| all_cons (runsTo_ok all_nil refTA2_r43) <| all_cons (runsTo_ok all_nil refTA2_r44) <| all_cons (runsTo_ok all_nil refTA2_r45) <| all_cons (runsTo_ok all_nil refTA2_r46) <| all_cons (runsTo_ok all_nil refTA2_r47) <| all_cons (runsTo_ok all_nil refTA2_r48) <| all_cons (runsTo_ok all_nil refTA2_r49) <| all_cons (runsTo_ok all_nil refTA2_r50) <| all_cons (runsTo_ok all_nil refTA2_r51) <|  all_nil
end Go.Proofs.YtneakieigiafpaaGreatDoor
