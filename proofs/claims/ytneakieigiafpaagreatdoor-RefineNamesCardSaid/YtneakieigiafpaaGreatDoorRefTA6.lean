/- Calls behind view.Cover of some squares (part 7): each is run by the kernel. -/
import Derived.Test.YtneakieigiafpaaGreatDoorExR
namespace Go.Proofs.YtneakieigiafpaaGreatDoor
open Go.Ex
set_option maxRecDepth 100000
def refTA6_e0 : En := ⟨131, [.agg #[.bool false, .string ⟨#[2, 0, 0, 0, 55, 130, 194, 132, 86, 80, 192, 141, 128, 1]⟩, .int .i64 (.negSucc 105)], .agg #[.bool false, .string ⟨#[1]⟩, .int .i64 (.negSucc 0)]], [.int .i64 (.ofNat 1), .int .i64 (.ofNat 0)]⟩
theorem refTA6_r0 : runsTo [] refTA6_e0 = true := by decide +kernel
def refTA6_e1 : En := ⟨182, [.float .f64 4604544271221612543], [.agg #[.bool false, .string ⟨#[22, 160, 158, 102, 185, 95, 255]⟩, .int .i64 (.negSucc 52)], .int .i64 (.ofNat 0)]⟩
theorem refTA6_r1 : runsTo [] refTA6_e1 = true := by decide +kernel
def refTA6_e2 : En := ⟨196, [.agg #[.bool false, .string ⟨#[22, 160, 158, 102, 185, 95, 255]⟩, .int .i64 (.negSucc 52)], .agg #[.bool false, .string ⟨#[22, 160, 158, 102, 185, 95, 255]⟩, .int .i64 (.negSucc 52)]], [.agg #[.bool false, .string ⟨#[2, 0, 0, 0, 10, 71, 45, 221, 125, 127, 22, 141, 64, 1]⟩, .int .i64 (.negSucc 105)], .int .i64 (.ofNat 0)]⟩
theorem refTA6_r2 : runsTo [] refTA6_e2 = true := by decide +kernel
def refTA6_e3 : En := ⟨131, [.agg #[.bool false, .string ⟨#[2, 0, 0, 0, 10, 71, 45, 221, 125, 127, 22, 141, 64, 1]⟩, .int .i64 (.negSucc 105)], .agg #[.bool false, .string ⟨#[1]⟩, .int .i64 (.negSucc 0)]], [.int .i64 (.ofNat 1), .int .i64 (.ofNat 0)]⟩
theorem refTA6_r3 : runsTo [] refTA6_e3 = true := by decide +kernel
def refTA6_e4 : En := ⟨182, [.float .f64 4604544271213228031], [.agg #[.bool false, .string ⟨#[22, 160, 158, 102, 57, 111, 255]⟩, .int .i64 (.negSucc 52)], .int .i64 (.ofNat 0)]⟩
theorem refTA6_r4 : runsTo [] refTA6_e4 = true := by decide +kernel
def refTA6_e5 : En := ⟨196, [.agg #[.bool false, .string ⟨#[22, 160, 158, 102, 57, 111, 255]⟩, .int .i64 (.negSucc 52)], .agg #[.bool false, .string ⟨#[22, 160, 158, 102, 57, 111, 255]⟩, .int .i64 (.negSucc 52)]], [.agg #[.bool false, .string ⟨#[1, 255, 255, 255, 243, 169, 99, 138, 208, 230, 68, 141, 32, 1]⟩, .int .i64 (.negSucc 105)], .int .i64 (.ofNat 0)]⟩
theorem refTA6_r5 : runsTo [] refTA6_e5 = true := by decide +kernel
def refTA6_e6 : En := ⟨131, [.agg #[.bool false, .string ⟨#[1, 255, 255, 255, 243, 169, 99, 138, 208, 230, 68, 141, 32, 1]⟩, .int .i64 (.negSucc 105)], .agg #[.bool false, .string ⟨#[1]⟩, .int .i64 (.negSucc 0)]], [.int .i64 (.negSucc 0), .int .i64 (.ofNat 0)]⟩
theorem refTA6_r6 : runsTo [] refTA6_e6 = true := by decide +kernel
def refTA6_e7 : En := ⟨182, [.float .f64 4604544271217420287], [.agg #[.bool false, .string ⟨#[22, 160, 158, 102, 121, 103, 255]⟩, .int .i64 (.negSucc 52)], .int .i64 (.ofNat 0)]⟩
theorem refTA6_r7 : runsTo [] refTA6_e7 = true := by decide +kernel
def refTA6_e8 : En := ⟨196, [.agg #[.bool false, .string ⟨#[22, 160, 158, 102, 121, 103, 255]⟩, .int .i64 (.negSucc 52)], .agg #[.bool false, .string ⟨#[22, 160, 158, 102, 121, 103, 255]⟩, .int .i64 (.negSucc 52)]], [.agg #[.bool false, .string ⟨#[1, 255, 255, 255, 254, 248, 72, 180, 23, 54, 173, 77, 48, 1]⟩, .int .i64 (.negSucc 105)], .int .i64 (.ofNat 0)]⟩
theorem refTA6_r8 : runsTo [] refTA6_e8 = true := by decide +kernel
def refTA6_e9 : En := ⟨131, [.agg #[.bool false, .string ⟨#[1, 255, 255, 255, 254, 248, 72, 180, 23, 54, 173, 77, 48, 1]⟩, .int .i64 (.negSucc 105)], .agg #[.bool false, .string ⟨#[1]⟩, .int .i64 (.negSucc 0)]], [.int .i64 (.negSucc 0), .int .i64 (.ofNat 0)]⟩
theorem refTA6_r9 : runsTo [] refTA6_e9 = true := by decide +kernel
def refTA6_e10 : En := ⟨182, [.float .f64 4604544271219516415], [.agg #[.bool false, .string ⟨#[22, 160, 158, 102, 153, 99, 255]⟩, .int .i64 (.negSucc 52)], .int .i64 (.ofNat 0)]⟩
theorem refTA6_r10 : runsTo [] refTA6_e10 = true := by decide +kernel
def refTA6_e11 : En := ⟨196, [.agg #[.bool false, .string ⟨#[22, 160, 158, 102, 153, 99, 255]⟩, .int .i64 (.negSucc 52)], .agg #[.bool false, .string ⟨#[22, 160, 158, 102, 153, 99, 255]⟩, .int .i64 (.negSucc 52)]], [.agg #[.bool false, .string ⟨#[2, 0, 0, 0, 4, 159, 187, 72, 198, 91, 225, 221, 56, 1]⟩, .int .i64 (.negSucc 105)], .int .i64 (.ofNat 0)]⟩
theorem refTA6_r11 : runsTo [] refTA6_e11 = true := by decide +kernel
def refTA6_e12 : En := ⟨131, [.agg #[.bool false, .string ⟨#[2, 0, 0, 0, 4, 159, 187, 72, 198, 91, 225, 221, 56, 1]⟩, .int .i64 (.negSucc 105)], .agg #[.bool false, .string ⟨#[1]⟩, .int .i64 (.negSucc 0)]], [.int .i64 (.ofNat 1), .int .i64 (.ofNat 0)]⟩
theorem refTA6_r12 : runsTo [] refTA6_e12 = true := by decide +kernel
def refTA6_e13 : En := ⟨182, [.float .f64 4604544271218468351], [.agg #[.bool false, .string ⟨#[22, 160, 158, 102, 137, 101, 255]⟩, .int .i64 (.negSucc 52)], .int .i64 (.ofNat 0)]⟩
theorem refTA6_r13 : runsTo [] refTA6_e13 = true := by decide +kernel
def refTA6_e14 : En := ⟨196, [.agg #[.bool false, .string ⟨#[22, 160, 158, 102, 137, 101, 255]⟩, .int .i64 (.negSucc 52)], .agg #[.bool false, .string ⟨#[22, 160, 158, 102, 137, 101, 255]⟩, .int .i64 (.negSucc 52)]], [.agg #[.bool false, .string ⟨#[2, 0, 0, 0, 1, 204, 1, 254, 109, 201, 135, 145, 52, 1]⟩, .int .i64 (.negSucc 105)], .int .i64 (.ofNat 0)]⟩
theorem refTA6_r14 : runsTo [] refTA6_e14 = true := by decide +kernel
def refTA6_e15 : En := ⟨131, [.agg #[.bool false, .string ⟨#[2, 0, 0, 0, 1, 204, 1, 254, 109, 201, 135, 145, 52, 1]⟩, .int .i64 (.negSucc 105)], .agg #[.bool false, .string ⟨#[1]⟩, .int .i64 (.negSucc 0)]], [.int .i64 (.ofNat 1), .int .i64 (.ofNat 0)]⟩
theorem refTA6_r15 : runsTo [] refTA6_e15 = true := by decide +kernel
def refTA6_e16 : En := ⟨182, [.float .f64 4604544271217944319], [.agg #[.bool false, .string ⟨#[22, 160, 158, 102, 129, 102, 255]⟩, .int .i64 (.negSucc 52)], .int .i64 (.ofNat 0)]⟩
theorem refTA6_r16 : runsTo [] refTA6_e16 = true := by decide +kernel
def refTA6_e17 : En := ⟨196, [.agg #[.bool false, .string ⟨#[22, 160, 158, 102, 129, 102, 255]⟩, .int .i64 (.negSucc 52)], .agg #[.bool false, .string ⟨#[22, 160, 158, 102, 129, 102, 255]⟩, .int .i64 (.negSucc 52)]], [.agg #[.bool false, .string ⟨#[2, 0, 0, 0, 0, 98, 37, 89, 66, 64, 42, 110, 50, 1]⟩, .int .i64 (.negSucc 105)], .int .i64 (.ofNat 0)]⟩
theorem refTA6_r17 : runsTo [] refTA6_e17 = true := by decide +kernel
def refTA6_e18 : En := ⟨131, [.agg #[.bool false, .string ⟨#[2, 0, 0, 0, 0, 98, 37, 89, 66, 64, 42, 110, 50, 1]⟩, .int .i64 (.negSucc 105)], .agg #[.bool false, .string ⟨#[1]⟩, .int .i64 (.negSucc 0)]], [.int .i64 (.ofNat 1), .int .i64 (.ofNat 0)]⟩
theorem refTA6_r18 : runsTo [] refTA6_e18 = true := by decide +kernel
def refTA6_e19 : En := ⟨182, [.float .f64 4604544271217682303], [.agg #[.bool false, .string ⟨#[22, 160, 158, 102, 125, 103, 127]⟩, .int .i64 (.negSucc 52)], .int .i64 (.ofNat 0)]⟩
theorem refTA6_r19 : runsTo [] refTA6_e19 = true := by decide +kernel
def refTA6_e20 : En := ⟨196, [.agg #[.bool false, .string ⟨#[22, 160, 158, 102, 125, 103, 127]⟩, .int .i64 (.negSucc 52)], .agg #[.bool false, .string ⟨#[22, 160, 158, 102, 125, 103, 127]⟩, .int .i64 (.negSucc 52)]], [.agg #[.bool false, .string ⟨#[1, 255, 255, 255, 255, 173, 55, 6, 172, 171, 111, 221, 113, 1]⟩, .int .i64 (.negSucc 105)], .int .i64 (.ofNat 0)]⟩
theorem refTA6_r20 : runsTo [] refTA6_e20 = true := by decide +kernel
def refTA6_e21 : En := ⟨131, [.agg #[.bool false, .string ⟨#[1, 255, 255, 255, 255, 173, 55, 6, 172, 171, 111, 221, 113, 1]⟩, .int .i64 (.negSucc 105)], .agg #[.bool false, .string ⟨#[1]⟩, .int .i64 (.negSucc 0)]], [.int .i64 (.negSucc 0), .int .i64 (.ofNat 0)]⟩
theorem refTA6_r21 : runsTo [] refTA6_e21 = true := by decide +kernel
def refTA6_e22 : En := ⟨182, [.float .f64 4604544271217813311], [.agg #[.bool false, .string ⟨#[22, 160, 158, 102, 127, 103, 63]⟩, .int .i64 (.negSucc 52)], .int .i64 (.ofNat 0)]⟩
theorem refTA6_r22 : runsTo [] refTA6_e22 = true := by decide +kernel
def refTA6_e23 : En := ⟨196, [.agg #[.bool false, .string ⟨#[22, 160, 158, 102, 127, 103, 63]⟩, .int .i64 (.negSucc 52)], .agg #[.bool false, .string ⟨#[22, 160, 158, 102, 127, 103, 63]⟩, .int .i64 (.negSucc 52)]], [.agg #[.bool false, .string ⟨#[2, 0, 0, 0, 0, 7, 174, 47, 247, 113, 206, 37, 193, 129]⟩, .int .i64 (.negSucc 105)], .int .i64 (.ofNat 0)]⟩
theorem refTA6_r23 : runsTo [] refTA6_e23 = true := by decide +kernel
def refTA6_e24 : En := ⟨131, [.agg #[.bool false, .string ⟨#[2, 0, 0, 0, 0, 7, 174, 47, 247, 113, 206, 37, 193, 129]⟩, .int .i64 (.negSucc 105)], .agg #[.bool false, .string ⟨#[1]⟩, .int .i64 (.negSucc 0)]], [.int .i64 (.ofNat 1), .int .i64 (.ofNat 0)]⟩
theorem refTA6_r24 : runsTo [] refTA6_e24 = true := by decide +kernel
def refTA6_e25 : En := ⟨182, [.float .f64 4604544271217747807], [.agg #[.bool false, .string ⟨#[22, 160, 158, 102, 126, 103, 95]⟩, .int .i64 (.negSucc 52)], .int .i64 (.ofNat 0)]⟩
theorem refTA6_r25 : runsTo [] refTA6_e25 = true := by decide +kernel
def refTA6_e26 : En := ⟨196, [.agg #[.bool false, .string ⟨#[22, 160, 158, 102, 126, 103, 95]⟩, .int .i64 (.negSucc 52)], .agg #[.bool false, .string ⟨#[22, 160, 158, 102, 126, 103, 95]⟩, .int .i64 (.negSucc 52)]], [.agg #[.bool false, .string ⟨#[1, 255, 255, 255, 255, 218, 114, 155, 82, 13, 159, 65, 149, 65]⟩, .int .i64 (.negSucc 105)], .int .i64 (.ofNat 0)]⟩
theorem refTA6_r26 : runsTo [] refTA6_e26 = true := by decide +kernel
def refTA6_e27 : En := ⟨131, [.agg #[.bool false, .string ⟨#[1, 255, 255, 255, 255, 218, 114, 155, 82, 13, 159, 65, 149, 65]⟩, .int .i64 (.negSucc 105)], .agg #[.bool false, .string ⟨#[1]⟩, .int .i64 (.negSucc 0)]], [.int .i64 (.negSucc 0), .int .i64 (.ofNat 0)]⟩
theorem refTA6_r27 : runsTo [] refTA6_e27 = true := by decide +kernel
def refTA6_e28 : En := ⟨182, [.float .f64 4604544271217780559], [.agg #[.bool false, .string ⟨#[22, 160, 158, 102, 126, 231, 79]⟩, .int .i64 (.negSucc 52)], .int .i64 (.ofNat 0)]⟩
theorem refTA6_r28 : runsTo [] refTA6_e28 = true := by decide +kernel
def refTA6_e29 : En := ⟨196, [.agg #[.bool false, .string ⟨#[22, 160, 158, 102, 126, 231, 79]⟩, .int .i64 (.negSucc 52)], .agg #[.bool false, .string ⟨#[22, 160, 158, 102, 126, 231, 79]⟩, .int .i64 (.negSucc 52)]], [.agg #[.bool false, .string ⟨#[1, 255, 255, 255, 255, 241, 16, 101, 164, 191, 118, 195, 170, 97]⟩, .int .i64 (.negSucc 105)], .int .i64 (.ofNat 0)]⟩
theorem refTA6_r29 : runsTo [] refTA6_e29 = true := by decide +kernel
def refTA6_e30 : En := ⟨131, [.agg #[.bool false, .string ⟨#[1, 255, 255, 255, 255, 241, 16, 101, 164, 191, 118, 195, 170, 97]⟩, .int .i64 (.negSucc 105)], .agg #[.bool false, .string ⟨#[1]⟩, .int .i64 (.negSucc 0)]], [.int .i64 (.negSucc 0), .int .i64 (.ofNat 0)]⟩
theorem refTA6_r30 : runsTo [] refTA6_e30 = true := by decide +kernel
def refTA6_e31 : En := ⟨182, [.float .f64 4604544271217796935], [.agg #[.bool false, .string ⟨#[22, 160, 158, 102, 127, 39, 71]⟩, .int .i64 (.negSucc 52)], .int .i64 (.ofNat 0)]⟩
theorem refTA6_r31 : runsTo [] refTA6_e31 = true := by decide +kernel
def refTA6_e32 : En := ⟨196, [.agg #[.bool false, .string ⟨#[22, 160, 158, 102, 127, 39, 71]⟩, .int .i64 (.negSucc 52)], .agg #[.bool false, .string ⟨#[22, 160, 158, 102, 127, 39, 71]⟩, .int .i64 (.negSucc 52)]], [.agg #[.bool false, .string ⟨#[1, 255, 255, 255, 255, 252, 95, 74, 206, 24, 146, 120, 181, 177]⟩, .int .i64 (.negSucc 105)], .int .i64 (.ofNat 0)]⟩
theorem refTA6_r32 : runsTo [] refTA6_e32 = true := by decide +kernel
def refTA6_e33 : En := ⟨131, [.agg #[.bool false, .string ⟨#[1, 255, 255, 255, 255, 252, 95, 74, 206, 24, 146, 120, 181, 177]⟩, .int .i64 (.negSucc 105)], .agg #[.bool false, .string ⟨#[1]⟩, .int .i64 (.negSucc 0)]], [.int .i64 (.negSucc 0), .int .i64 (.ofNat 0)]⟩
theorem refTA6_r33 : runsTo [] refTA6_e33 = true := by decide +kernel
def refTA6_e34 : En := ⟨182, [.float .f64 4604544271217805123], [.agg #[.bool false, .string ⟨#[22, 160, 158, 102, 127, 71, 67]⟩, .int .i64 (.negSucc 52)], .int .i64 (.ofNat 0)]⟩
theorem refTA6_r34 : runsTo [] refTA6_e34 = true := by decide +kernel
def refTA6_e35 : En := ⟨196, [.agg #[.bool false, .string ⟨#[22, 160, 158, 102, 127, 71, 67]⟩, .int .i64 (.negSucc 52)], .agg #[.bool false, .string ⟨#[22, 160, 158, 102, 127, 71, 67]⟩, .int .i64 (.negSucc 52)]], [.agg #[.bool false, .string ⟨#[2, 0, 0, 0, 0, 2, 6, 189, 98, 197, 44, 80, 59, 137]⟩, .int .i64 (.negSucc 105)], .int .i64 (.ofNat 0)]⟩
theorem refTA6_r35 : runsTo [] refTA6_e35 = true := by decide +kernel
def refTA6_e36 : En := ⟨131, [.agg #[.bool false, .string ⟨#[2, 0, 0, 0, 0, 2, 6, 189, 98, 197, 44, 80, 59, 137]⟩, .int .i64 (.negSucc 105)], .agg #[.bool false, .string ⟨#[1]⟩, .int .i64 (.negSucc 0)]], [.int .i64 (.ofNat 1), .int .i64 (.ofNat 0)]⟩
theorem refTA6_r36 : runsTo [] refTA6_e36 = true := by decide +kernel
def refTA6_e37 : En := ⟨182, [.float .f64 4604544271217801029], [.agg #[.bool false, .string ⟨#[22, 160, 158, 102, 127, 55, 69]⟩, .int .i64 (.negSucc 52)], .int .i64 (.ofNat 0)]⟩
theorem refTA6_r37 : runsTo [] refTA6_e37 = true := by decide +kernel
def refTA6_e38 : En := ⟨196, [.agg #[.bool false, .string ⟨#[22, 160, 158, 102, 127, 55, 69]⟩, .int .i64 (.negSucc 52)], .agg #[.bool false, .string ⟨#[22, 160, 158, 102, 127, 55, 69]⟩, .int .i64 (.negSucc 52)]], [.agg #[.bool false, .string ⟨#[1, 255, 255, 255, 255, 255, 51, 4, 24, 110, 222, 100, 184, 153]⟩, .int .i64 (.negSucc 105)], .int .i64 (.ofNat 0)]⟩
theorem refTA6_r38 : runsTo [] refTA6_e38 = true := by decide +kernel
def refTA6_e39 : En := ⟨131, [.agg #[.bool false, .string ⟨#[1, 255, 255, 255, 255, 255, 51, 4, 24, 110, 222, 100, 184, 153]⟩, .int .i64 (.negSucc 105)], .agg #[.bool false, .string ⟨#[1]⟩, .int .i64 (.negSucc 0)]], [.int .i64 (.negSucc 0), .int .i64 (.ofNat 0)]⟩
theorem refTA6_r39 : runsTo [] refTA6_e39 = true := by decide +kernel
def refTA6_e40 : En := ⟨182, [.float .f64 4604544271217803076], [.agg #[.bool false, .string ⟨#[5, 168, 39, 153, 159, 207, 209]⟩, .int .i64 (.negSucc 50)], .int .i64 (.ofNat 0)]⟩
theorem refTA6_r40 : runsTo [] refTA6_e40 = true := by decide +kernel
def refTA6_e41 : En := ⟨196, [.agg #[.bool false, .string ⟨#[5, 168, 39, 153, 159, 207, 209]⟩, .int .i64 (.negSucc 50)], .agg #[.bool false, .string ⟨#[5, 168, 39, 153, 159, 207, 209]⟩, .int .i64 (.negSucc 50)]], [.agg #[.bool false, .string ⟨#[32, 0, 0, 0, 0, 9, 206, 11, 217, 160, 81, 168, 161]⟩, .int .i64 (.negSucc 101)], .int .i64 (.ofNat 0)]⟩
theorem refTA6_r41 : runsTo [] refTA6_e41 = true := by decide +kernel
def refTA6_e42 : En := ⟨131, [.agg #[.bool false, .string ⟨#[32, 0, 0, 0, 0, 9, 206, 11, 217, 160, 81, 168, 161]⟩, .int .i64 (.negSucc 101)], .agg #[.bool false, .string ⟨#[1]⟩, .int .i64 (.negSucc 0)]], [.int .i64 (.ofNat 1), .int .i64 (.ofNat 0)]⟩
theorem refTA6_r42 : runsTo [] refTA6_e42 = true := by decide +kernel
def refTA6_e43 : En := ⟨182, [.float .f64 4604544271217802053], [.agg #[.bool false, .string ⟨#[22, 160, 158, 102, 127, 59, 69]⟩, .int .i64 (.negSucc 52)], .int .i64 (.ofNat 0)]⟩
theorem refTA6_r43 : runsTo [] refTA6_e43 = true := by decide +kernel
def refTA6_e44 : En := ⟨196, [.agg #[.bool false, .string ⟨#[22, 160, 158, 102, 127, 59, 69]⟩, .int .i64 (.negSucc 52)], .agg #[.bool false, .string ⟨#[22, 160, 158, 102, 127, 59, 69]⟩, .int .i64 (.negSucc 52)]], [.agg #[.bool false, .string ⟨#[1, 255, 255, 255, 255, 255, 232, 9, 11, 162, 216, 46, 224, 153]⟩, .int .i64 (.negSucc 105)], .int .i64 (.ofNat 0)]⟩
theorem refTA6_r44 : runsTo [] refTA6_e44 = true := by decide +kernel
def refTA6_e45 : En := ⟨131, [.agg #[.bool false, .string ⟨#[1, 255, 255, 255, 255, 255, 232, 9, 11, 162, 216, 46, 224, 153]⟩, .int .i64 (.negSucc 105)], .agg #[.bool false, .string ⟨#[1]⟩, .int .i64 (.negSucc 0)]], [.int .i64 (.negSucc 0), .int .i64 (.ofNat 0)]⟩
theorem refTA6_r45 : runsTo [] refTA6_e45 = true := by decide +kernel
def refTA6_e46 : En := ⟨182, [.float .f64 4604544271217802565], [.agg #[.bool false, .string ⟨#[22, 160, 158, 102, 127, 61, 69]⟩, .int .i64 (.negSucc 52)], .int .i64 (.ofNat 0)]⟩
theorem refTA6_r46 : runsTo [] refTA6_e46 = true := by decide +kernel
def refTA6_e47 : En := ⟨196, [.agg #[.bool false, .string ⟨#[22, 160, 158, 102, 127, 61, 69]⟩, .int .i64 (.negSucc 52)], .agg #[.bool false, .string ⟨#[22, 160, 158, 102, 127, 61, 69]⟩, .int .i64 (.negSucc 52)]], [.agg #[.bool false, .string ⟨#[2, 0, 0, 0, 0, 0, 66, 139, 133, 60, 213, 31, 244, 153]⟩, .int .i64 (.negSucc 105)], .int .i64 (.ofNat 0)]⟩
theorem refTA6_r47 : runsTo [] refTA6_e47 = true := by decide +kernel
def refTA6_e48 : En := ⟨131, [.agg #[.bool false, .string ⟨#[2, 0, 0, 0, 0, 0, 66, 139, 133, 60, 213, 31, 244, 153]⟩, .int .i64 (.negSucc 105)], .agg #[.bool false, .string ⟨#[1]⟩, .int .i64 (.negSucc 0)]], [.int .i64 (.ofNat 1), .int .i64 (.ofNat 0)]⟩
theorem refTA6_r48 : runsTo [] refTA6_e48 = true := by decide +kernel
def refTA6_e49 : En := ⟨182, [.float .f64 4604544271217802309], [.agg #[.bool false, .string ⟨#[22, 160, 158, 102, 127, 60, 69]⟩, .int .i64 (.negSucc 52)], .int .i64 (.ofNat 0)]⟩
theorem refTA6_r49 : runsTo [] refTA6_e49 = true := by decide +kernel
def refTA6_e50 : En := ⟨196, [.agg #[.bool false, .string ⟨#[22, 160, 158, 102, 127, 60, 69]⟩, .int .i64 (.negSucc 52)], .agg #[.bool false, .string ⟨#[22, 160, 158, 102, 127, 60, 69]⟩, .int .i64 (.negSucc 52)]], [.agg #[.bool false, .string ⟨#[2, 0, 0, 0, 0, 0, 21, 74, 72, 111, 214, 166, 106, 153]⟩, .int .i64 (.negSucc 105)], .int .i64 (.ofNat 0)]⟩
theorem refTA6_r50 : runsTo [] refTA6_e50 = true := by decide +kernel
def refTA6_e51 : En := ⟨131, [.agg #[.bool false, .string ⟨#[2, 0, 0, 0, 0, 0, 21, 74, 72, 111, 214, 166, 106, 153]⟩, .int .i64 (.negSucc 105)], .agg #[.bool false, .string ⟨#[1]⟩, .int .i64 (.negSucc 0)]], [.int .i64 (.ofNat 1), .int .i64 (.ofNat 0)]⟩
theorem refTA6_r51 : runsTo [] refTA6_e51 = true := by decide +kernel
def refTA6 : List En := [refTA6_e0, refTA6_e1, refTA6_e2, refTA6_e3, refTA6_e4, refTA6_e5, refTA6_e6, refTA6_e7, refTA6_e8, refTA6_e9, refTA6_e10, refTA6_e11, refTA6_e12, refTA6_e13, refTA6_e14, refTA6_e15, refTA6_e16, refTA6_e17, refTA6_e18, refTA6_e19, refTA6_e20, refTA6_e21, refTA6_e22, refTA6_e23, refTA6_e24, refTA6_e25, refTA6_e26, refTA6_e27, refTA6_e28, refTA6_e29, refTA6_e30, refTA6_e31, refTA6_e32, refTA6_e33, refTA6_e34, refTA6_e35, refTA6_e36, refTA6_e37, refTA6_e38, refTA6_e39, refTA6_e40, refTA6_e41, refTA6_e42, refTA6_e43, refTA6_e44, refTA6_e45, refTA6_e46, refTA6_e47, refTA6_e48, refTA6_e49, refTA6_e50, refTA6_e51]
theorem refTA6_ok : ∀ e ∈ refTA6, EnOK e := all_cons (runsTo_ok all_nil refTA6_r0) <| all_cons (runsTo_ok all_nil refTA6_r1) <| all_cons (runsTo_ok all_nil refTA6_r2) <| all_cons (runsTo_ok all_nil refTA6_r3) <| all_cons (runsTo_ok all_nil refTA6_r4) <| all_cons (runsTo_ok all_nil refTA6_r5) <| all_cons (runsTo_ok all_nil refTA6_r6) <| all_cons (runsTo_ok all_nil refTA6_r7) <| all_cons (runsTo_ok all_nil refTA6_r8) <| all_cons (runsTo_ok all_nil refTA6_r9) <| all_cons (runsTo_ok all_nil refTA6_r10) <| all_cons (runsTo_ok all_nil refTA6_r11) <| all_cons (runsTo_ok all_nil refTA6_r12) <| all_cons (runsTo_ok all_nil refTA6_r13) <| all_cons (runsTo_ok all_nil refTA6_r14) <| all_cons (runsTo_ok all_nil refTA6_r15) <| all_cons (runsTo_ok all_nil refTA6_r16) <| all_cons (runsTo_ok all_nil refTA6_r17) <| all_cons (runsTo_ok all_nil refTA6_r18) <| all_cons (runsTo_ok all_nil refTA6_r19) <| all_cons (runsTo_ok all_nil refTA6_r20) <| all_cons (runsTo_ok all_nil refTA6_r21) <| all_cons (runsTo_ok all_nil refTA6_r22) <| all_cons (runsTo_ok all_nil refTA6_r23) <| all_cons (runsTo_ok all_nil refTA6_r24) <| all_cons (runsTo_ok all_nil refTA6_r25) <| all_cons (runsTo_ok all_nil refTA6_r26) <| all_cons (runsTo_ok all_nil refTA6_r27) <| all_cons (runsTo_ok all_nil refTA6_r28) <| all_cons (runsTo_ok all_nil refTA6_r29) <| all_cons (runsTo_ok all_nil refTA6_r30) <| all_cons (runsTo_ok all_nil refTA6_r31) <| all_cons (runsTo_ok all_nil refTA6_r32) <| all_cons (runsTo_ok all_nil refTA6_r33) <| all_cons (runsTo_ok all_nil refTA6_r34) <| all_cons (runsTo_ok all_nil refTA6_r35) <| all_cons (runsTo_ok all_nil refTA6_r36) <| all_cons (runsTo_ok all_nil refTA6_r37) <| all_cons (runsTo_ok all_nil refTA6_r38) <| all_cons (runsTo_ok all_nil refTA6_r39) <| all_cons (runsTo_ok all_nil refTA6_r40) <| all_cons (runsTo_ok all_nil refTA6_r41) <| all_cons (runsTo_ok all_nil refTA6_r42) <| all_cons (runsTo_ok all_nil refTA6_r43) <| all_cons (runsTo_ok all_nil refTA6_r44) <| all_cons (runsTo_ok all_nil refTA6_r45) <| all_cons (runsTo_ok all_nil refTA6_r46) <| all_cons (runsTo_ok all_nil refTA6_r47) <| all_cons (runsTo_ok all_nil refTA6_r48) <| all_cons (runsTo_ok all_nil refTA6_r49) <| all_cons (runsTo_ok all_nil refTA6_r50) <| all_cons (runsTo_ok all_nil refTA6_r51) <|  all_nil
end Go.Proofs.YtneakieigiafpaaGreatDoor
