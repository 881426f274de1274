/- Calls behind view.Cover of some squares (part 4): each is run by the kernel. -/
import Derived.Test.YtneakieigiafpaaGreatDoorExR
namespace Go.Proofs.YtneakieigiafpaaGreatDoor
open Go.Ex
set_option maxRecDepth 100000
def refTA3_e0 : En := ⟨196, [.agg #[.bool false, .string ⟨#[22, 160, 158, 102, 126, 102, 95]⟩, .int .i64 (.negSucc 51)], .agg #[.bool false, .string ⟨#[22, 160, 158, 102, 126, 102, 95]⟩, .int .i64 (.negSucc 51)]], [.agg #[.bool false, .string ⟨#[1, 255, 255, 255, 255, 218, 69, 90, 21, 64, 162, 115, 215, 65]⟩, .int .i64 (.negSucc 103)], .int .i64 (.ofNat 0)]⟩
theorem refTA3_r0 : runsTo [] refTA3_e0 = true := by decide +kernel
def refTA3_e1 : En := ⟨131, [.agg #[.bool false, .string ⟨#[1, 255, 255, 255, 255, 218, 69, 90, 21, 64, 162, 115, 215, 65]⟩, .int .i64 (.negSucc 103)], .agg #[.bool false, .string ⟨#[1]⟩, .int .i64 (.ofNat 1)]], [.int .i64 (.negSucc 0), .int .i64 (.ofNat 0)]⟩
theorem refTA3_r1 : runsTo [] refTA3_e1 = true := by decide +kernel
def refTA3_e2 : En := ⟨182, [.float .f64 4609047870845150799], [.agg #[.bool false, .string ⟨#[22, 160, 158, 102, 126, 230, 79]⟩, .int .i64 (.negSucc 51)], .int .i64 (.ofNat 0)]⟩
theorem refTA3_r2 : runsTo [] refTA3_e2 = true := by decide +kernel
def refTA3_e3 : En := ⟨196, [.agg #[.bool false, .string ⟨#[22, 160, 158, 102, 126, 230, 79]⟩, .int .i64 (.negSucc 51)], .agg #[.bool false, .string ⟨#[22, 160, 158, 102, 126, 230, 79]⟩, .int .i64 (.negSucc 51)]], [.agg #[.bool false, .string ⟨#[1, 255, 255, 255, 255, 240, 227, 36, 103, 242, 120, 246, 12, 97]⟩, .int .i64 (.negSucc 103)], .int .i64 (.ofNat 0)]⟩
theorem refTA3_r3 : runsTo [] refTA3_e3 = true := by decide +kernel
def refTA3_e4 : En := ⟨131, [.agg #[.bool false, .string ⟨#[1, 255, 255, 255, 255, 240, 227, 36, 103, 242, 120, 246, 12, 97]⟩, .int .i64 (.negSucc 103)], .agg #[.bool false, .string ⟨#[1]⟩, .int .i64 (.ofNat 1)]], [.int .i64 (.negSucc 0), .int .i64 (.ofNat 0)]⟩
theorem refTA3_r4 : runsTo [] refTA3_e4 = true := by decide +kernel
def refTA3_e5 : En := ⟨182, [.float .f64 4609047870845167175], [.agg #[.bool false, .string ⟨#[22, 160, 158, 102, 127, 38, 71]⟩, .int .i64 (.negSucc 51)], .int .i64 (.ofNat 0)]⟩
theorem refTA3_r5 : runsTo [] refTA3_e5 = true := by decide +kernel
def refTA3_e6 : En := ⟨196, [.agg #[.bool false, .string ⟨#[22, 160, 158, 102, 127, 38, 71]⟩, .int .i64 (.negSucc 51)], .agg #[.bool false, .string ⟨#[22, 160, 158, 102, 127, 38, 71]⟩, .int .i64 (.negSucc 51)]], [.agg #[.bool false, .string ⟨#[1, 255, 255, 255, 255, 252, 50, 9, 145, 75, 148, 43, 39, 177]⟩, .int .i64 (.negSucc 103)], .int .i64 (.ofNat 0)]⟩
theorem refTA3_r6 : runsTo [] refTA3_e6 = true := by decide +kernel
def refTA3_e7 : En := ⟨131, [.agg #[.bool false, .string ⟨#[1, 255, 255, 255, 255, 252, 50, 9, 145, 75, 148, 43, 39, 177]⟩, .int .i64 (.negSucc 103)], .agg #[.bool false, .string ⟨#[1]⟩, .int .i64 (.ofNat 1)]], [.int .i64 (.negSucc 0), .int .i64 (.ofNat 0)]⟩
theorem refTA3_r7 : runsTo [] refTA3_e7 = true := by decide +kernel
def refTA3_e8 : En := ⟨182, [.float .f64 4609047870845175363], [.agg #[.bool false, .string ⟨#[22, 160, 158, 102, 127, 70, 67]⟩, .int .i64 (.negSucc 51)], .int .i64 (.ofNat 0)]⟩
theorem refTA3_r8 : runsTo [] refTA3_e8 = true := by decide +kernel
def refTA3_e9 : En := ⟨196, [.agg #[.bool false, .string ⟨#[22, 160, 158, 102, 127, 70, 67]⟩, .int .i64 (.negSucc 51)], .agg #[.bool false, .string ⟨#[22, 160, 158, 102, 127, 70, 67]⟩, .int .i64 (.negSucc 51)]], [.agg #[.bool false, .string ⟨#[2, 0, 0, 0, 0, 1, 217, 124, 37, 248, 45, 194, 181, 137]⟩, .int .i64 (.negSucc 103)], .int .i64 (.ofNat 0)]⟩
theorem refTA3_r9 : runsTo [] refTA3_e9 = true := by decide +kernel
def refTA3_e10 : En := ⟨131, [.agg #[.bool false, .string ⟨#[2, 0, 0, 0, 0, 1, 217, 124, 37, 248, 45, 194, 181, 137]⟩, .int .i64 (.negSucc 103)], .agg #[.bool false, .string ⟨#[1]⟩, .int .i64 (.ofNat 1)]], [.int .i64 (.ofNat 1), .int .i64 (.ofNat 0)]⟩
theorem refTA3_r10 : runsTo [] refTA3_e10 = true := by decide +kernel
def refTA3_e11 : En := ⟨182, [.float .f64 4609047870845171269], [.agg #[.bool false, .string ⟨#[22, 160, 158, 102, 127, 54, 69]⟩, .int .i64 (.negSucc 51)], .int .i64 (.ofNat 0)]⟩
theorem refTA3_r11 : runsTo [] refTA3_e11 = true := by decide +kernel
def refTA3_e12 : En := ⟨196, [.agg #[.bool false, .string ⟨#[22, 160, 158, 102, 127, 54, 69]⟩, .int .i64 (.negSucc 51)], .agg #[.bool false, .string ⟨#[22, 160, 158, 102, 127, 54, 69]⟩, .int .i64 (.negSucc 51)]], [.agg #[.bool false, .string ⟨#[1, 255, 255, 255, 255, 255, 5, 194, 219, 161, 223, 247, 46, 153]⟩, .int .i64 (.negSucc 103)], .int .i64 (.ofNat 0)]⟩
theorem refTA3_r12 : runsTo [] refTA3_e12 = true := by decide +kernel
def refTA3_e13 : En := ⟨131, [.agg #[.bool false, .string ⟨#[1, 255, 255, 255, 255, 255, 5, 194, 219, 161, 223, 247, 46, 153]⟩, .int .i64 (.negSucc 103)], .agg #[.bool false, .string ⟨#[1]⟩, .int .i64 (.ofNat 1)]], [.int .i64 (.negSucc 0), .int .i64 (.ofNat 0)]⟩
theorem refTA3_r13 : runsTo [] refTA3_e13 = true := by decide +kernel
def refTA3_e14 : En := ⟨182, [.float .f64 4609047870845173316], [.agg #[.bool false, .string ⟨#[5, 168, 39, 153, 159, 207, 145]⟩, .int .i64 (.negSucc 49)], .int .i64 (.ofNat 0)]⟩
theorem refTA3_r14 : runsTo [] refTA3_e14 = true := by decide +kernel
def refTA3_e15 : En := ⟨196, [.agg #[.bool false, .string ⟨#[5, 168, 39, 153, 159, 207, 145]⟩, .int .i64 (.negSucc 49)], .agg #[.bool false, .string ⟨#[5, 168, 39, 153, 159, 207, 145]⟩, .int .i64 (.negSucc 49)]], [.agg #[.bool false, .string ⟨#[32, 0, 0, 0, 0, 6, 249, 248, 12, 208, 105, 208, 33]⟩, .int .i64 (.negSucc 99)], .int .i64 (.ofNat 0)]⟩
theorem refTA3_r15 : runsTo [] refTA3_e15 = true := by decide +kernel
def refTA3_e16 : En := ⟨131, [.agg #[.bool false, .string ⟨#[32, 0, 0, 0, 0, 6, 249, 248, 12, 208, 105, 208, 33]⟩, .int .i64 (.negSucc 99)], .agg #[.bool false, .string ⟨#[1]⟩, .int .i64 (.ofNat 1)]], [.int .i64 (.ofNat 1), .int .i64 (.ofNat 0)]⟩
theorem refTA3_r16 : runsTo [] refTA3_e16 = true := by decide +kernel
def refTA3_e17 : En := ⟨182, [.float .f64 4609047870845172293], [.agg #[.bool false, .string ⟨#[22, 160, 158, 102, 127, 58, 69]⟩, .int .i64 (.negSucc 51)], .int .i64 (.ofNat 0)]⟩
theorem refTA3_r17 : runsTo [] refTA3_e17 = true := by decide +kernel
def refTA3_e18 : En := ⟨196, [.agg #[.bool false, .string ⟨#[22, 160, 158, 102, 127, 58, 69]⟩, .int .i64 (.negSucc 51)], .agg #[.bool false, .string ⟨#[22, 160, 158, 102, 127, 58, 69]⟩, .int .i64 (.negSucc 51)]], [.agg #[.bool false, .string ⟨#[1, 255, 255, 255, 255, 255, 186, 199, 206, 213, 217, 185, 86, 153]⟩, .int .i64 (.negSucc 103)], .int .i64 (.ofNat 0)]⟩
theorem refTA3_r18 : runsTo [] refTA3_e18 = true := by decide +kernel
def refTA3_e19 : En := ⟨131, [.agg #[.bool false, .string ⟨#[1, 255, 255, 255, 255, 255, 186, 199, 206, 213, 217, 185, 86, 153]⟩, .int .i64 (.negSucc 103)], .agg #[.bool false, .string ⟨#[1]⟩, .int .i64 (.ofNat 1)]], [.int .i64 (.negSucc 0), .int .i64 (.ofNat 0)]⟩
theorem refTA3_r19 : runsTo [] refTA3_e19 = true := by decide +kernel
def refTA3_e20 : En := ⟨182, [.float .f64 4609047870845172805], [.agg #[.bool false, .string ⟨#[22, 160, 158, 102, 127, 60, 69]⟩, .int .i64 (.negSucc 51)], .int .i64 (.ofNat 0)]⟩
theorem refTA3_r20 : runsTo [] refTA3_e20 = true := by decide +kernel
def refTA3_e21 : En := ⟨196, [.agg #[.bool false, .string ⟨#[22, 160, 158, 102, 127, 60, 69]⟩, .int .i64 (.negSucc 51)], .agg #[.bool false, .string ⟨#[22, 160, 158, 102, 127, 60, 69]⟩, .int .i64 (.negSucc 51)]], [.agg #[.bool false, .string ⟨#[2, 0, 0, 0, 0, 0, 21, 74, 72, 111, 214, 166, 106, 153]⟩, .int .i64 (.negSucc 103)], .int .i64 (.ofNat 0)]⟩
theorem refTA3_r21 : runsTo [] refTA3_e21 = true := by decide +kernel
def refTA3_e22 : En := ⟨131, [.agg #[.bool false, .string ⟨#[2, 0, 0, 0, 0, 0, 21, 74, 72, 111, 214, 166, 106, 153]⟩, .int .i64 (.negSucc 103)], .agg #[.bool false, .string ⟨#[1]⟩, .int .i64 (.ofNat 1)]], [.int .i64 (.ofNat 1), .int .i64 (.ofNat 0)]⟩
theorem refTA3_r22 : runsTo [] refTA3_e22 = true := by decide +kernel
def refTA3_e23 : En := ⟨182, [.float .f64 4609047870845172549], [.agg #[.bool false, .string ⟨#[22, 160, 158, 102, 127, 59, 69]⟩, .int .i64 (.negSucc 51)], .int .i64 (.ofNat 0)]⟩
theorem refTA3_r23 : runsTo [] refTA3_e23 = true := by decide +kernel
def refTA3_e24 : En := ⟨196, [.agg #[.bool false, .string ⟨#[22, 160, 158, 102, 127, 59, 69]⟩, .int .i64 (.negSucc 51)], .agg #[.bool false, .string ⟨#[22, 160, 158, 102, 127, 59, 69]⟩, .int .i64 (.negSucc 51)]], [.agg #[.bool false, .string ⟨#[1, 255, 255, 255, 255, 255, 232, 9, 11, 162, 216, 46, 224, 153]⟩, .int .i64 (.negSucc 103)], .int .i64 (.ofNat 0)]⟩
theorem refTA3_r24 : runsTo [] refTA3_e24 = true := by decide +kernel
def refTA3_e25 : En := ⟨131, [.agg #[.bool false, .string ⟨#[1, 255, 255, 255, 255, 255, 232, 9, 11, 162, 216, 46, 224, 153]⟩, .int .i64 (.negSucc 103)], .agg #[.bool false, .string ⟨#[1]⟩, .int .i64 (.ofNat 1)]], [.int .i64 (.negSucc 0), .int .i64 (.ofNat 0)]⟩
theorem refTA3_r25 : runsTo [] refTA3_e25 = true := by decide +kernel
def refTA3_e26 : En := ⟨182, [.float .f64 4609047870845172677], [.agg #[.bool false, .string ⟨#[22, 160, 158, 102, 127, 59, 197]⟩, .int .i64 (.negSucc 51)], .int .i64 (.ofNat 0)]⟩
theorem refTA3_r26 : runsTo [] refTA3_e26 = true := by decide +kernel
def refTA3_e27 : En := ⟨196, [.agg #[.bool false, .string ⟨#[22, 160, 158, 102, 127, 59, 197]⟩, .int .i64 (.negSucc 51)], .agg #[.bool false, .string ⟨#[22, 160, 158, 102, 127, 59, 197]⟩, .int .i64 (.negSucc 51)]], [.agg #[.bool false, .string ⟨#[1, 255, 255, 255, 255, 255, 254, 169, 170, 9, 87, 106, 101, 153]⟩, .int .i64 (.negSucc 103)], .int .i64 (.ofNat 0)]⟩
theorem refTA3_r27 : runsTo [] refTA3_e27 = true := by decide +kernel
def refTA3_e28 : En := ⟨131, [.agg #[.bool false, .string ⟨#[1, 255, 255, 255, 255, 255, 254, 169, 170, 9, 87, 106, 101, 153]⟩, .int .i64 (.negSucc 103)], .agg #[.bool false, .string ⟨#[1]⟩, .int .i64 (.ofNat 1)]], [.int .i64 (.negSucc 0), .int .i64 (.ofNat 0)]⟩
theorem refTA3_r28 : runsTo [] refTA3_e28 = true := by decide +kernel
def refTA3_e29 : En := ⟨182, [.float .f64 4609047870845172741], [.agg #[.bool false, .string ⟨#[22, 160, 158, 102, 127, 60, 5]⟩, .int .i64 (.negSucc 51)], .int .i64 (.ofNat 0)]⟩
theorem refTA3_r29 : runsTo [] refTA3_e29 = true := by decide +kernel
def refTA3_e30 : En := ⟨196, [.agg #[.bool false, .string ⟨#[22, 160, 158, 102, 127, 60, 5]⟩, .int .i64 (.negSucc 51)], .agg #[.bool false, .string ⟨#[22, 160, 158, 102, 127, 60, 5]⟩, .int .i64 (.negSucc 51)]], [.agg #[.bool false, .string ⟨#[2, 0, 0, 0, 0, 0, 9, 249, 249, 60, 151, 8, 88, 25]⟩, .int .i64 (.negSucc 103)], .int .i64 (.ofNat 0)]⟩
theorem refTA3_r30 : runsTo [] refTA3_e30 = true := by decide +kernel
def refTA3_e31 : En := ⟨131, [.agg #[.bool false, .string ⟨#[2, 0, 0, 0, 0, 0, 9, 249, 249, 60, 151, 8, 88, 25]⟩, .int .i64 (.negSucc 103)], .agg #[.bool false, .string ⟨#[1]⟩, .int .i64 (.ofNat 1)]], [.int .i64 (.ofNat 1), .int .i64 (.ofNat 0)]⟩
theorem refTA3_r31 : runsTo [] refTA3_e31 = true := by decide +kernel
def refTA3_e32 : En := ⟨182, [.float .f64 4609047870845172709], [.agg #[.bool false, .string ⟨#[22, 160, 158, 102, 127, 59, 229]⟩, .int .i64 (.negSucc 51)], .int .i64 (.ofNat 0)]⟩
theorem refTA3_r32 : runsTo [] refTA3_e32 = true := by decide +kernel
def refTA3_e33 : En := ⟨196, [.agg #[.bool false, .string ⟨#[22, 160, 158, 102, 127, 59, 229]⟩, .int .i64 (.negSucc 51)], .agg #[.bool false, .string ⟨#[22, 160, 158, 102, 127, 59, 229]⟩, .int .i64 (.negSucc 51)]], [.agg #[.bool false, .string ⟨#[2, 0, 0, 0, 0, 0, 4, 81, 209, 162, 247, 57, 90, 217]⟩, .int .i64 (.negSucc 103)], .int .i64 (.ofNat 0)]⟩
theorem refTA3_r33 : runsTo [] refTA3_e33 = true := by decide +kernel
def refTA3_e34 : En := ⟨131, [.agg #[.bool false, .string ⟨#[2, 0, 0, 0, 0, 0, 4, 81, 209, 162, 247, 57, 90, 217]⟩, .int .i64 (.negSucc 103)], .agg #[.bool false, .string ⟨#[1]⟩, .int .i64 (.ofNat 1)]], [.int .i64 (.ofNat 1), .int .i64 (.ofNat 0)]⟩
theorem refTA3_r34 : runsTo [] refTA3_e34 = true := by decide +kernel
def refTA3_e35 : En := ⟨182, [.float .f64 4609047870845172693], [.agg #[.bool false, .string ⟨#[22, 160, 158, 102, 127, 59, 213]⟩, .int .i64 (.negSucc 51)], .int .i64 (.ofNat 0)]⟩
theorem refTA3_r35 : runsTo [] refTA3_e35 = true := by decide +kernel
def refTA3_e36 : En := ⟨196, [.agg #[.bool false, .string ⟨#[22, 160, 158, 102, 127, 59, 213]⟩, .int .i64 (.negSucc 51)], .agg #[.bool false, .string ⟨#[22, 160, 158, 102, 127, 59, 213]⟩, .int .i64 (.negSucc 51)]], [.agg #[.bool false, .string ⟨#[2, 0, 0, 0, 0, 0, 1, 125, 189, 214, 39, 81, 223, 57]⟩, .int .i64 (.negSucc 103)], .int .i64 (.ofNat 0)]⟩
theorem refTA3_r36 : runsTo [] refTA3_e36 = true := by decide +kernel
def refTA3_e37 : En := ⟨131, [.agg #[.bool false, .string ⟨#[2, 0, 0, 0, 0, 0, 1, 125, 189, 214, 39, 81, 223, 57]⟩, .int .i64 (.negSucc 103)], .agg #[.bool false, .string ⟨#[1]⟩, .int .i64 (.ofNat 1)]], [.int .i64 (.ofNat 1), .int .i64 (.ofNat 0)]⟩
theorem refTA3_r37 : runsTo [] refTA3_e37 = true := by decide +kernel
def refTA3_e38 : En := ⟨182, [.float .f64 4609047870845172685], [.agg #[.bool false, .string ⟨#[22, 160, 158, 102, 127, 59, 205]⟩, .int .i64 (.negSucc 51)], .int .i64 (.ofNat 0)]⟩
theorem refTA3_r38 : runsTo [] refTA3_e38 = true := by decide +kernel
def refTA3_e39 : En := ⟨196, [.agg #[.bool false, .string ⟨#[22, 160, 158, 102, 127, 59, 205]⟩, .int .i64 (.negSucc 51)], .agg #[.bool false, .string ⟨#[22, 160, 158, 102, 127, 59, 205]⟩, .int .i64 (.negSucc 51)]], [.agg #[.bool false, .string ⟨#[2, 0, 0, 0, 0, 0, 0, 19, 179, 239, 191, 94, 34, 41]⟩, .int .i64 (.negSucc 103)], .int .i64 (.ofNat 0)]⟩
theorem refTA3_r39 : runsTo [] refTA3_e39 = true := by decide +kernel
def refTA3_e40 : En := ⟨131, [.agg #[.bool false, .string ⟨#[2, 0, 0, 0, 0, 0, 0, 19, 179, 239, 191, 94, 34, 41]⟩, .int .i64 (.negSucc 103)], .agg #[.bool false, .string ⟨#[1]⟩, .int .i64 (.ofNat 1)]], [.int .i64 (.ofNat 1), .int .i64 (.ofNat 0)]⟩
theorem refTA3_r40 : runsTo [] refTA3_e40 = true := by decide +kernel
def refTA3_e41 : En := ⟨182, [.float .f64 4609047870845172681], [.agg #[.bool false, .string ⟨#[22, 160, 158, 102, 127, 59, 201]⟩, .int .i64 (.negSucc 51)], .int .i64 (.ofNat 0)]⟩
theorem refTA3_r41 : runsTo [] refTA3_e41 = true := by decide +kernel
def refTA3_e42 : En := ⟨196, [.agg #[.bool false, .string ⟨#[22, 160, 158, 102, 127, 59, 201]⟩, .int .i64 (.negSucc 51)], .agg #[.bool false, .string ⟨#[22, 160, 158, 102, 127, 59, 201]⟩, .int .i64 (.negSucc 51)]], [.agg #[.bool false, .string ⟨#[1, 255, 255, 255, 255, 255, 255, 94, 174, 252, 139, 100, 67, 209]⟩, .int .i64 (.negSucc 103)], .int .i64 (.ofNat 0)]⟩
theorem refTA3_r42 : runsTo [] refTA3_e42 = true := by decide +kernel
def refTA3_e43 : En := ⟨131, [.agg #[.bool false, .string ⟨#[1, 255, 255, 255, 255, 255, 255, 94, 174, 252, 139, 100, 67, 209]⟩, .int .i64 (.negSucc 103)], .agg #[.bool false, .string ⟨#[1]⟩, .int .i64 (.ofNat 1)]], [.int .i64 (.negSucc 0), .int .i64 (.ofNat 0)]⟩
theorem refTA3_r43 : runsTo [] refTA3_e43 = true := by decide +kernel
def refTA3_e44 : En := ⟨182, [.float .f64 4609047870845172683], [.agg #[.bool false, .string ⟨#[22, 160, 158, 102, 127, 59, 203]⟩, .int .i64 (.negSucc 51)], .int .i64 (.ofNat 0)]⟩
theorem refTA3_r44 : runsTo [] refTA3_e44 = true := by decide +kernel
def refTA3_e45 : En := ⟨196, [.agg #[.bool false, .string ⟨#[22, 160, 158, 102, 127, 59, 203]⟩, .int .i64 (.negSucc 51)], .agg #[.bool false, .string ⟨#[22, 160, 158, 102, 127, 59, 203]⟩, .int .i64 (.negSucc 51)]], [.agg #[.bool false, .string ⟨#[1, 255, 255, 255, 255, 255, 255, 185, 49, 118, 37, 97, 50, 249]⟩, .int .i64 (.negSucc 103)], .int .i64 (.ofNat 0)]⟩
theorem refTA3_r45 : runsTo [] refTA3_e45 = true := by decide +kernel
def refTA3_e46 : En := ⟨131, [.agg #[.bool false, .string ⟨#[1, 255, 255, 255, 255, 255, 255, 185, 49, 118, 37, 97, 50, 249]⟩, .int .i64 (.negSucc 103)], .agg #[.bool false, .string ⟨#[1]⟩, .int .i64 (.ofNat 1)]], [.int .i64 (.negSucc 0), .int .i64 (.ofNat 0)]⟩
theorem refTA3_r46 : runsTo [] refTA3_e46 = true := by decide +kernel
def refTA3_e47 : En := ⟨182, [.float .f64 4609047870845172684], [.agg #[.bool false, .string ⟨#[5, 168, 39, 153, 159, 206, 243]⟩, .int .i64 (.negSucc 49)], .int .i64 (.ofNat 0)]⟩
theorem refTA3_r47 : runsTo [] refTA3_e47 = true := by decide +kernel
def refTA3_e48 : En := ⟨196, [.agg #[.bool false, .string ⟨#[5, 168, 39, 153, 159, 206, 243]⟩, .int .i64 (.negSucc 49)], .agg #[.bool false, .string ⟨#[5, 168, 39, 153, 159, 206, 243]⟩, .int .i64 (.negSucc 49)]], [.agg #[.bool false, .string ⟨#[31, 255, 255, 255, 255, 255, 254, 103, 43, 47, 37, 250, 169]⟩, .int .i64 (.negSucc 99)], .int .i64 (.ofNat 0)]⟩
theorem refTA3_r48 : runsTo [] refTA3_e48 = true := by decide +kernel
def refTA3_e49 : En := ⟨131, [.agg #[.bool false, .string ⟨#[31, 255, 255, 255, 255, 255, 254, 103, 43, 47, 37, 250, 169]⟩, .int .i64 (.negSucc 99)], .agg #[.bool false, .string ⟨#[1]⟩, .int .i64 (.ofNat 1)]], [.int .i64 (.negSucc 0), .int .i64 (.ofNat 0)]⟩
theorem refTA3_r49 : runsTo [] refTA3_e49 = true := by decide +kernel
def refTA3_e50 : En := ⟨125, [.agg #[.bool false, .string ⟨#[]⟩, .int .i64 (.ofNat 0), .bool false, .string ⟨#[]⟩, .int .i64 (.ofNat 0), .int .i64 (.ofNat 0)]], [.agg #[.bool false, .string ⟨#[]⟩, .int .i64 (.ofNat 0), .bool false, .string ⟨#[]⟩, .int .i64 (.ofNat 0), .bool false, .string ⟨#[1]⟩, .int .i64 (.ofNat 0), .bool false, .string ⟨#[]⟩, .int .i64 (.ofNat 0), .bool false, .string ⟨#[]⟩, .int .i64 (.ofNat 0), .bool false, .string ⟨#[1]⟩, .int .i64 (.ofNat 0), .bool false, .string ⟨#[1]⟩, .int .i64 (.ofNat 0), .bool false, .string ⟨#[1]⟩, .int .i64 (.ofNat 0)], .int .i64 (.ofNat 0)]⟩
theorem refTA3_r50 : runsTo [] refTA3_e50 = true := by decide +kernel
def refTA3_e51 : En := ⟨126, [.agg #[.bool false, .string ⟨#[]⟩, .int .i64 (.ofNat 0), .bool false, .string ⟨#[]⟩, .int .i64 (.ofNat 0), .int .i64 (.ofNat 0)]], [.agg #[.bool false, .string ⟨#[1]⟩, .int .i64 (.negSucc 0), .bool false, .string ⟨#[1]⟩, .int .i64 (.negSucc 0)], .int .i64 (.ofNat 0)]⟩
theorem refTA3_r51 : runsTo [] refTA3_e51 = true := by decide +kernel
def refTA3 : List En := [refTA3_e0, refTA3_e1, refTA3_e2, refTA3_e3, refTA3_e4, refTA3_e5, refTA3_e6, refTA3_e7, refTA3_e8, refTA3_e9, refTA3_e10, refTA3_e11, refTA3_e12, refTA3_e13, refTA3_e14, refTA3_e15, refTA3_e16, refTA3_e17, refTA3_e18, refTA3_e19, refTA3_e20, refTA3_e21, refTA3_e22, refTA3_e23, refTA3_e24, refTA3_e25, refTA3_e26, refTA3_e27, refTA3_e28, refTA3_e29, refTA3_e30, refTA3_e31, refTA3_e32, refTA3_e33, refTA3_e34, refTA3_e35, refTA3_e36, refTA3_e37, refTA3_e38, refTA3_e39, refTA3_e40, refTA3_e41, refTA3_e42, refTA3_e43, refTA3_e44, refTA3_e45, refTA3_e46, refTA3_e47, refTA3_e48, refTA3_e49, refTA3_e50, refTA3_e51]
theorem refTA3_ok : ∀ e ∈ refTA3, EnOK e := all_cons (runsTo_ok all_nil refTA3_r0) <| all_cons (runsTo_ok all_nil refTA3_r1) <| all_cons (runsTo_ok all_nil refTA3_r2) <| all_cons (runsTo_ok all_nil refTA3_r3) <| all_cons (runsTo_ok all_nil refTA3_r4) <| all_cons (runsTo_ok all_nil refTA3_r5) <| all_cons (runsTo_ok all_nil refTA3_r6) <| all_cons (runsTo_ok all_nil refTA3_r7) <| all_cons (runsTo_ok all_nil refTA3_r8) <| all_cons (runsTo_ok all_nil refTA3_r9) <| all_cons (runsTo_ok all_nil refTA3_r10) <| all_cons (runsTo_ok all_nil refTA3_r11) <| all_cons (runsTo_ok all_nil refTA3_r12) <| all_cons (runsTo_ok all_nil refTA3_r13) <| all_cons (runsTo_ok all_nil refTA3_r14) <| all_cons (runsTo_ok all_nil refTA3_r15) <| all_cons (runsTo_ok all_nil refTA3_r16) <| all_cons (runsTo_ok all_nil refTA3_r17) <| all_cons (runsTo_ok all_nil refTA3_r18) <| all_cons (runsTo_ok all_nil refTA3_r19) <| all_cons (runsTo_ok all_nil refTA3_r20) <| all_cons (runsTo_ok all_nil refTA3_r21) <| all_cons (runsTo_ok all_nil refTA3_r22) <| all_cons (runsTo_ok all_nil refTA3_r23) <| all_cons (runsTo_ok all_nil refTA3_r24) <| all_cons (runsTo_ok all_nil refTA3_r25) <| all_cons (runsTo_ok all_nil refTA3_r26) <| all_cons (runsTo_ok all_nil refTA3_r27) <| all_cons (runsTo_ok all_nil refTA3_r28) <| all_cons (runsTo_ok all_nil refTA3_r29) <| all_cons (runsTo_ok all_nil refTA3_r30) <| all_cons (runsTo_ok all_nil refTA3_r31) <| all_cons (runsTo_ok all_nil refTA3_r32) <| all_cons (runsTo_ok all_nil refTA3_r33) <| all_cons (runsTo_ok all_nil refTA3_r34) <| all_cons (runsTo_ok all_nil refTA3_r35) <| all_cons (runsTo_ok all_nil refTA3_r36) <| all_cons (runsTo_ok all_nil refTA3_r37) <| all_cons (runsTo_ok all_nil refTA3_r38) <| all_cons (runsTo_ok all_nil refTA3_r39) <| all_cons (runsTo_ok all_nil refTA3_r40) <| all_cons (runsTo_ok all_nil refTA3_r41) <| all_cons (runsTo_ok all_nil refTA3_r42) <| all_cons (runsTo_ok all_nil refTA3_r43) <| all_cons (runsTo_ok all_nil refTA3_r44) <| all_cons (runsTo_ok all_nil refTA3_r45) <| all_cons (runsTo_ok all_nil refTA3_r46) <| all_cons (runsTo_ok all_nil refTA3_r47) <| all_cons (runsTo_ok all_nil refTA3_r48) <| all_cons (runsTo_ok all_nil refTA3_r49) <| all_cons (runsTo_ok all_nil refTA3_r50) <| all_cons (runsTo_ok all_nil refTA3_r51) <|  all_nil
end Go.Proofs.YtneakieigiafpaaGreatDoor
