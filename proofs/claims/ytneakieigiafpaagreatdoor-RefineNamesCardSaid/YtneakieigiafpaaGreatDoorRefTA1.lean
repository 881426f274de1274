/- Calls behind view.Cover of some squares (part 2): each is run by the kernel. -/
import Derived.Test.YtneakieigiafpaaGreatDoorExR
namespace Go.Proofs.YtneakieigiafpaaGreatDoor
open Go.Ex
set_option maxRecDepth 100000
def refTA1_e0 : En := ⟨131, [.agg #[.bool false, .string ⟨#[1, 0, 32, 0, 255, 255, 255, 223, 254, 0, 0, 0, 0, 1]⟩, .int .i64 (.negSucc 103)], .agg #[.bool false, .string ⟨#[1]⟩, .int .i64 (.ofNat 1)]], [.int .i64 (.negSucc 0), .int .i64 (.ofNat 0)]⟩
theorem refTA1_r0 : runsTo [] refTA1_e0 = true := by decide +kernel
def refTA1_e1 : En := ⟨182, [.float .f64 4608308868462673919], [.agg #[.bool false, .string ⟨#[20, 0, 127, 255, 255, 255, 255]⟩, .int .i64 (.negSucc 51)], .int .i64 (.ofNat 0)]⟩
theorem refTA1_r1 : runsTo [] refTA1_e1 = true := by decide +kernel
def refTA1_e2 : En := ⟨196, [.agg #[.bool false, .string ⟨#[20, 0, 127, 255, 255, 255, 255]⟩, .int .i64 (.negSucc 51)], .agg #[.bool false, .string ⟨#[20, 0, 127, 255, 255, 255, 255]⟩, .int .i64 (.negSucc 51)]], [.agg #[.bool false, .string ⟨#[1, 144, 20, 0, 63, 255, 255, 215, 255, 0, 0, 0, 0, 1]⟩, .int .i64 (.negSucc 103)], .int .i64 (.ofNat 0)]⟩
theorem refTA1_r2 : runsTo [] refTA1_e2 = true := by decide +kernel
def refTA1_e3 : En := ⟨131, [.agg #[.bool false, .string ⟨#[1, 144, 20, 0, 63, 255, 255, 215, 255, 0, 0, 0, 0, 1]⟩, .int .i64 (.negSucc 103)], .agg #[.bool false, .string ⟨#[1]⟩, .int .i64 (.ofNat 1)]], [.int .i64 (.negSucc 0), .int .i64 (.ofNat 0)]⟩
theorem refTA1_r3 : runsTo [] refTA1_e3 = true := by decide +kernel
def refTA1_e4 : En := ⟨182, [.float .f64 4608871543538188287], [.agg #[.bool false, .string ⟨#[22, 0, 63, 255, 255, 255, 255]⟩, .int .i64 (.negSucc 51)], .int .i64 (.ofNat 0)]⟩
theorem refTA1_r4 : runsTo [] refTA1_e4 = true := by decide +kernel
def refTA1_e5 : En := ⟨196, [.agg #[.bool false, .string ⟨#[22, 0, 63, 255, 255, 255, 255]⟩, .int .i64 (.negSucc 51)], .agg #[.bool false, .string ⟨#[22, 0, 63, 255, 255, 255, 255]⟩, .int .i64 (.negSucc 51)]], [.agg #[.bool false, .string ⟨#[1, 228, 11, 0, 15, 255, 255, 211, 255, 128, 0, 0, 0, 1]⟩, .int .i64 (.negSucc 103)], .int .i64 (.ofNat 0)]⟩
theorem refTA1_r5 : runsTo [] refTA1_e5 = true := by decide +kernel
def refTA1_e6 : En := ⟨131, [.agg #[.bool false, .string ⟨#[1, 228, 11, 0, 15, 255, 255, 211, 255, 128, 0, 0, 0, 1]⟩, .int .i64 (.negSucc 103)], .agg #[.bool false, .string ⟨#[1]⟩, .int .i64 (.ofNat 1)]], [.int .i64 (.negSucc 0), .int .i64 (.ofNat 0)]⟩
theorem refTA1_r6 : runsTo [] refTA1_e6 = true := by decide +kernel
def refTA1_e7 : En := ⟨182, [.float .f64 4609152881075945471], [.agg #[.bool false, .string ⟨#[23, 0, 31, 255, 255, 255, 255]⟩, .int .i64 (.negSucc 51)], .int .i64 (.ofNat 0)]⟩
theorem refTA1_r7 : runsTo [] refTA1_e7 = true := by decide +kernel
def refTA1_e8 : En := ⟨196, [.agg #[.bool false, .string ⟨#[23, 0, 31, 255, 255, 255, 255]⟩, .int .i64 (.negSucc 51)], .agg #[.bool false, .string ⟨#[23, 0, 31, 255, 255, 255, 255]⟩, .int .i64 (.negSucc 51)]], [.agg #[.bool false, .string ⟨#[2, 17, 5, 192, 3, 255, 255, 209, 255, 192, 0, 0, 0, 1]⟩, .int .i64 (.negSucc 103)], .int .i64 (.ofNat 0)]⟩
theorem refTA1_r8 : runsTo [] refTA1_e8 = true := by decide +kernel
def refTA1_e9 : En := ⟨131, [.agg #[.bool false, .string ⟨#[2, 17, 5, 192, 3, 255, 255, 209, 255, 192, 0, 0, 0, 1]⟩, .int .i64 (.negSucc 103)], .agg #[.bool false, .string ⟨#[1]⟩, .int .i64 (.ofNat 1)]], [.int .i64 (.ofNat 1), .int .i64 (.ofNat 0)]⟩
theorem refTA1_r9 : runsTo [] refTA1_e9 = true := by decide +kernel
def refTA1_e10 : En := ⟨182, [.float .f64 4609012212307066879], [.agg #[.bool false, .string ⟨#[22, 128, 47, 255, 255, 255, 255]⟩, .int .i64 (.negSucc 51)], .int .i64 (.ofNat 0)]⟩
theorem refTA1_r10 : runsTo [] refTA1_e10 = true := by decide +kernel
def refTA1_e11 : En := ⟨196, [.agg #[.bool false, .string ⟨#[22, 128, 47, 255, 255, 255, 255]⟩, .int .i64 (.negSucc 51)], .agg #[.bool false, .string ⟨#[22, 128, 47, 255, 255, 255, 255]⟩, .int .i64 (.negSucc 51)]], [.agg #[.bool false, .string ⟨#[1, 250, 72, 112, 8, 255, 255, 210, 255, 160, 0, 0, 0, 1]⟩, .int .i64 (.negSucc 103)], .int .i64 (.ofNat 0)]⟩
theorem refTA1_r11 : runsTo [] refTA1_e11 = true := by decide +kernel
def refTA1_e12 : En := ⟨131, [.agg #[.bool false, .string ⟨#[1, 250, 72, 112, 8, 255, 255, 210, 255, 160, 0, 0, 0, 1]⟩, .int .i64 (.negSucc 103)], .agg #[.bool false, .string ⟨#[1]⟩, .int .i64 (.ofNat 1)]], [.int .i64 (.negSucc 0), .int .i64 (.ofNat 0)]⟩
theorem refTA1_r12 : runsTo [] refTA1_e12 = true := by decide +kernel
def refTA1_e13 : En := ⟨182, [.float .f64 4609082546691506175], [.agg #[.bool false, .string ⟨#[22, 192, 39, 255, 255, 255, 255]⟩, .int .i64 (.negSucc 51)], .int .i64 (.ofNat 0)]⟩
theorem refTA1_r13 : runsTo [] refTA1_e13 = true := by decide +kernel
def refTA1_e14 : En := ⟨196, [.agg #[.bool false, .string ⟨#[22, 192, 39, 255, 255, 255, 255]⟩, .int .i64 (.negSucc 51)], .agg #[.bool false, .string ⟨#[22, 192, 39, 255, 255, 255, 255]⟩, .int .i64 (.negSucc 51)]], [.agg #[.bool false, .string ⟨#[2, 5, 151, 28, 6, 63, 255, 210, 127, 176, 0, 0, 0, 1]⟩, .int .i64 (.negSucc 103)], .int .i64 (.ofNat 0)]⟩
theorem refTA1_r14 : runsTo [] refTA1_e14 = true := by decide +kernel
def refTA1_e15 : En := ⟨131, [.agg #[.bool false, .string ⟨#[2, 5, 151, 28, 6, 63, 255, 210, 127, 176, 0, 0, 0, 1]⟩, .int .i64 (.negSucc 103)], .agg #[.bool false, .string ⟨#[1]⟩, .int .i64 (.ofNat 1)]], [.int .i64 (.ofNat 1), .int .i64 (.ofNat 0)]⟩
theorem refTA1_r15 : runsTo [] refTA1_e15 = true := by decide +kernel
def refTA1_e16 : En := ⟨182, [.float .f64 4609047379499286527], [.agg #[.bool false, .string ⟨#[22, 160, 43, 255, 255, 255, 255]⟩, .int .i64 (.negSucc 51)], .int .i64 (.ofNat 0)]⟩
theorem refTA1_r16 : runsTo [] refTA1_e16 = true := by decide +kernel
def refTA1_e17 : En := ⟨196, [.agg #[.bool false, .string ⟨#[22, 160, 43, 255, 255, 255, 255]⟩, .int .i64 (.negSucc 51)], .agg #[.bool false, .string ⟨#[22, 160, 43, 255, 255, 255, 255]⟩, .int .i64 (.negSucc 51)]], [.agg #[.bool false, .string ⟨#[1, 255, 235, 199, 7, 143, 255, 210, 191, 168, 0, 0, 0, 1]⟩, .int .i64 (.negSucc 103)], .int .i64 (.ofNat 0)]⟩
theorem refTA1_r17 : runsTo [] refTA1_e17 = true := by decide +kernel
def refTA1_e18 : En := ⟨131, [.agg #[.bool false, .string ⟨#[1, 255, 235, 199, 7, 143, 255, 210, 191, 168, 0, 0, 0, 1]⟩, .int .i64 (.negSucc 103)], .agg #[.bool false, .string ⟨#[1]⟩, .int .i64 (.ofNat 1)]], [.int .i64 (.negSucc 0), .int .i64 (.ofNat 0)]⟩
theorem refTA1_r18 : runsTo [] refTA1_e18 = true := by decide +kernel
def refTA1_e19 : En := ⟨182, [.float .f64 4609064963095396351], [.agg #[.bool false, .string ⟨#[22, 176, 41, 255, 255, 255, 255]⟩, .int .i64 (.negSucc 51)], .int .i64 (.ofNat 0)]⟩
theorem refTA1_r19 : runsTo [] refTA1_e19 = true := by decide +kernel
def refTA1_e20 : En := ⟨196, [.agg #[.bool false, .string ⟨#[22, 176, 41, 255, 255, 255, 255]⟩, .int .i64 (.negSucc 51)], .agg #[.bool false, .string ⟨#[22, 176, 41, 255, 255, 255, 255]⟩, .int .i64 (.negSucc 51)]], [.agg #[.bool false, .string ⟨#[2, 2, 192, 113, 198, 227, 255, 210, 159, 172, 0, 0, 0, 1]⟩, .int .i64 (.negSucc 103)], .int .i64 (.ofNat 0)]⟩
theorem refTA1_r20 : runsTo [] refTA1_e20 = true := by decide +kernel
def refTA1_e21 : En := ⟨131, [.agg #[.bool false, .string ⟨#[2, 2, 192, 113, 198, 227, 255, 210, 159, 172, 0, 0, 0, 1]⟩, .int .i64 (.negSucc 103)], .agg #[.bool false, .string ⟨#[1]⟩, .int .i64 (.ofNat 1)]], [.int .i64 (.ofNat 1), .int .i64 (.ofNat 0)]⟩
theorem refTA1_r21 : runsTo [] refTA1_e21 = true := by decide +kernel
def refTA1_e22 : En := ⟨182, [.float .f64 4609056171297341439], [.agg #[.bool false, .string ⟨#[22, 168, 42, 255, 255, 255, 255]⟩, .int .i64 (.negSucc 51)], .int .i64 (.ofNat 0)]⟩
theorem refTA1_r22 : runsTo [] refTA1_e22 = true := by decide +kernel
def refTA1_e23 : En := ⟨196, [.agg #[.bool false, .string ⟨#[22, 168, 42, 255, 255, 255, 255]⟩, .int .i64 (.negSucc 51)], .agg #[.bool false, .string ⟨#[22, 168, 42, 255, 255, 255, 255]⟩, .int .i64 (.negSucc 51)]], [.agg #[.bool false, .string ⟨#[2, 1, 85, 220, 119, 56, 255, 210, 175, 170, 0, 0, 0, 1]⟩, .int .i64 (.negSucc 103)], .int .i64 (.ofNat 0)]⟩
theorem refTA1_r23 : runsTo [] refTA1_e23 = true := by decide +kernel
def refTA1_e24 : En := ⟨131, [.agg #[.bool false, .string ⟨#[2, 1, 85, 220, 119, 56, 255, 210, 175, 170, 0, 0, 0, 1]⟩, .int .i64 (.negSucc 103)], .agg #[.bool false, .string ⟨#[1]⟩, .int .i64 (.ofNat 1)]], [.int .i64 (.ofNat 1), .int .i64 (.ofNat 0)]⟩
theorem refTA1_r24 : runsTo [] refTA1_e24 = true := by decide +kernel
def refTA1_e25 : En := ⟨182, [.float .f64 4609051775398313983], [.agg #[.bool false, .string ⟨#[22, 164, 43, 127, 255, 255, 255]⟩, .int .i64 (.negSucc 51)], .int .i64 (.ofNat 0)]⟩
theorem refTA1_r25 : runsTo [] refTA1_e25 = true := by decide +kernel
def refTA1_e26 : En := ⟨196, [.agg #[.bool false, .string ⟨#[22, 164, 43, 127, 255, 255, 255]⟩, .int .i64 (.negSucc 51)], .agg #[.bool false, .string ⟨#[22, 164, 43, 127, 255, 255, 255]⟩, .int .i64 (.negSucc 51)]], [.agg #[.bool false, .string ⟨#[2, 0, 160, 193, 195, 100, 63, 210, 183, 169, 0, 0, 0, 1]⟩, .int .i64 (.negSucc 103)], .int .i64 (.ofNat 0)]⟩
theorem refTA1_r26 : runsTo [] refTA1_e26 = true := by decide +kernel
def refTA1_e27 : En := ⟨131, [.agg #[.bool false, .string ⟨#[2, 0, 160, 193, 195, 100, 63, 210, 183, 169, 0, 0, 0, 1]⟩, .int .i64 (.negSucc 103)], .agg #[.bool false, .string ⟨#[1]⟩, .int .i64 (.ofNat 1)]], [.int .i64 (.ofNat 1), .int .i64 (.ofNat 0)]⟩
theorem refTA1_r27 : runsTo [] refTA1_e27 = true := by decide +kernel
def refTA1_e28 : En := ⟨182, [.float .f64 4609049577448800255], [.agg #[.bool false, .string ⟨#[22, 162, 43, 191, 255, 255, 255]⟩, .int .i64 (.negSucc 51)], .int .i64 (.ofNat 0)]⟩
theorem refTA1_r28 : runsTo [] refTA1_e28 = true := by decide +kernel
def refTA1_e29 : En := ⟨196, [.agg #[.bool false, .string ⟨#[22, 162, 43, 191, 255, 255, 255]⟩, .int .i64 (.negSucc 51)], .agg #[.bool false, .string ⟨#[22, 162, 43, 191, 255, 255, 255]⟩, .int .i64 (.negSucc 51)]], [.agg #[.bool false, .string ⟨#[2, 0, 70, 64, 102, 122, 15, 210, 187, 168, 128, 0, 0, 1]⟩, .int .i64 (.negSucc 103)], .int .i64 (.ofNat 0)]⟩
theorem refTA1_r29 : runsTo [] refTA1_e29 = true := by decide +kernel
def refTA1_e30 : En := ⟨131, [.agg #[.bool false, .string ⟨#[2, 0, 70, 64, 102, 122, 15, 210, 187, 168, 128, 0, 0, 1]⟩, .int .i64 (.negSucc 103)], .agg #[.bool false, .string ⟨#[1]⟩, .int .i64 (.ofNat 1)]], [.int .i64 (.ofNat 1), .int .i64 (.ofNat 0)]⟩
theorem refTA1_r30 : runsTo [] refTA1_e30 = true := by decide +kernel
def refTA1_e31 : En := ⟨182, [.float .f64 4609048478474043391], [.agg #[.bool false, .string ⟨#[22, 161, 43, 223, 255, 255, 255]⟩, .int .i64 (.negSucc 51)], .int .i64 (.ofNat 0)]⟩
theorem refTA1_r31 : runsTo [] refTA1_e31 = true := by decide +kernel
def refTA1_e32 : En := ⟨196, [.agg #[.bool false, .string ⟨#[22, 161, 43, 223, 255, 255, 255]⟩, .int .i64 (.negSucc 51)], .agg #[.bool false, .string ⟨#[22, 161, 43, 223, 255, 255, 255]⟩, .int .i64 (.negSucc 51)]], [.agg #[.bool false, .string ⟨#[2, 0, 25, 2, 183, 69, 3, 210, 189, 168, 64, 0, 0, 1]⟩, .int .i64 (.negSucc 103)], .int .i64 (.ofNat 0)]⟩
theorem refTA1_r32 : runsTo [] refTA1_e32 = true := by decide +kernel
def refTA1_e33 : En := ⟨131, [.agg #[.bool false, .string ⟨#[2, 0, 25, 2, 183, 69, 3, 210, 189, 168, 64, 0, 0, 1]⟩, .int .i64 (.negSucc 103)], .agg #[.bool false, .string ⟨#[1]⟩, .int .i64 (.ofNat 1)]], [.int .i64 (.ofNat 1), .int .i64 (.ofNat 0)]⟩
theorem refTA1_r33 : runsTo [] refTA1_e33 = true := by decide +kernel
def refTA1_e34 : En := ⟨182, [.float .f64 4609047928986664959], [.agg #[.bool false, .string ⟨#[22, 160, 171, 239, 255, 255, 255]⟩, .int .i64 (.negSucc 51)], .int .i64 (.ofNat 0)]⟩
theorem refTA1_r34 : runsTo [] refTA1_e34 = true := by decide +kernel
def refTA1_e35 : En := ⟨196, [.agg #[.bool false, .string ⟨#[22, 160, 171, 239, 255, 255, 255]⟩, .int .i64 (.negSucc 51)], .agg #[.bool false, .string ⟨#[22, 160, 171, 239, 255, 255, 255]⟩, .int .i64 (.negSucc 51)]], [.agg #[.bool false, .string ⟨#[2, 0, 2, 100, 159, 122, 128, 210, 190, 168, 32, 0, 0, 1]⟩, .int .i64 (.negSucc 103)], .int .i64 (.ofNat 0)]⟩
theorem refTA1_r35 : runsTo [] refTA1_e35 = true := by decide +kernel
def refTA1_e36 : En := ⟨131, [.agg #[.bool false, .string ⟨#[2, 0, 2, 100, 159, 122, 128, 210, 190, 168, 32, 0, 0, 1]⟩, .int .i64 (.negSucc 103)], .agg #[.bool false, .string ⟨#[1]⟩, .int .i64 (.ofNat 1)]], [.int .i64 (.ofNat 1), .int .i64 (.ofNat 0)]⟩
theorem refTA1_r36 : runsTo [] refTA1_e36 = true := by decide +kernel
def refTA1_e37 : En := ⟨182, [.float .f64 4609047654242975743], [.agg #[.bool false, .string ⟨#[22, 160, 107, 247, 255, 255, 255]⟩, .int .i64 (.negSucc 51)], .int .i64 (.ofNat 0)]⟩
theorem refTA1_r37 : runsTo [] refTA1_e37 = true := by decide +kernel
def refTA1_e38 : En := ⟨196, [.agg #[.bool false, .string ⟨#[22, 160, 107, 247, 255, 255, 255]⟩, .int .i64 (.negSucc 51)], .agg #[.bool false, .string ⟨#[22, 160, 107, 247, 255, 255, 255]⟩, .int .i64 (.negSucc 51)]], [.agg #[.bool false, .string ⟨#[1, 255, 247, 21, 195, 137, 64, 18, 191, 40, 16, 0, 0, 1]⟩, .int .i64 (.negSucc 103)], .int .i64 (.ofNat 0)]⟩
theorem refTA1_r38 : runsTo [] refTA1_e38 = true := by decide +kernel
def refTA1_e39 : En := ⟨131, [.agg #[.bool false, .string ⟨#[1, 255, 247, 21, 195, 137, 64, 18, 191, 40, 16, 0, 0, 1]⟩, .int .i64 (.negSucc 103)], .agg #[.bool false, .string ⟨#[1]⟩, .int .i64 (.ofNat 1)]], [.int .i64 (.negSucc 0), .int .i64 (.ofNat 0)]⟩
theorem refTA1_r39 : runsTo [] refTA1_e39 = true := by decide +kernel
def refTA1_e40 : En := ⟨182, [.float .f64 4609047791614820351], [.agg #[.bool false, .string ⟨#[22, 160, 139, 243, 255, 255, 255]⟩, .int .i64 (.negSucc 51)], .int .i64 (.ofNat 0)]⟩
theorem refTA1_r40 : runsTo [] refTA1_e40 = true := by decide +kernel
def refTA1_e41 : En := ⟨196, [.agg #[.bool false, .string ⟨#[22, 160, 139, 243, 255, 255, 255]⟩, .int .i64 (.negSucc 51)], .agg #[.bool false, .string ⟨#[22, 160, 139, 243, 255, 255, 255]⟩, .int .i64 (.negSucc 51)]], [.agg #[.bool false, .string ⟨#[1, 255, 252, 189, 45, 130, 224, 98, 190, 232, 24, 0, 0, 1]⟩, .int .i64 (.negSucc 103)], .int .i64 (.ofNat 0)]⟩
theorem refTA1_r41 : runsTo [] refTA1_e41 = true := by decide +kernel
def refTA1_e42 : En := ⟨131, [.agg #[.bool false, .string ⟨#[1, 255, 252, 189, 45, 130, 224, 98, 190, 232, 24, 0, 0, 1]⟩, .int .i64 (.negSucc 103)], .agg #[.bool false, .string ⟨#[1]⟩, .int .i64 (.ofNat 1)]], [.int .i64 (.negSucc 0), .int .i64 (.ofNat 0)]⟩
theorem refTA1_r42 : runsTo [] refTA1_e42 = true := by decide +kernel
def refTA1_e43 : En := ⟨182, [.float .f64 4609047860300742655], [.agg #[.bool false, .string ⟨#[22, 160, 155, 241, 255, 255, 255]⟩, .int .i64 (.negSucc 51)], .int .i64 (.ofNat 0)]⟩
theorem refTA1_r43 : runsTo [] refTA1_e43 = true := by decide +kernel
def refTA1_e44 : En := ⟨196, [.agg #[.bool false, .string ⟨#[22, 160, 155, 241, 255, 255, 255]⟩, .int .i64 (.negSucc 51)], .agg #[.bool false, .string ⟨#[22, 160, 155, 241, 255, 255, 255]⟩, .int .i64 (.negSucc 51)]], [.agg #[.bool false, .string ⟨#[1, 255, 255, 144, 229, 126, 240, 150, 190, 200, 28, 0, 0, 1]⟩, .int .i64 (.negSucc 103)], .int .i64 (.ofNat 0)]⟩
theorem refTA1_r44 : runsTo [] refTA1_e44 = true := by decide +kernel
def refTA1_e45 : En := ⟨131, [.agg #[.bool false, .string ⟨#[1, 255, 255, 144, 229, 126, 240, 150, 190, 200, 28, 0, 0, 1]⟩, .int .i64 (.negSucc 103)], .agg #[.bool false, .string ⟨#[1]⟩, .int .i64 (.ofNat 1)]], [.int .i64 (.negSucc 0), .int .i64 (.ofNat 0)]⟩
theorem refTA1_r45 : runsTo [] refTA1_e45 = true := by decide +kernel
def refTA1_e46 : En := ⟨182, [.float .f64 4609047894643703807], [.agg #[.bool false, .string ⟨#[22, 160, 163, 240, 255, 255, 255]⟩, .int .i64 (.negSucc 51)], .int .i64 (.ofNat 0)]⟩
theorem refTA1_r46 : runsTo [] refTA1_e46 = true := by decide +kernel
def refTA1_e47 : En := ⟨196, [.agg #[.bool false, .string ⟨#[22, 160, 163, 240, 255, 255, 255]⟩, .int .i64 (.negSucc 51)], .agg #[.bool false, .string ⟨#[22, 160, 163, 240, 255, 255, 255]⟩, .int .i64 (.negSucc 51)]], [.agg #[.bool false, .string ⟨#[2, 0, 0, 250, 194, 60, 200, 179, 190, 184, 30, 0, 0, 1]⟩, .int .i64 (.negSucc 103)], .int .i64 (.ofNat 0)]⟩
theorem refTA1_r47 : runsTo [] refTA1_e47 = true := by decide +kernel
def refTA1_e48 : En := ⟨131, [.agg #[.bool false, .string ⟨#[2, 0, 0, 250, 194, 60, 200, 179, 190, 184, 30, 0, 0, 1]⟩, .int .i64 (.negSucc 103)], .agg #[.bool false, .string ⟨#[1]⟩, .int .i64 (.ofNat 1)]], [.int .i64 (.ofNat 1), .int .i64 (.ofNat 0)]⟩
theorem refTA1_r48 : runsTo [] refTA1_e48 = true := by decide +kernel
def refTA1_e49 : En := ⟨182, [.float .f64 4609047877472223231], [.agg #[.bool false, .string ⟨#[22, 160, 159, 241, 127, 255, 255]⟩, .int .i64 (.negSucc 51)], .int .i64 (.ofNat 0)]⟩
theorem refTA1_r49 : runsTo [] refTA1_e49 = true := by decide +kernel
def refTA1_e50 : En := ⟨196, [.agg #[.bool false, .string ⟨#[22, 160, 159, 241, 127, 255, 255]⟩, .int .i64 (.negSucc 51)], .agg #[.bool false, .string ⟨#[22, 160, 159, 241, 127, 255, 255]⟩, .int .i64 (.negSucc 51)]], [.agg #[.bool false, .string ⟨#[2, 0, 0, 69, 211, 205, 224, 164, 254, 192, 29, 0, 0, 1]⟩, .int .i64 (.negSucc 103)], .int .i64 (.ofNat 0)]⟩
theorem refTA1_r50 : runsTo [] refTA1_e50 = true := by decide +kernel
def refTA1_e51 : En := ⟨131, [.agg #[.bool false, .string ⟨#[2, 0, 0, 69, 211, 205, 224, 164, 254, 192, 29, 0, 0, 1]⟩, .int .i64 (.negSucc 103)], .agg #[.bool false, .string ⟨#[1]⟩, .int .i64 (.ofNat 1)]], [.int .i64 (.ofNat 1), .int .i64 (.ofNat 0)]⟩
theorem refTA1_r51 : runsTo [] refTA1_e51 = true := by decide +kernel
def refTA1 : List En := [refTA1_e0, refTA1_e1, refTA1_e2, refTA1_e3, refTA1_e4, refTA1_e5, refTA1_e6, refTA1_e7, refTA1_e8, refTA1_e9, refTA1_e10, refTA1_e11, refTA1_e12, refTA1_e13, refTA1_e14, refTA1_e15, refTA1_e16, refTA1_e17, refTA1_e18, refTA1_e19, refTA1_e20, refTA1_e21, refTA1_e22, refTA1_e23, refTA1_e24, refTA1_e25, refTA1_e26, refTA1_e27, refTA1_e28, refTA1_e29, refTA1_e30, refTA1_e31, refTA1_e32, refTA1_e33, refTA1_e34, refTA1_e35, refTA1_e36, refTA1_e37, refTA1_e38, refTA1_e39, refTA1_e40, refTA1_e41, refTA1_e42, refTA1_e43, refTA1_e44, refTA1_e45, refTA1_e46, refTA1_e47, refTA1_e48, refTA1_e49, refTA1_e50, refTA1_e51]
theorem refTA1_ok : ∀ e ∈ refTA1, EnOK e := all_cons (runsTo_ok all_nil refTA1_r0) <| all_cons (runsTo_ok all_nil refTA1_r1) <| all_cons (runsTo_ok all_nil refTA1_r2) <| all_cons (runsTo_ok all_nil refTA1_r3) <| all_cons (runsTo_ok all_nil refTA1_r4) <| all_cons (runsTo_ok all_nil refTA1_r5) <| all_cons (runsTo_ok all_nil refTA1_r6) <| all_cons (runsTo_ok all_nil refTA1_r7) <| all_cons (runsTo_ok all_nil refTA1_r8) <| all_cons (runsTo_ok all_nil refTA1_r9) <| all_cons (runsTo_ok all_nil refTA1_r10) <| all_cons (runsTo_ok all_nil refTA1_r11) <| all_cons (runsTo_ok all_nil refTA1_r12) <| all_cons (runsTo_ok all_nil refTA1_r13) <| all_cons (runsTo_ok all_nil refTA1_r14) <| all_cons (runsTo_ok all_nil refTA1_r15) <| all_cons (runsTo_ok all_nil refTA1_r16) <| all_cons (runsTo_ok all_nil refTA1_r17) <| all_cons (runsTo_ok all_nil refTA1_r18) <| all_cons (runsTo_ok all_nil refTA1_r19) <| all_cons (runsTo_ok all_nil refTA1_r20) <| all_cons (runsTo_ok all_nil refTA1_r21) <| all_cons (runsTo_ok all_nil refTA1_r22) <| all_cons (runsTo_ok all_nil refTA1_r23) <| all_cons (runsTo_ok all_nil refTA1_r24) <| all_cons (runsTo_ok all_nil refTA1_r25) <| all_cons (runsTo_ok all_nil refTA1_r26) <| all_cons (runsTo_ok all_nil refTA1_r27) <| all_cons (runsTo_ok all_nil refTA1_r28) <| all_cons (runsTo_ok all_nil refTA1_r29) <| all_cons (runsTo_ok all_nil refTA1_r30) <| all_cons (runsTo_ok all_nil refTA1_r31) <| all_cons (runsTo_ok all_nil refTA1_r32) <| all_cons (runsTo_ok all_nil refTA1_r33) <| all_cons (runsTo_ok all_nil refTA1_r34) <| all_cons (runsTo_ok all_nil refTA1_r35) <| all_cons (runsTo_ok all_nil refTA1_r36) <| all_cons (runsTo_ok all_nil refTA1_r37) <| all_cons (runsTo_ok all_nil refTA1_r38) <| all_cons (runsTo_ok all_nil refTA1_r39) <| all_cons (runsTo_ok all_nil refTA1_r40) <| all_cons (runsTo_ok all_nil refTA1_r41) <| all_cons (runsTo_ok all_nil refTA1_r42) <| all_cons (runsTo_ok all_nil refTA1_r43) <| all_cons (runsTo_ok all_nil refTA1_r44) <| all_cons (runsTo_ok all_nil refTA1_r45) <| all_cons (runsTo_ok all_nil refTA1_r46) <| all_cons (runsTo_ok all_nil refTA1_r47) <| all_cons (runsTo_ok all_nil refTA1_r48) <| all_cons (runsTo_ok all_nil refTA1_r49) <| all_cons (runsTo_ok all_nil refTA1_r50) <| all_cons (runsTo_ok all_nil refTA1_r51) <|  all_nil
end Go.Proofs.YtneakieigiafpaaGreatDoor
