/- Calls behind view.Cover of a square (part 3): each is run by the kernel. -/
import Derived.Test.YtneakieigiafpaaGreatDoorLayR
namespace Go.Proofs.YtneakieigiafpaaGreatDoor
open Go.Ex
set_option maxRecDepth 100000
def covTA2_e0 : En := ⟨182, [.float .f64 4622558664547368959], [.agg #[.bool false, .string ⟨#[22, 160, 157, 49, 191, 255, 255]⟩, .int .i64 (.negSucc 48)], .int .i64 (.ofNat 0)]⟩
theorem covTA2_r0 : runsTo [] covTA2_e0 = true := by decide +kernel
def covTA2_e1 : En := ⟨196, [.agg #[.bool false, .string ⟨#[22, 160, 157, 49, 191, 255, 255]⟩, .int .i64 (.negSucc 48)], .agg #[.bool false, .string ⟨#[22, 160, 157, 49, 191, 255, 255]⟩, .int .i64 (.negSucc 48)]], [.agg #[.bool false, .string ⟨#[1, 255, 255, 201, 107, 182, 14, 253, 206, 197, 156, 128, 0, 1]⟩, .int .i64 (.negSucc 97)], .int .i64 (.ofNat 0)]⟩
theorem covTA2_r1 : runsTo [] covTA2_e1 = true := by decide +kernel
def covTA2_e2 : En := ⟨131, [.agg #[.bool false, .string ⟨#[1, 255, 255, 201, 107, 182, 14, 253, 206, 197, 156, 128, 0, 1]⟩, .int .i64 (.negSucc 97)], .agg #[.bool false, .string ⟨#[1]⟩, .int .i64 (.ofNat 7)]], [.int .i64 (.negSucc 0), .int .i64 (.ofNat 0)]⟩
theorem covTA2_r2 : runsTo [] covTA2_e2 = true := by decide +kernel
def covTA2_e3 : En := ⟨182, [.float .f64 4622558668840239103], [.agg #[.bool false, .string ⟨#[22, 160, 158, 49, 159, 255, 255]⟩, .int .i64 (.negSucc 48)], .int .i64 (.ofNat 0)]⟩
theorem covTA2_r3 : runsTo [] covTA2_e3 = true := by decide +kernel
def covTA2_e4 : En := ⟨196, [.agg #[.bool false, .string ⟨#[22, 160, 158, 49, 159, 255, 255]⟩, .int .i64 (.negSucc 48)], .agg #[.bool false, .string ⟨#[22, 160, 158, 49, 159, 255, 255]⟩, .int .i64 (.negSucc 48)]], [.agg #[.bool false, .string ⟨#[1, 255, 255, 246, 167, 73, 74, 241, 98, 195, 156, 192, 0, 1]⟩, .int .i64 (.negSucc 97)], .int .i64 (.ofNat 0)]⟩
theorem covTA2_r4 : runsTo [] covTA2_e4 = true := by decide +kernel
def covTA2_e5 : En := ⟨131, [.agg #[.bool false, .string ⟨#[1, 255, 255, 246, 167, 73, 74, 241, 98, 195, 156, 192, 0, 1]⟩, .int .i64 (.negSucc 97)], .agg #[.bool false, .string ⟨#[1]⟩, .int .i64 (.ofNat 7)]], [.int .i64 (.negSucc 0), .int .i64 (.ofNat 0)]⟩
theorem covTA2_r5 : runsTo [] covTA2_e5 = true := by decide +kernel
def covTA2_e6 : En := ⟨182, [.float .f64 4622558670986674175], [.agg #[.bool false, .string ⟨#[22, 160, 158, 177, 143, 255, 255]⟩, .int .i64 (.negSucc 48)], .int .i64 (.ofNat 0)]⟩
theorem covTA2_r6 : runsTo [] covTA2_e6 = true := by decide +kernel
def covTA2_e7 : En := ⟨196, [.agg #[.bool false, .string ⟨#[22, 160, 158, 177, 143, 255, 255]⟩, .int .i64 (.negSucc 48)], .agg #[.bool false, .string ⟨#[22, 160, 158, 177, 143, 255, 255]⟩, .int .i64 (.negSucc 48)]], [.agg #[.bool false, .string ⟨#[2, 0, 0, 13, 69, 19, 168, 187, 47, 194, 156, 224, 0, 1]⟩, .int .i64 (.negSucc 97)], .int .i64 (.ofNat 0)]⟩
theorem covTA2_r7 : runsTo [] covTA2_e7 = true := by decide +kernel
def covTA2_e8 : En := ⟨131, [.agg #[.bool false, .string ⟨#[2, 0, 0, 13, 69, 19, 168, 187, 47, 194, 156, 224, 0, 1]⟩, .int .i64 (.negSucc 97)], .agg #[.bool false, .string ⟨#[1]⟩, .int .i64 (.ofNat 7)]], [.int .i64 (.ofNat 1), .int .i64 (.ofNat 0)]⟩
theorem covTA2_r8 : runsTo [] covTA2_e8 = true := by decide +kernel
def covTA2_e9 : En := ⟨182, [.float .f64 4622558669913456639], [.agg #[.bool false, .string ⟨#[22, 160, 158, 113, 151, 255, 255]⟩, .int .i64 (.negSucc 48)], .int .i64 (.ofNat 0)]⟩
theorem covTA2_r9 : runsTo [] covTA2_e9 = true := by decide +kernel
def covTA2_e10 : En := ⟨196, [.agg #[.bool false, .string ⟨#[22, 160, 158, 113, 151, 255, 255]⟩, .int .i64 (.negSucc 48)], .agg #[.bool false, .string ⟨#[22, 160, 158, 113, 151, 255, 255]⟩, .int .i64 (.negSucc 48)]], [.agg #[.bool false, .string ⟨#[2, 0, 0, 1, 246, 46, 105, 218, 73, 3, 28, 208, 0, 1]⟩, .int .i64 (.negSucc 97)], .int .i64 (.ofNat 0)]⟩
theorem covTA2_r10 : runsTo [] covTA2_e10 = true := by decide +kernel
def covTA2_e11 : En := ⟨131, [.agg #[.bool false, .string ⟨#[2, 0, 0, 1, 246, 46, 105, 218, 73, 3, 28, 208, 0, 1]⟩, .int .i64 (.negSucc 97)], .agg #[.bool false, .string ⟨#[1]⟩, .int .i64 (.ofNat 7)]], [.int .i64 (.ofNat 1), .int .i64 (.ofNat 0)]⟩
theorem covTA2_r11 : runsTo [] covTA2_e11 = true := by decide +kernel
def covTA2_e12 : En := ⟨182, [.float .f64 4622558669376847871], [.agg #[.bool false, .string ⟨#[22, 160, 158, 81, 155, 255, 255]⟩, .int .i64 (.negSucc 48)], .int .i64 (.ofNat 0)]⟩
theorem covTA2_r12 : runsTo [] covTA2_e12 = true := by decide +kernel
def covTA2_e13 : En := ⟨196, [.agg #[.bool false, .string ⟨#[22, 160, 158, 81, 155, 255, 255]⟩, .int .i64 (.negSucc 48)], .agg #[.bool false, .string ⟨#[22, 160, 158, 81, 155, 255, 255]⟩, .int .i64 (.negSucc 48)]], [.agg #[.bool false, .string ⟨#[1, 255, 255, 252, 78, 187, 214, 102, 213, 211, 92, 200, 0, 1]⟩, .int .i64 (.negSucc 97)], .int .i64 (.ofNat 0)]⟩
theorem covTA2_r13 : runsTo [] covTA2_e13 = true := by decide +kernel
def covTA2_e14 : En := ⟨131, [.agg #[.bool false, .string ⟨#[1, 255, 255, 252, 78, 187, 214, 102, 213, 211, 92, 200, 0, 1]⟩, .int .i64 (.negSucc 97)], .agg #[.bool false, .string ⟨#[1]⟩, .int .i64 (.ofNat 7)]], [.int .i64 (.negSucc 0), .int .i64 (.ofNat 0)]⟩
theorem covTA2_r14 : runsTo [] covTA2_e14 = true := by decide +kernel
def covTA2_e15 : En := ⟨182, [.float .f64 4622558669645152255], [.agg #[.bool false, .string ⟨#[22, 160, 158, 97, 153, 255, 255]⟩, .int .i64 (.negSucc 48)], .int .i64 (.ofNat 0)]⟩
theorem covTA2_r15 : runsTo [] covTA2_e15 = true := by decide +kernel
def covTA2_e16 : En := ⟨196, [.agg #[.bool false, .string ⟨#[22, 160, 158, 97, 153, 255, 255]⟩, .int .i64 (.negSucc 48)], .agg #[.bool false, .string ⟨#[22, 160, 158, 97, 153, 255, 255]⟩, .int .i64 (.negSucc 48)]], [.agg #[.bool false, .string ⟨#[1, 255, 255, 255, 34, 117, 31, 32, 207, 103, 60, 204, 0, 1]⟩, .int .i64 (.negSucc 97)], .int .i64 (.ofNat 0)]⟩
theorem covTA2_r16 : runsTo [] covTA2_e16 = true := by decide +kernel
def covTA2_e17 : En := ⟨131, [.agg #[.bool false, .string ⟨#[1, 255, 255, 255, 34, 117, 31, 32, 207, 103, 60, 204, 0, 1]⟩, .int .i64 (.negSucc 97)], .agg #[.bool false, .string ⟨#[1]⟩, .int .i64 (.ofNat 7)]], [.int .i64 (.negSucc 0), .int .i64 (.ofNat 0)]⟩
theorem covTA2_r17 : runsTo [] covTA2_e17 = true := by decide +kernel
def covTA2_e18 : En := ⟨182, [.float .f64 4622558669779304447], [.agg #[.bool false, .string ⟨#[22, 160, 158, 105, 152, 255, 255]⟩, .int .i64 (.negSucc 48)], .int .i64 (.ofNat 0)]⟩
theorem covTA2_r18 : runsTo [] covTA2_e18 = true := by decide +kernel
def covTA2_e19 : En := ⟨196, [.agg #[.bool false, .string ⟨#[22, 160, 158, 105, 152, 255, 255]⟩, .int .i64 (.negSucc 48)], .agg #[.bool false, .string ⟨#[22, 160, 158, 105, 152, 255, 255]⟩, .int .i64 (.negSucc 48)]], [.agg #[.bool false, .string ⟨#[2, 0, 0, 0, 140, 81, 196, 61, 156, 52, 44, 206, 0, 1]⟩, .int .i64 (.negSucc 97)], .int .i64 (.ofNat 0)]⟩
theorem covTA2_r19 : runsTo [] covTA2_e19 = true := by decide +kernel
def covTA2_e20 : En := ⟨131, [.agg #[.bool false, .string ⟨#[2, 0, 0, 0, 140, 81, 196, 61, 156, 52, 44, 206, 0, 1]⟩, .int .i64 (.negSucc 97)], .agg #[.bool false, .string ⟨#[1]⟩, .int .i64 (.ofNat 7)]], [.int .i64 (.ofNat 1), .int .i64 (.ofNat 0)]⟩
theorem covTA2_r20 : runsTo [] covTA2_e20 = true := by decide +kernel
def covTA2_e21 : En := ⟨182, [.float .f64 4622558669712228351], [.agg #[.bool false, .string ⟨#[22, 160, 158, 101, 153, 127, 255]⟩, .int .i64 (.negSucc 48)], .int .i64 (.ofNat 0)]⟩
theorem covTA2_r21 : runsTo [] covTA2_e21 = true := by decide +kernel
def covTA2_e22 : En := ⟨196, [.agg #[.bool false, .string ⟨#[22, 160, 158, 101, 153, 127, 255]⟩, .int .i64 (.negSucc 48)], .agg #[.bool false, .string ⟨#[22, 160, 158, 101, 153, 127, 255]⟩, .int .i64 (.negSucc 48)]], [.agg #[.bool false, .string ⟨#[1, 255, 255, 255, 215, 99, 113, 159, 57, 205, 116, 205, 0, 1]⟩, .int .i64 (.negSucc 97)], .int .i64 (.ofNat 0)]⟩
theorem covTA2_r22 : runsTo [] covTA2_e22 = true := by decide +kernel
def covTA2_e23 : En := ⟨131, [.agg #[.bool false, .string ⟨#[1, 255, 255, 255, 215, 99, 113, 159, 57, 205, 116, 205, 0, 1]⟩, .int .i64 (.negSucc 97)], .agg #[.bool false, .string ⟨#[1]⟩, .int .i64 (.ofNat 7)]], [.int .i64 (.negSucc 0), .int .i64 (.ofNat 0)]⟩
theorem covTA2_r23 : runsTo [] covTA2_e23 = true := by decide +kernel
def covTA2_e24 : En := ⟨182, [.float .f64 4622558669745766399], [.agg #[.bool false, .string ⟨#[22, 160, 158, 103, 153, 63, 255]⟩, .int .i64 (.negSucc 48)], .int .i64 (.ofNat 0)]⟩
theorem covTA2_r24 : runsTo [] covTA2_e24 = true := by decide +kernel
def covTA2_e25 : En := ⟨196, [.agg #[.bool false, .string ⟨#[22, 160, 158, 103, 153, 63, 255]⟩, .int .i64 (.negSucc 48)], .agg #[.bool false, .string ⟨#[22, 160, 158, 103, 153, 63, 255]⟩, .int .i64 (.negSucc 48)]], [.agg #[.bool false, .string ⟨#[2, 0, 0, 0, 49, 218, 154, 234, 108, 0, 192, 205, 128, 1]⟩, .int .i64 (.negSucc 97)], .int .i64 (.ofNat 0)]⟩
theorem covTA2_r25 : runsTo [] covTA2_e25 = true := by decide +kernel
def covTA2_e26 : En := ⟨131, [.agg #[.bool false, .string ⟨#[2, 0, 0, 0, 49, 218, 154, 234, 108, 0, 192, 205, 128, 1]⟩, .int .i64 (.negSucc 97)], .agg #[.bool false, .string ⟨#[1]⟩, .int .i64 (.ofNat 7)]], [.int .i64 (.ofNat 1), .int .i64 (.ofNat 0)]⟩
theorem covTA2_r26 : runsTo [] covTA2_e26 = true := by decide +kernel
def covTA2_e27 : En := ⟨182, [.float .f64 4622558669728997375], [.agg #[.bool false, .string ⟨#[22, 160, 158, 102, 153, 95, 255]⟩, .int .i64 (.negSucc 48)], .int .i64 (.ofNat 0)]⟩
theorem covTA2_r27 : runsTo [] covTA2_e27 = true := by decide +kernel
def covTA2_e28 : En := ⟨196, [.agg #[.bool false, .string ⟨#[22, 160, 158, 102, 153, 95, 255]⟩, .int .i64 (.negSucc 48)], .agg #[.bool false, .string ⟨#[22, 160, 158, 102, 153, 95, 255]⟩, .int .i64 (.negSucc 48)]], [.agg #[.bool false, .string ⟨#[2, 0, 0, 0, 4, 159, 6, 67, 211, 39, 22, 205, 64, 1]⟩, .int .i64 (.negSucc 97)], .int .i64 (.ofNat 0)]⟩
theorem covTA2_r28 : runsTo [] covTA2_e28 = true := by decide +kernel
def covTA2_e29 : En := ⟨131, [.agg #[.bool false, .string ⟨#[2, 0, 0, 0, 4, 159, 6, 67, 211, 39, 22, 205, 64, 1]⟩, .int .i64 (.negSucc 97)], .agg #[.bool false, .string ⟨#[1]⟩, .int .i64 (.ofNat 7)]], [.int .i64 (.ofNat 1), .int .i64 (.ofNat 0)]⟩
theorem covTA2_r29 : runsTo [] covTA2_e29 = true := by decide +kernel
def covTA2_e30 : En := ⟨182, [.float .f64 4622558669720612863], [.agg #[.bool false, .string ⟨#[22, 160, 158, 102, 25, 111, 255]⟩, .int .i64 (.negSucc 48)], .int .i64 (.ofNat 0)]⟩
theorem covTA2_r30 : runsTo [] covTA2_e30 = true := by decide +kernel
def covTA2_e31 : En := ⟨196, [.agg #[.bool false, .string ⟨#[22, 160, 158, 102, 25, 111, 255]⟩, .int .i64 (.negSucc 48)], .agg #[.bool false, .string ⟨#[22, 160, 158, 102, 25, 111, 255]⟩, .int .i64 (.negSucc 48)]], [.agg #[.bool false, .string ⟨#[1, 255, 255, 255, 238, 1, 59, 241, 70, 138, 68, 205, 32, 1]⟩, .int .i64 (.negSucc 97)], .int .i64 (.ofNat 0)]⟩
theorem covTA2_r31 : runsTo [] covTA2_e31 = true := by decide +kernel
def covTA2_e32 : En := ⟨131, [.agg #[.bool false, .string ⟨#[1, 255, 255, 255, 238, 1, 59, 241, 70, 138, 68, 205, 32, 1]⟩, .int .i64 (.negSucc 97)], .agg #[.bool false, .string ⟨#[1]⟩, .int .i64 (.ofNat 7)]], [.int .i64 (.negSucc 0), .int .i64 (.ofNat 0)]⟩
theorem covTA2_r32 : runsTo [] covTA2_e32 = true := by decide +kernel
def covTA2_e33 : En := ⟨182, [.float .f64 4622558669724805119], [.agg #[.bool false, .string ⟨#[22, 160, 158, 102, 89, 103, 255]⟩, .int .i64 (.negSucc 48)], .int .i64 (.ofNat 0)]⟩
theorem covTA2_r33 : runsTo [] covTA2_e33 = true := by decide +kernel
def covTA2_e34 : En := ⟨196, [.agg #[.bool false, .string ⟨#[22, 160, 158, 102, 89, 103, 255]⟩, .int .i64 (.negSucc 48)], .agg #[.bool false, .string ⟨#[22, 160, 158, 102, 89, 103, 255]⟩, .int .i64 (.negSucc 48)]], [.agg #[.bool false, .string ⟨#[1, 255, 255, 255, 249, 80, 33, 26, 124, 220, 173, 141, 48, 1]⟩, .int .i64 (.negSucc 97)], .int .i64 (.ofNat 0)]⟩
theorem covTA2_r34 : runsTo [] covTA2_e34 = true := by decide +kernel
def covTA2_e35 : En := ⟨131, [.agg #[.bool false, .string ⟨#[1, 255, 255, 255, 249, 80, 33, 26, 124, 220, 173, 141, 48, 1]⟩, .int .i64 (.negSucc 97)], .agg #[.bool false, .string ⟨#[1]⟩, .int .i64 (.ofNat 7)]], [.int .i64 (.negSucc 0), .int .i64 (.ofNat 0)]⟩
theorem covTA2_r35 : runsTo [] covTA2_e35 = true := by decide +kernel
def covTA2_e36 : En := ⟨182, [.float .f64 4622558669726901247], [.agg #[.bool false, .string ⟨#[22, 160, 158, 102, 121, 99, 255]⟩, .int .i64 (.negSucc 48)], .int .i64 (.ofNat 0)]⟩
theorem covTA2_r36 : runsTo [] covTA2_e36 = true := by decide +kernel
def covTA2_e37 : En := ⟨196, [.agg #[.bool false, .string ⟨#[22, 160, 158, 102, 121, 99, 255]⟩, .int .i64 (.negSucc 48)], .agg #[.bool false, .string ⟨#[22, 160, 158, 102, 121, 99, 255]⟩, .int .i64 (.negSucc 48)]], [.agg #[.bool false, .string ⟨#[1, 255, 255, 255, 254, 247, 147, 175, 36, 2, 226, 29, 56, 1]⟩, .int .i64 (.negSucc 97)], .int .i64 (.ofNat 0)]⟩
theorem covTA2_r37 : runsTo [] covTA2_e37 = true := by decide +kernel
def covTA2_e38 : En := ⟨131, [.agg #[.bool false, .string ⟨#[1, 255, 255, 255, 254, 247, 147, 175, 36, 2, 226, 29, 56, 1]⟩, .int .i64 (.negSucc 97)], .agg #[.bool false, .string ⟨#[1]⟩, .int .i64 (.ofNat 7)]], [.int .i64 (.negSucc 0), .int .i64 (.ofNat 0)]⟩
theorem covTA2_r38 : runsTo [] covTA2_e38 = true := by decide +kernel
def covTA2_e39 : En := ⟨182, [.float .f64 4622558669727949311], [.agg #[.bool false, .string ⟨#[22, 160, 158, 102, 137, 97, 255]⟩, .int .i64 (.negSucc 48)], .int .i64 (.ofNat 0)]⟩
theorem covTA2_r39 : runsTo [] covTA2_e39 = true := by decide +kernel
def covTA2_e40 : En := ⟨196, [.agg #[.bool false, .string ⟨#[22, 160, 158, 102, 137, 97, 255]⟩, .int .i64 (.negSucc 48)], .agg #[.bool false, .string ⟨#[22, 160, 158, 102, 137, 97, 255]⟩, .int .i64 (.negSucc 48)]], [.agg #[.bool false, .string ⟨#[2, 0, 0, 0, 1, 203, 76, 249, 122, 149, 60, 113, 60, 1]⟩, .int .i64 (.negSucc 97)], .int .i64 (.ofNat 0)]⟩
theorem covTA2_r40 : runsTo [] covTA2_e40 = true := by decide +kernel
def covTA2_e41 : En := ⟨131, [.agg #[.bool false, .string ⟨#[2, 0, 0, 0, 1, 203, 76, 249, 122, 149, 60, 113, 60, 1]⟩, .int .i64 (.negSucc 97)], .agg #[.bool false, .string ⟨#[1]⟩, .int .i64 (.ofNat 7)]], [.int .i64 (.ofNat 1), .int .i64 (.ofNat 0)]⟩
theorem covTA2_r41 : runsTo [] covTA2_e41 = true := by decide +kernel
def covTA2_e42 : En := ⟨182, [.float .f64 4622558669727425279], [.agg #[.bool false, .string ⟨#[22, 160, 158, 102, 129, 98, 255]⟩, .int .i64 (.negSucc 48)], .int .i64 (.ofNat 0)]⟩
theorem covTA2_r42 : runsTo [] covTA2_e42 = true := by decide +kernel
def covTA2_e43 : En := ⟨196, [.agg #[.bool false, .string ⟨#[22, 160, 158, 102, 129, 98, 255]⟩, .int .i64 (.negSucc 48)], .agg #[.bool false, .string ⟨#[22, 160, 158, 102, 129, 98, 255]⟩, .int .i64 (.negSucc 48)]], [.agg #[.bool false, .string ⟨#[2, 0, 0, 0, 0, 97, 112, 84, 79, 12, 31, 70, 58, 1]⟩, .int .i64 (.negSucc 97)], .int .i64 (.ofNat 0)]⟩
theorem covTA2_r43 : runsTo [] covTA2_e43 = true := by decide +kernel
def covTA2_e44 : En := ⟨131, [.agg #[.bool false, .string ⟨#[2, 0, 0, 0, 0, 97, 112, 84, 79, 12, 31, 70, 58, 1]⟩, .int .i64 (.negSucc 97)], .agg #[.bool false, .string ⟨#[1]⟩, .int .i64 (.ofNat 7)]], [.int .i64 (.ofNat 1), .int .i64 (.ofNat 0)]⟩
theorem covTA2_r44 : runsTo [] covTA2_e44 = true := by decide +kernel
def covTA2_e45 : En := ⟨182, [.float .f64 4622558669727163263], [.agg #[.bool false, .string ⟨#[22, 160, 158, 102, 125, 99, 127]⟩, .int .i64 (.negSucc 48)], .int .i64 (.ofNat 0)]⟩
theorem covTA2_r45 : runsTo [] covTA2_e45 = true := by decide +kernel
def covTA2_e46 : En := ⟨196, [.agg #[.bool false, .string ⟨#[22, 160, 158, 102, 125, 99, 127]⟩, .int .i64 (.negSucc 48)], .agg #[.bool false, .string ⟨#[22, 160, 158, 102, 125, 99, 127]⟩, .int .i64 (.negSucc 48)]], [.agg #[.bool false, .string ⟨#[1, 255, 255, 255, 255, 172, 130, 1, 185, 119, 132, 177, 121, 1]⟩, .int .i64 (.negSucc 97)], .int .i64 (.ofNat 0)]⟩
theorem covTA2_r46 : runsTo [] covTA2_e46 = true := by decide +kernel
def covTA2_e47 : En := ⟨131, [.agg #[.bool false, .string ⟨#[1, 255, 255, 255, 255, 172, 130, 1, 185, 119, 132, 177, 121, 1]⟩, .int .i64 (.negSucc 97)], .agg #[.bool false, .string ⟨#[1]⟩, .int .i64 (.ofNat 7)]], [.int .i64 (.negSucc 0), .int .i64 (.ofNat 0)]⟩
theorem covTA2_r47 : runsTo [] covTA2_e47 = true := by decide +kernel
def covTA2_e48 : En := ⟨182, [.float .f64 4622558669727294271], [.agg #[.bool false, .string ⟨#[22, 160, 158, 102, 127, 99, 63]⟩, .int .i64 (.negSucc 48)], .int .i64 (.ofNat 0)]⟩
theorem covTA2_r48 : runsTo [] covTA2_e48 = true := by decide +kernel
def covTA2_e49 : En := ⟨196, [.agg #[.bool false, .string ⟨#[22, 160, 158, 102, 127, 99, 63]⟩, .int .i64 (.negSucc 48)], .agg #[.bool false, .string ⟨#[22, 160, 158, 102, 127, 99, 63]⟩, .int .i64 (.negSucc 48)]], [.agg #[.bool false, .string ⟨#[2, 0, 0, 0, 0, 6, 249, 43, 4, 61, 210, 251, 201, 129]⟩, .int .i64 (.negSucc 97)], .int .i64 (.ofNat 0)]⟩
theorem covTA2_r49 : runsTo [] covTA2_e49 = true := by decide +kernel
def covTA2_e50 : En := ⟨131, [.agg #[.bool false, .string ⟨#[2, 0, 0, 0, 0, 6, 249, 43, 4, 61, 210, 251, 201, 129]⟩, .int .i64 (.negSucc 97)], .agg #[.bool false, .string ⟨#[1]⟩, .int .i64 (.ofNat 7)]], [.int .i64 (.ofNat 1), .int .i64 (.ofNat 0)]⟩
theorem covTA2_r50 : runsTo [] covTA2_e50 = true := by decide +kernel
def covTA2_e51 : En := ⟨182, [.float .f64 4622558669727228767], [.agg #[.bool false, .string ⟨#[22, 160, 158, 102, 126, 99, 95]⟩, .int .i64 (.negSucc 48)], .int .i64 (.ofNat 0)]⟩
theorem covTA2_r51 : runsTo [] covTA2_e51 = true := by decide +kernel
def covTA2 : List En := [covTA2_e0, covTA2_e1, covTA2_e2, covTA2_e3, covTA2_e4, covTA2_e5, covTA2_e6, covTA2_e7, covTA2_e8, covTA2_e9, covTA2_e10, covTA2_e11, covTA2_e12, covTA2_e13, covTA2_e14, covTA2_e15, covTA2_e16, covTA2_e17, covTA2_e18, covTA2_e19, covTA2_e20, covTA2_e21, covTA2_e22, covTA2_e23, covTA2_e24, covTA2_e25, covTA2_e26, covTA2_e27, covTA2_e28, covTA2_e29, covTA2_e30, covTA2_e31, covTA2_e32, covTA2_e33, covTA2_e34, covTA2_e35, covTA2_e36, covTA2_e37, covTA2_e38, covTA2_e39, covTA2_e40, covTA2_e41, covTA2_e42, covTA2_e43, covTA2_e44, covTA2_e45, covTA2_e46, covTA2_e47, covTA2_e48, covTA2_e49, covTA2_e50, covTA2_e51]
theorem covTA2_ok : ∀ e ∈ covTA2, EnOK e := all_cons (runsTo_ok all_nil covTA2_r0) <| all_cons (runsTo_ok all_nil covTA2_r1) <| all_cons (runsTo_ok all_nil covTA2_r2) <| all_cons (runsTo_ok all_nil covTA2_r3) <| all_cons (runsTo_ok all_nil covTA2_r4) <| all_cons (runsTo_ok all_nil covTA2_r5) <| all_cons (runsTo_ok all_nil covTA2_r6) <| all_cons (runsTo_ok all_nil covTA2_r7) <| all_cons (runsTo_ok all_nil covTA2_r8) <| all_cons (runsTo_ok all_nil covTA2_r9) <| all_cons (runsTo_ok all_nil covTA2_r10) <| all_cons (runsTo_ok all_nil covTA2_r11) <| all_cons (runsTo_ok all_nil covTA2_r12) <| all_cons (runsTo_ok all_nil covTA2_r13) <| all_cons (runsTo_ok all_nil covTA2_r14) <| all_cons (runsTo_ok all_nil covTA2_r15) <| all_cons (runsTo_ok all_nil covTA2_r16) <| all_cons (runsTo_ok all_nil covTA2_r17) <| all_cons (runsTo_ok all_nil covTA2_r18) <| all_cons (runsTo_ok all_nil covTA2_r19) <| all_cons (runsTo_ok all_nil covTA2_r20) <| all_cons (runsTo_ok all_nil covTA2_r21) <| all_cons (runsTo_ok all_nil covTA2_r22) <| all_cons (runsTo_ok all_nil covTA2_r23) <| all_cons (runsTo_ok all_nil covTA2_r24) <| all_cons (runsTo_ok all_nil covTA2_r25) <| all_cons (runsTo_ok all_nil covTA2_r26) <| all_cons (runsTo_ok all_nil covTA2_r27) <| all_cons (runsTo_ok all_nil covTA2_r28) <| all_cons (runsTo_ok all_nil covTA2_r29) <| all_cons (runsTo_ok all_nil covTA2_r30) <| all_cons (runsTo_ok all_nil covTA2_r31) <| all_cons (runsTo_ok all_nil covTA2_r32) <| all_cons (runsTo_ok all_nil covTA2_r33) <| all_cons (runsTo_ok all_nil covTA2_r34) <| all_cons (runsTo_ok all_nil covTA2_r35) <| all_cons (runsTo_ok all_nil covTA2_r36) <| all_cons (runsTo_ok all_nil covTA2_r37) <| all_cons (runsTo_ok all_nil covTA2_r38) <| all_cons (runsTo_ok all_nil covTA2_r39) <| all_cons (runsTo_ok all_nil covTA2_r40) <| all_cons (runsTo_ok all_nil covTA2_r41) <| all_cons (runsTo_ok all_nil covTA2_r42) <| all_cons (runsTo_ok all_nil covTA2_r43) <| all_cons (runsTo_ok all_nil covTA2_r44) <| all_cons (runsTo_ok all_nil covTA2_r45) <| all_cons (runsTo_ok all_nil covTA2_r46) <| all_cons (runsTo_ok all_nil covTA2_r47) <| all_cons (runsTo_ok all_nil covTA2_r48) <| all_cons (runsTo_ok all_nil covTA2_r49) <| all_cons (runsTo_ok all_nil covTA2_r50) <| all_cons (runsTo_ok all_nil covTA2_r51) <|  all_nil
end Go.Proofs.YtneakieigiafpaaGreatDoor
