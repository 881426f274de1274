/- Calls behind view.Cover of a square (part 4): each is run by the kernel. -/
import Derived.Test.YtneakieigiafpaaGreatDoorLayR
namespace Go.Proofs.YtneakieigiafpaaGreatDoor
open Go.Ex
set_option maxRecDepth 100000
def covTA3_e0 : En := ⟨196, [.agg #[.bool false, .string ⟨#[22, 160, 158, 102, 126, 99, 95]⟩, .int .i64 (.negSucc 48)], .agg #[.bool false, .string ⟨#[22, 160, 158, 102, 126, 99, 95]⟩, .int .i64 (.negSucc 48)]], [.agg #[.bool false, .string ⟨#[1, 255, 255, 255, 255, 217, 189, 150, 94, 217, 172, 22, 157, 65]⟩, .int .i64 (.negSucc 97)], .int .i64 (.ofNat 0)]⟩
theorem covTA3_r0 : runsTo [] covTA3_e0 = true := by decide +kernel
def covTA3_e1 : En := ⟨131, [.agg #[.bool false, .string ⟨#[1, 255, 255, 255, 255, 217, 189, 150, 94, 217, 172, 22, 157, 65]⟩, .int .i64 (.negSucc 97)], .agg #[.bool false, .string ⟨#[1]⟩, .int .i64 (.ofNat 7)]], [.int .i64 (.negSucc 0), .int .i64 (.ofNat 0)]⟩
theorem covTA3_r1 : runsTo [] covTA3_e1 = true := by decide +kernel
def covTA3_e2 : En := ⟨182, [.float .f64 4622558669727261519], [.agg #[.bool false, .string ⟨#[22, 160, 158, 102, 126, 227, 79]⟩, .int .i64 (.negSucc 48)], .int .i64 (.ofNat 0)]⟩
theorem covTA3_r2 : runsTo [] covTA3_e2 = true := by decide +kernel
def covTA3_e3 : En := ⟨196, [.agg #[.bool false, .string ⟨#[22, 160, 158, 102, 126, 227, 79]⟩, .int .i64 (.negSucc 48)], .agg #[.bool false, .string ⟨#[22, 160, 158, 102, 126, 227, 79]⟩, .int .i64 (.negSucc 48)]], [.agg #[.bool false, .string ⟨#[1, 255, 255, 255, 255, 240, 91, 96, 177, 139, 127, 153, 50, 97]⟩, .int .i64 (.negSucc 97)], .int .i64 (.ofNat 0)]⟩
theorem covTA3_r3 : runsTo [] covTA3_e3 = true := by decide +kernel
def covTA3_e4 : En := ⟨131, [.agg #[.bool false, .string ⟨#[1, 255, 255, 255, 255, 240, 91, 96, 177, 139, 127, 153, 50, 97]⟩, .int .i64 (.negSucc 97)], .agg #[.bool false, .string ⟨#[1]⟩, .int .i64 (.ofNat 7)]], [.int .i64 (.negSucc 0), .int .i64 (.ofNat 0)]⟩
theorem covTA3_r4 : runsTo [] covTA3_e4 = true := by decide +kernel
def covTA3_e5 : En := ⟨182, [.float .f64 4622558669727277895], [.agg #[.bool false, .string ⟨#[22, 160, 158, 102, 127, 35, 71]⟩, .int .i64 (.negSucc 48)], .int .i64 (.ofNat 0)]⟩
theorem covTA3_r5 : runsTo [] covTA3_e5 = true := by decide +kernel
def covTA3_e6 : En := ⟨196, [.agg #[.bool false, .string ⟨#[22, 160, 158, 102, 127, 35, 71]⟩, .int .i64 (.negSucc 48)], .agg #[.bool false, .string ⟨#[22, 160, 158, 102, 127, 35, 71]⟩, .int .i64 (.negSucc 48)]], [.agg #[.bool false, .string ⟨#[1, 255, 255, 255, 255, 251, 170, 69, 218, 228, 153, 78, 125, 177]⟩, .int .i64 (.negSucc 97)], .int .i64 (.ofNat 0)]⟩
theorem covTA3_r6 : runsTo [] covTA3_e6 = true := by decide +kernel
def covTA3_e7 : En := ⟨131, [.agg #[.bool false, .string ⟨#[1, 255, 255, 255, 255, 251, 170, 69, 218, 228, 153, 78, 125, 177]⟩, .int .i64 (.negSucc 97)], .agg #[.bool false, .string ⟨#[1]⟩, .int .i64 (.ofNat 7)]], [.int .i64 (.negSucc 0), .int .i64 (.ofNat 0)]⟩
theorem covTA3_r7 : runsTo [] covTA3_e7 = true := by decide +kernel
def covTA3_e8 : En := ⟨182, [.float .f64 4622558669727286083], [.agg #[.bool false, .string ⟨#[22, 160, 158, 102, 127, 67, 67]⟩, .int .i64 (.negSucc 48)], .int .i64 (.ofNat 0)]⟩
theorem covTA3_r8 : runsTo [] covTA3_e8 = true := by decide +kernel
def covTA3_e9 : En := ⟨196, [.agg #[.bool false, .string ⟨#[22, 160, 158, 102, 127, 67, 67]⟩, .int .i64 (.negSucc 48)], .agg #[.bool false, .string ⟨#[22, 160, 158, 102, 127, 67, 67]⟩, .int .i64 (.negSucc 48)]], [.agg #[.bool false, .string ⟨#[2, 0, 0, 0, 0, 1, 81, 184, 111, 145, 50, 38, 35, 137]⟩, .int .i64 (.negSucc 97)], .int .i64 (.ofNat 0)]⟩
theorem covTA3_r9 : runsTo [] covTA3_e9 = true := by decide +kernel
def covTA3_e10 : En := ⟨131, [.agg #[.bool false, .string ⟨#[2, 0, 0, 0, 0, 1, 81, 184, 111, 145, 50, 38, 35, 137]⟩, .int .i64 (.negSucc 97)], .agg #[.bool false, .string ⟨#[1]⟩, .int .i64 (.ofNat 7)]], [.int .i64 (.ofNat 1), .int .i64 (.ofNat 0)]⟩
theorem covTA3_r10 : runsTo [] covTA3_e10 = true := by decide +kernel
def covTA3_e11 : En := ⟨182, [.float .f64 4622558669727281989], [.agg #[.bool false, .string ⟨#[22, 160, 158, 102, 127, 51, 69]⟩, .int .i64 (.negSucc 48)], .int .i64 (.ofNat 0)]⟩
theorem covTA3_r11 : runsTo [] covTA3_e11 = true := by decide +kernel
def covTA3_e12 : En := ⟨196, [.agg #[.bool false, .string ⟨#[22, 160, 158, 102, 127, 51, 69]⟩, .int .i64 (.negSucc 48)], .agg #[.bool false, .string ⟨#[22, 160, 158, 102, 127, 51, 69]⟩, .int .i64 (.negSucc 48)]], [.agg #[.bool false, .string ⟨#[1, 255, 255, 255, 255, 254, 125, 255, 37, 58, 228, 186, 144, 153]⟩, .int .i64 (.negSucc 97)], .int .i64 (.ofNat 0)]⟩
theorem covTA3_r12 : runsTo [] covTA3_e12 = true := by decide +kernel
def covTA3_e13 : En := ⟨131, [.agg #[.bool false, .string ⟨#[1, 255, 255, 255, 255, 254, 125, 255, 37, 58, 228, 186, 144, 153]⟩, .int .i64 (.negSucc 97)], .agg #[.bool false, .string ⟨#[1]⟩, .int .i64 (.ofNat 7)]], [.int .i64 (.negSucc 0), .int .i64 (.ofNat 0)]⟩
theorem covTA3_r13 : runsTo [] covTA3_e13 = true := by decide +kernel
def covTA3_e14 : En := ⟨182, [.float .f64 4622558669727284036], [.agg #[.bool false, .string ⟨#[5, 168, 39, 153, 159, 206, 209]⟩, .int .i64 (.negSucc 46)], .int .i64 (.ofNat 0)]⟩
theorem covTA3_r14 : runsTo [] covTA3_e14 = true := by decide +kernel
def covTA3_e15 : En := ⟨196, [.agg #[.bool false, .string ⟨#[5, 168, 39, 153, 159, 206, 209]⟩, .int .i64 (.negSucc 46)], .agg #[.bool false, .string ⟨#[5, 168, 39, 153, 159, 206, 209]⟩, .int .i64 (.negSucc 46)]], [.agg #[.bool false, .string ⟨#[31, 255, 255, 255, 255, 254, 125, 188, 166, 96, 179, 6, 161]⟩, .int .i64 (.negSucc 93)], .int .i64 (.ofNat 0)]⟩
theorem covTA3_r15 : runsTo [] covTA3_e15 = true := by decide +kernel
def covTA3_e16 : En := ⟨131, [.agg #[.bool false, .string ⟨#[31, 255, 255, 255, 255, 254, 125, 188, 166, 96, 179, 6, 161]⟩, .int .i64 (.negSucc 93)], .agg #[.bool false, .string ⟨#[1]⟩, .int .i64 (.ofNat 7)]], [.int .i64 (.negSucc 0), .int .i64 (.ofNat 0)]⟩
theorem covTA3_r16 : runsTo [] covTA3_e16 = true := by decide +kernel
def covTA3_e17 : En := ⟨182, [.float .f64 4622558669727285060], [.agg #[.bool false, .string ⟨#[5, 168, 39, 153, 159, 207, 209]⟩, .int .i64 (.negSucc 46)], .int .i64 (.ofNat 0)]⟩
theorem covTA3_r17 : runsTo [] covTA3_e17 = true := by decide +kernel
def covTA3_e18 : En := ⟨196, [.agg #[.bool false, .string ⟨#[5, 168, 39, 153, 159, 207, 209]⟩, .int .i64 (.negSucc 46)], .agg #[.bool false, .string ⟨#[5, 168, 39, 153, 159, 207, 209]⟩, .int .i64 (.negSucc 46)]], [.agg #[.bool false, .string ⟨#[32, 0, 0, 0, 0, 9, 206, 11, 217, 160, 81, 168, 161]⟩, .int .i64 (.negSucc 93)], .int .i64 (.ofNat 0)]⟩
theorem covTA3_r18 : runsTo [] covTA3_e18 = true := by decide +kernel
def covTA3_e19 : En := ⟨131, [.agg #[.bool false, .string ⟨#[32, 0, 0, 0, 0, 9, 206, 11, 217, 160, 81, 168, 161]⟩, .int .i64 (.negSucc 93)], .agg #[.bool false, .string ⟨#[1]⟩, .int .i64 (.ofNat 7)]], [.int .i64 (.ofNat 1), .int .i64 (.ofNat 0)]⟩
theorem covTA3_r19 : runsTo [] covTA3_e19 = true := by decide +kernel
def covTA3_e20 : En := ⟨182, [.float .f64 4622558669727284548], [.agg #[.bool false, .string ⟨#[5, 168, 39, 153, 159, 207, 81]⟩, .int .i64 (.negSucc 46)], .int .i64 (.ofNat 0)]⟩
theorem covTA3_r20 : runsTo [] covTA3_e20 = true := by decide +kernel
def covTA3_e21 : En := ⟨196, [.agg #[.bool false, .string ⟨#[5, 168, 39, 153, 159, 207, 81]⟩, .int .i64 (.negSucc 46)], .agg #[.bool false, .string ⟨#[5, 168, 39, 153, 159, 207, 81]⟩, .int .i64 (.negSucc 46)]], [.agg #[.bool false, .string ⟨#[32, 0, 0, 0, 0, 4, 37, 228, 64, 0, 130, 23, 161]⟩, .int .i64 (.negSucc 93)], .int .i64 (.ofNat 0)]⟩
theorem covTA3_r21 : runsTo [] covTA3_e21 = true := by decide +kernel
def covTA3_e22 : En := ⟨131, [.agg #[.bool false, .string ⟨#[32, 0, 0, 0, 0, 4, 37, 228, 64, 0, 130, 23, 161]⟩, .int .i64 (.negSucc 93)], .agg #[.bool false, .string ⟨#[1]⟩, .int .i64 (.ofNat 7)]], [.int .i64 (.ofNat 1), .int .i64 (.ofNat 0)]⟩
theorem covTA3_r22 : runsTo [] covTA3_e22 = true := by decide +kernel
def covTA3_e23 : En := ⟨182, [.float .f64 4622558669727284292], [.agg #[.bool false, .string ⟨#[5, 168, 39, 153, 159, 207, 17]⟩, .int .i64 (.negSucc 46)], .int .i64 (.ofNat 0)]⟩
theorem covTA3_r23 : runsTo [] covTA3_e23 = true := by decide +kernel
def covTA3_e24 : En := ⟨196, [.agg #[.bool false, .string ⟨#[5, 168, 39, 153, 159, 207, 17]⟩, .int .i64 (.negSucc 46)], .agg #[.bool false, .string ⟨#[5, 168, 39, 153, 159, 207, 17]⟩, .int .i64 (.negSucc 46)]], [.agg #[.bool false, .string ⟨#[32, 0, 0, 0, 0, 1, 81, 208, 115, 48, 154, 127, 33]⟩, .int .i64 (.negSucc 93)], .int .i64 (.ofNat 0)]⟩
theorem covTA3_r24 : runsTo [] covTA3_e24 = true := by decide +kernel
def covTA3_e25 : En := ⟨131, [.agg #[.bool false, .string ⟨#[32, 0, 0, 0, 0, 1, 81, 208, 115, 48, 154, 127, 33]⟩, .int .i64 (.negSucc 93)], .agg #[.bool false, .string ⟨#[1]⟩, .int .i64 (.ofNat 7)]], [.int .i64 (.ofNat 1), .int .i64 (.ofNat 0)]⟩
theorem covTA3_r25 : runsTo [] covTA3_e25 = true := by decide +kernel
def covTA3_e26 : En := ⟨182, [.float .f64 4622558669727284164], [.agg #[.bool false, .string ⟨#[5, 168, 39, 153, 159, 206, 241]⟩, .int .i64 (.negSucc 46)], .int .i64 (.ofNat 0)]⟩
theorem covTA3_r26 : runsTo [] covTA3_e26 = true := by decide +kernel
def covTA3_e27 : En := ⟨196, [.agg #[.bool false, .string ⟨#[5, 168, 39, 153, 159, 206, 241]⟩, .int .i64 (.negSucc 46)], .agg #[.bool false, .string ⟨#[5, 168, 39, 153, 159, 206, 241]⟩, .int .i64 (.negSucc 46)]], [.agg #[.bool false, .string ⟨#[31, 255, 255, 255, 255, 255, 231, 198, 140, 200, 166, 190, 225]⟩, .int .i64 (.negSucc 93)], .int .i64 (.ofNat 0)]⟩
theorem covTA3_r27 : runsTo [] covTA3_e27 = true := by decide +kernel
def covTA3_e28 : En := ⟨131, [.agg #[.bool false, .string ⟨#[31, 255, 255, 255, 255, 255, 231, 198, 140, 200, 166, 190, 225]⟩, .int .i64 (.negSucc 93)], .agg #[.bool false, .string ⟨#[1]⟩, .int .i64 (.ofNat 7)]], [.int .i64 (.negSucc 0), .int .i64 (.ofNat 0)]⟩
theorem covTA3_r28 : runsTo [] covTA3_e28 = true := by decide +kernel
def covTA3_e29 : En := ⟨182, [.float .f64 4622558669727284228], [.agg #[.bool false, .string ⟨#[5, 168, 39, 153, 159, 207, 1]⟩, .int .i64 (.negSucc 46)], .int .i64 (.ofNat 0)]⟩
theorem covTA3_r29 : runsTo [] covTA3_e29 = true := by decide +kernel
def covTA3_e30 : En := ⟨196, [.agg #[.bool false, .string ⟨#[5, 168, 39, 153, 159, 207, 1]⟩, .int .i64 (.negSucc 46)], .agg #[.bool false, .string ⟨#[5, 168, 39, 153, 159, 207, 1]⟩, .int .i64 (.negSucc 46)]], [.agg #[.bool false, .string ⟨#[32, 0, 0, 0, 0, 0, 156, 203, 127, 252, 160, 158, 1]⟩, .int .i64 (.negSucc 93)], .int .i64 (.ofNat 0)]⟩
theorem covTA3_r30 : runsTo [] covTA3_e30 = true := by decide +kernel
def covTA3_e31 : En := ⟨131, [.agg #[.bool false, .string ⟨#[32, 0, 0, 0, 0, 0, 156, 203, 127, 252, 160, 158, 1]⟩, .int .i64 (.negSucc 93)], .agg #[.bool false, .string ⟨#[1]⟩, .int .i64 (.ofNat 7)]], [.int .i64 (.ofNat 1), .int .i64 (.ofNat 0)]⟩
theorem covTA3_r31 : runsTo [] covTA3_e31 = true := by decide +kernel
def covTA3_e32 : En := ⟨182, [.float .f64 4622558669727284196], [.agg #[.bool false, .string ⟨#[5, 168, 39, 153, 159, 206, 249]⟩, .int .i64 (.negSucc 46)], .int .i64 (.ofNat 0)]⟩
theorem covTA3_r32 : runsTo [] covTA3_e32 = true := by decide +kernel
def covTA3_e33 : En := ⟨196, [.agg #[.bool false, .string ⟨#[5, 168, 39, 153, 159, 206, 249]⟩, .int .i64 (.negSucc 46)], .agg #[.bool false, .string ⟨#[5, 168, 39, 153, 159, 206, 249]⟩, .int .i64 (.negSucc 46)]], [.agg #[.bool false, .string ⟨#[32, 0, 0, 0, 0, 0, 66, 73, 6, 98, 163, 174, 49]⟩, .int .i64 (.negSucc 93)], .int .i64 (.ofNat 0)]⟩
theorem covTA3_r33 : runsTo [] covTA3_e33 = true := by decide +kernel
def covTA3_e34 : En := ⟨131, [.agg #[.bool false, .string ⟨#[32, 0, 0, 0, 0, 0, 66, 73, 6, 98, 163, 174, 49]⟩, .int .i64 (.negSucc 93)], .agg #[.bool false, .string ⟨#[1]⟩, .int .i64 (.ofNat 7)]], [.int .i64 (.ofNat 1), .int .i64 (.ofNat 0)]⟩
theorem covTA3_r34 : runsTo [] covTA3_e34 = true := by decide +kernel
def covTA3_e35 : En := ⟨182, [.float .f64 4622558669727284180], [.agg #[.bool false, .string ⟨#[5, 168, 39, 153, 159, 206, 245]⟩, .int .i64 (.negSucc 46)], .int .i64 (.ofNat 0)]⟩
theorem covTA3_r35 : runsTo [] covTA3_e35 = true := by decide +kernel
def covTA3_e36 : En := ⟨196, [.agg #[.bool false, .string ⟨#[5, 168, 39, 153, 159, 206, 245]⟩, .int .i64 (.negSucc 46)], .agg #[.bool false, .string ⟨#[5, 168, 39, 153, 159, 206, 245]⟩, .int .i64 (.negSucc 46)]], [.agg #[.bool false, .string ⟨#[32, 0, 0, 0, 0, 0, 21, 7, 201, 149, 165, 54, 121]⟩, .int .i64 (.negSucc 93)], .int .i64 (.ofNat 0)]⟩
theorem covTA3_r36 : runsTo [] covTA3_e36 = true := by decide +kernel
def covTA3_e37 : En := ⟨131, [.agg #[.bool false, .string ⟨#[32, 0, 0, 0, 0, 0, 21, 7, 201, 149, 165, 54, 121]⟩, .int .i64 (.negSucc 93)], .agg #[.bool false, .string ⟨#[1]⟩, .int .i64 (.ofNat 7)]], [.int .i64 (.ofNat 1), .int .i64 (.ofNat 0)]⟩
theorem covTA3_r37 : runsTo [] covTA3_e37 = true := by decide +kernel
def covTA3_e38 : En := ⟨182, [.float .f64 4622558669727284172], [.agg #[.bool false, .string ⟨#[5, 168, 39, 153, 159, 206, 243]⟩, .int .i64 (.negSucc 46)], .int .i64 (.ofNat 0)]⟩
theorem covTA3_r38 : runsTo [] covTA3_e38 = true := by decide +kernel
def covTA3_e39 : En := ⟨196, [.agg #[.bool false, .string ⟨#[5, 168, 39, 153, 159, 206, 243]⟩, .int .i64 (.negSucc 46)], .agg #[.bool false, .string ⟨#[5, 168, 39, 153, 159, 206, 243]⟩, .int .i64 (.negSucc 46)]], [.agg #[.bool false, .string ⟨#[31, 255, 255, 255, 255, 255, 254, 103, 43, 47, 37, 250, 169]⟩, .int .i64 (.negSucc 93)], .int .i64 (.ofNat 0)]⟩
theorem covTA3_r39 : runsTo [] covTA3_e39 = true := by decide +kernel
def covTA3_e40 : En := ⟨131, [.agg #[.bool false, .string ⟨#[31, 255, 255, 255, 255, 255, 254, 103, 43, 47, 37, 250, 169]⟩, .int .i64 (.negSucc 93)], .agg #[.bool false, .string ⟨#[1]⟩, .int .i64 (.ofNat 7)]], [.int .i64 (.negSucc 0), .int .i64 (.ofNat 0)]⟩
theorem covTA3_r40 : runsTo [] covTA3_e40 = true := by decide +kernel
def covTA3_e41 : En := ⟨182, [.float .f64 4622558669727284176], [.agg #[.bool false, .string ⟨#[1, 106, 9, 230, 103, 243, 189]⟩, .int .i64 (.negSucc 44)], .int .i64 (.ofNat 0)]⟩
theorem covTA3_r41 : runsTo [] covTA3_e41 = true := by decide +kernel
def covTA3_e42 : En := ⟨196, [.agg #[.bool false, .string ⟨#[1, 106, 9, 230, 103, 243, 189]⟩, .int .i64 (.negSucc 44)], .agg #[.bool false, .string ⟨#[1, 106, 9, 230, 103, 243, 189]⟩, .int .i64 (.negSucc 44)]], [.agg #[.bool false, .string ⟨#[2, 0, 0, 0, 0, 0, 0, 155, 119, 166, 38, 89, 137]⟩, .int .i64 (.negSucc 89)], .int .i64 (.ofNat 0)]⟩
theorem covTA3_r42 : runsTo [] covTA3_e42 = true := by decide +kernel
def covTA3_e43 : En := ⟨131, [.agg #[.bool false, .string ⟨#[2, 0, 0, 0, 0, 0, 0, 155, 119, 166, 38, 89, 137]⟩, .int .i64 (.negSucc 89)], .agg #[.bool false, .string ⟨#[1]⟩, .int .i64 (.ofNat 7)]], [.int .i64 (.ofNat 1), .int .i64 (.ofNat 0)]⟩
theorem covTA3_r43 : runsTo [] covTA3_e43 = true := by decide +kernel
def covTA3_e44 : En := ⟨182, [.float .f64 4622558669727284174], [.agg #[.bool false, .string ⟨#[11, 80, 79, 51, 63, 157, 231]⟩, .int .i64 (.negSucc 47)], .int .i64 (.ofNat 0)]⟩
theorem covTA3_r44 : runsTo [] covTA3_e44 = true := by decide +kernel
def covTA3_e45 : En := ⟨196, [.agg #[.bool false, .string ⟨#[11, 80, 79, 51, 63, 157, 231]⟩, .int .i64 (.negSucc 47)], .agg #[.bool false, .string ⟨#[11, 80, 79, 51, 63, 157, 231]⟩, .int .i64 (.negSucc 47)]], [.agg #[.bool false, .string ⟨#[128, 0, 0, 0, 0, 0, 16, 61, 75, 35, 23, 38, 113]⟩, .int .i64 (.negSucc 95)], .int .i64 (.ofNat 0)]⟩
theorem covTA3_r45 : runsTo [] covTA3_e45 = true := by decide +kernel
def covTA3_e46 : En := ⟨131, [.agg #[.bool false, .string ⟨#[128, 0, 0, 0, 0, 0, 16, 61, 75, 35, 23, 38, 113]⟩, .int .i64 (.negSucc 95)], .agg #[.bool false, .string ⟨#[1]⟩, .int .i64 (.ofNat 7)]], [.int .i64 (.ofNat 1), .int .i64 (.ofNat 0)]⟩
theorem covTA3_r46 : runsTo [] covTA3_e46 = true := by decide +kernel
def covTA3_e47 : En := ⟨182, [.float .f64 4622558669727284173], [.agg #[.bool false, .string ⟨#[22, 160, 158, 102, 127, 59, 205]⟩, .int .i64 (.negSucc 48)], .int .i64 (.ofNat 0)]⟩
theorem covTA3_r47 : runsTo [] covTA3_e47 = true := by decide +kernel
def covTA3_e48 : En := ⟨196, [.agg #[.bool false, .string ⟨#[22, 160, 158, 102, 127, 59, 205]⟩, .int .i64 (.negSucc 48)], .agg #[.bool false, .string ⟨#[22, 160, 158, 102, 127, 59, 205]⟩, .int .i64 (.negSucc 48)]], [.agg #[.bool false, .string ⟨#[2, 0, 0, 0, 0, 0, 0, 19, 179, 239, 191, 94, 34, 41]⟩, .int .i64 (.negSucc 97)], .int .i64 (.ofNat 0)]⟩
theorem covTA3_r48 : runsTo [] covTA3_e48 = true := by decide +kernel
def covTA3_e49 : En := ⟨131, [.agg #[.bool false, .string ⟨#[2, 0, 0, 0, 0, 0, 0, 19, 179, 239, 191, 94, 34, 41]⟩, .int .i64 (.negSucc 97)], .agg #[.bool false, .string ⟨#[1]⟩, .int .i64 (.ofNat 7)]], [.int .i64 (.ofNat 1), .int .i64 (.ofNat 0)]⟩
theorem covTA3_r49 : runsTo [] covTA3_e49 = true := by decide +kernel
def covTA3 : List En := [covTA3_e0, covTA3_e1, covTA3_e2, covTA3_e3, covTA3_e4, covTA3_e5, covTA3_e6, covTA3_e7, covTA3_e8, covTA3_e9, covTA3_e10, covTA3_e11, covTA3_e12, covTA3_e13, covTA3_e14, covTA3_e15, covTA3_e16, covTA3_e17, covTA3_e18, covTA3_e19, covTA3_e20, covTA3_e21, covTA3_e22, covTA3_e23, covTA3_e24, covTA3_e25, covTA3_e26, covTA3_e27, covTA3_e28, covTA3_e29, covTA3_e30, covTA3_e31, covTA3_e32, covTA3_e33, covTA3_e34, covTA3_e35, covTA3_e36, covTA3_e37, covTA3_e38, covTA3_e39, covTA3_e40, covTA3_e41, covTA3_e42, covTA3_e43, covTA3_e44, covTA3_e45, covTA3_e46, covTA3_e47, covTA3_e48, covTA3_e49]
theorem covTA3_ok : ∀ e ∈ covTA3, EnOK e := all_cons (runsTo_ok all_nil covTA3_r0) <| all_cons (runsTo_ok all_nil covTA3_r1) <| all_cons (runsTo_ok all_nil covTA3_r2) <| all_cons (runsTo_ok all_nil covTA3_r3) <| all_cons (runsTo_ok all_nil covTA3_r4) <| all_cons (runsTo_ok all_nil covTA3_r5) <| all_cons (runsTo_ok all_nil covTA3_r6) <| all_cons (runsTo_ok all_nil covTA3_r7) <| all_cons (runsTo_ok all_nil covTA3_r8) <| all_cons (runsTo_ok all_nil covTA3_r9) <| all_cons (runsTo_ok all_nil covTA3_r10) <| all_cons (runsTo_ok all_nil covTA3_r11) <| all_cons (runsTo_ok all_nil covTA3_r12) <| all_cons (runsTo_ok all_nil covTA3_r13) <| all_cons (runsTo_ok all_nil covTA3_r14) <| all_cons (runsTo_ok all_nil covTA3_r15) <| all_cons (runsTo_ok all_nil covTA3_r16) <| all_cons (runsTo_ok all_nil covTA3_r17) <| all_cons (runsTo_ok all_nil covTA3_r18) <| all_cons (runsTo_ok all_nil covTA3_r19) <| all_cons (runsTo_ok all_nil covTA3_r20) <| all_cons (runsTo_ok all_nil covTA3_r21) <| all_cons (runsTo_ok all_nil covTA3_r22) <| all_cons (runsTo_ok all_nil covTA3_r23) <| all_cons (runsTo_ok all_nil covTA3_r24) <| all_cons (runsTo_ok all_nil covTA3_r25) <| all_cons (runsTo_ok all_nil covTA3_r26) <| all_cons (runsTo_ok all_nil covTA3_r27) <| all_cons (runsTo_ok all_nil covTA3_r28) <| all_cons (runsTo_ok all_nil covTA3_r29) <| all_cons (runsTo_ok all_nil covTA3_r30) <| all_cons (runsTo_ok all_nil covTA3_r31) <| all_cons (runsTo_ok all_nil covTA3_r32) <| all_cons (runsTo_ok all_nil covTA3_r33) <| all_cons (runsTo_ok all_nil covTA3_r34) <| all_cons (runsTo_ok all_nil covTA3_r35) <| all_cons (runsTo_ok all_nil covTA3_r36) <| all_cons (runsTo_ok all_nil covTA3_r37) <| all_cons (runsTo_ok all_nil covTA3_r38) <| all_cons (runsTo_ok all_nil covTA3_r39) <| all_cons (runsTo_ok all_nil covTA3_r40) <| all_cons (runsTo_ok all_nil covTA3_r41) <| all_cons (runsTo_ok all_nil covTA3_r42) <| all_cons (runsTo_ok all_nil covTA3_r43) <| all_cons (runsTo_ok all_nil covTA3_r44) <| all_cons (runsTo_ok all_nil covTA3_r45) <| all_cons (runsTo_ok all_nil covTA3_r46) <| all_cons (runsTo_ok all_nil covTA3_r47) <| all_cons (runsTo_ok all_nil covTA3_r48) <| all_cons (runsTo_ok all_nil covTA3_r49) <|  all_nil
end Go.Proofs.YtneakieigiafpaaGreatDoor
