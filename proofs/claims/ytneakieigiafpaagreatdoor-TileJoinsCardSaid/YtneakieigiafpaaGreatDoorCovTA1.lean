/- Calls behind view.Cover of a square (part 2): each is run by the kernel. -/
import Derived.Test.YtneakieigiafpaaGreatDoorLayR
namespace Go.Proofs.YtneakieigiafpaaGreatDoor
open Go.Ex
set_option maxRecDepth 100000
def covTA1_e0 : En := ⟨131, [.agg #[.bool false, .string ⟨#[3, 254, 192, 24, 255, 255, 255, 192, 10, 0, 0, 0, 0, 1]⟩, .int .i64 (.negSucc 99)], .agg #[.bool false, .string ⟨#[1]⟩, .int .i64 (.ofNat 7)]], [.int .i64 (.negSucc 0), .int .i64 (.ofNat 0)]⟩
theorem covTA1_r0 : runsTo [] covTA1_e0 = true := by decide +kernel
def covTA1_e1 : En := ⟨182, [.float .f64 4621813070275018751], [.agg #[.bool false, .string ⟨#[19, 250, 127, 255, 255, 255, 255]⟩, .int .i64 (.negSucc 48)], .int .i64 (.ofNat 0)]⟩
theorem covTA1_r1 : runsTo [] covTA1_e1 = true := by decide +kernel
def covTA1_e2 : En := ⟨196, [.agg #[.bool false, .string ⟨#[19, 250, 127, 255, 255, 255, 255]⟩, .int .i64 (.negSucc 48)], .agg #[.bool false, .string ⟨#[19, 250, 127, 255, 255, 255, 255]⟩, .int .i64 (.negSucc 48)]], [.agg #[.bool false, .string ⟨#[1, 143, 36, 30, 63, 255, 255, 216, 11, 0, 0, 0, 0, 1]⟩, .int .i64 (.negSucc 97)], .int .i64 (.ofNat 0)]⟩
theorem covTA1_r2 : runsTo [] covTA1_e2 = true := by decide +kernel
def covTA1_e3 : En := ⟨131, [.agg #[.bool false, .string ⟨#[1, 143, 36, 30, 63, 255, 255, 216, 11, 0, 0, 0, 0, 1]⟩, .int .i64 (.negSucc 97)], .agg #[.bool false, .string ⟨#[1]⟩, .int .i64 (.ofNat 7)]], [.int .i64 (.negSucc 0), .int .i64 (.ofNat 0)]⟩
theorem covTA1_r3 : runsTo [] covTA1_e3 = true := by decide +kernel
def covTA1_e4 : En := ⟨182, [.float .f64 4622375745350533119], [.agg #[.bool false, .string ⟨#[21, 250, 63, 255, 255, 255, 255]⟩, .int .i64 (.negSucc 48)], .int .i64 (.ofNat 0)]⟩
theorem covTA1_r4 : runsTo [] covTA1_e4 = true := by decide +kernel
def covTA1_e5 : En := ⟨196, [.agg #[.bool false, .string ⟨#[21, 250, 63, 255, 255, 255, 255]⟩, .int .i64 (.negSucc 48)], .agg #[.bool false, .string ⟨#[21, 250, 63, 255, 255, 255, 255]⟩, .int .i64 (.negSucc 48)]], [.agg #[.bool false, .string ⟨#[1, 227, 3, 33, 15, 255, 255, 212, 11, 128, 0, 0, 0, 1]⟩, .int .i64 (.negSucc 97)], .int .i64 (.ofNat 0)]⟩
theorem covTA1_r5 : runsTo [] covTA1_e5 = true := by decide +kernel
def covTA1_e6 : En := ⟨131, [.agg #[.bool false, .string ⟨#[1, 227, 3, 33, 15, 255, 255, 212, 11, 128, 0, 0, 0, 1]⟩, .int .i64 (.negSucc 97)], .agg #[.bool false, .string ⟨#[1]⟩, .int .i64 (.ofNat 7)]], [.int .i64 (.negSucc 0), .int .i64 (.ofNat 0)]⟩
theorem covTA1_r6 : runsTo [] covTA1_e6 = true := by decide +kernel
def covTA1_e7 : En := ⟨182, [.float .f64 4622657082888290303], [.agg #[.bool false, .string ⟨#[22, 250, 31, 255, 255, 255, 255]⟩, .int .i64 (.negSucc 48)], .int .i64 (.ofNat 0)]⟩
theorem covTA1_r7 : runsTo [] covTA1_e7 = true := by decide +kernel
def covTA1_e8 : En := ⟨196, [.agg #[.bool false, .string ⟨#[22, 250, 31, 255, 255, 255, 255]⟩, .int .i64 (.negSucc 48)], .agg #[.bool false, .string ⟨#[22, 250, 31, 255, 255, 255, 255]⟩, .int .i64 (.negSucc 48)]], [.agg #[.bool false, .string ⟨#[2, 15, 241, 226, 131, 255, 255, 210, 11, 192, 0, 0, 0, 1]⟩, .int .i64 (.negSucc 97)], .int .i64 (.ofNat 0)]⟩
theorem covTA1_r8 : runsTo [] covTA1_e8 = true := by decide +kernel
def covTA1_e9 : En := ⟨131, [.agg #[.bool false, .string ⟨#[2, 15, 241, 226, 131, 255, 255, 210, 11, 192, 0, 0, 0, 1]⟩, .int .i64 (.negSucc 97)], .agg #[.bool false, .string ⟨#[1]⟩, .int .i64 (.ofNat 7)]], [.int .i64 (.ofNat 1), .int .i64 (.ofNat 0)]⟩
theorem covTA1_r9 : runsTo [] covTA1_e9 = true := by decide +kernel
def covTA1_e10 : En := ⟨182, [.float .f64 4622516414119411711], [.agg #[.bool false, .string ⟨#[22, 122, 47, 255, 255, 255, 255]⟩, .int .i64 (.negSucc 48)], .int .i64 (.ofNat 0)]⟩
theorem covTA1_r10 : runsTo [] covTA1_e10 = true := by decide +kernel
def covTA1_e11 : En := ⟨196, [.agg #[.bool false, .string ⟨#[22, 122, 47, 255, 255, 255, 255]⟩, .int .i64 (.negSucc 48)], .agg #[.bool false, .string ⟨#[22, 122, 47, 255, 255, 255, 255]⟩, .int .i64 (.negSucc 48)]], [.agg #[.bool false, .string ⟨#[1, 249, 58, 145, 200, 255, 255, 211, 11, 160, 0, 0, 0, 1]⟩, .int .i64 (.negSucc 97)], .int .i64 (.ofNat 0)]⟩
theorem covTA1_r11 : runsTo [] covTA1_e11 = true := by decide +kernel
def covTA1_e12 : En := ⟨131, [.agg #[.bool false, .string ⟨#[1, 249, 58, 145, 200, 255, 255, 211, 11, 160, 0, 0, 0, 1]⟩, .int .i64 (.negSucc 97)], .agg #[.bool false, .string ⟨#[1]⟩, .int .i64 (.ofNat 7)]], [.int .i64 (.negSucc 0), .int .i64 (.ofNat 0)]⟩
theorem covTA1_r12 : runsTo [] covTA1_e12 = true := by decide +kernel
def covTA1_e13 : En := ⟨182, [.float .f64 4622586748503851007], [.agg #[.bool false, .string ⟨#[22, 186, 39, 255, 255, 255, 255]⟩, .int .i64 (.negSucc 48)], .int .i64 (.ofNat 0)]⟩
theorem covTA1_r13 : runsTo [] covTA1_e13 = true := by decide +kernel
def covTA1_e14 : En := ⟨196, [.agg #[.bool false, .string ⟨#[22, 186, 39, 255, 255, 255, 255]⟩, .int .i64 (.negSucc 48)], .agg #[.bool false, .string ⟨#[22, 186, 39, 255, 255, 255, 255]⟩, .int .i64 (.negSucc 48)]], [.agg #[.bool false, .string ⟨#[2, 4, 134, 62, 38, 63, 255, 210, 139, 176, 0, 0, 0, 1]⟩, .int .i64 (.negSucc 97)], .int .i64 (.ofNat 0)]⟩
theorem covTA1_r14 : runsTo [] covTA1_e14 = true := by decide +kernel
def covTA1_e15 : En := ⟨131, [.agg #[.bool false, .string ⟨#[2, 4, 134, 62, 38, 63, 255, 210, 139, 176, 0, 0, 0, 1]⟩, .int .i64 (.negSucc 97)], .agg #[.bool false, .string ⟨#[1]⟩, .int .i64 (.ofNat 7)]], [.int .i64 (.ofNat 1), .int .i64 (.ofNat 0)]⟩
theorem covTA1_r15 : runsTo [] covTA1_e15 = true := by decide +kernel
def covTA1_e16 : En := ⟨182, [.float .f64 4622551581311631359], [.agg #[.bool false, .string ⟨#[22, 154, 43, 255, 255, 255, 255]⟩, .int .i64 (.negSucc 48)], .int .i64 (.ofNat 0)]⟩
theorem covTA1_r16 : runsTo [] covTA1_e16 = true := by decide +kernel
def covTA1_e17 : En := ⟨196, [.agg #[.bool false, .string ⟨#[22, 154, 43, 255, 255, 255, 255]⟩, .int .i64 (.negSucc 48)], .agg #[.bool false, .string ⟨#[22, 154, 43, 255, 255, 255, 255]⟩, .int .i64 (.negSucc 48)]], [.agg #[.bool false, .string ⟨#[1, 254, 220, 104, 247, 143, 255, 210, 203, 168, 0, 0, 0, 1]⟩, .int .i64 (.negSucc 97)], .int .i64 (.ofNat 0)]⟩
theorem covTA1_r17 : runsTo [] covTA1_e17 = true := by decide +kernel
def covTA1_e18 : En := ⟨131, [.agg #[.bool false, .string ⟨#[1, 254, 220, 104, 247, 143, 255, 210, 203, 168, 0, 0, 0, 1]⟩, .int .i64 (.negSucc 97)], .agg #[.bool false, .string ⟨#[1]⟩, .int .i64 (.ofNat 7)]], [.int .i64 (.negSucc 0), .int .i64 (.ofNat 0)]⟩
theorem covTA1_r18 : runsTo [] covTA1_e18 = true := by decide +kernel
def covTA1_e19 : En := ⟨182, [.float .f64 4622569164907741183], [.agg #[.bool false, .string ⟨#[22, 170, 41, 255, 255, 255, 255]⟩, .int .i64 (.negSucc 48)], .int .i64 (.ofNat 0)]⟩
theorem covTA1_r19 : runsTo [] covTA1_e19 = true := by decide +kernel
def covTA1_e20 : En := ⟨196, [.agg #[.bool false, .string ⟨#[22, 170, 41, 255, 255, 255, 255]⟩, .int .i64 (.negSucc 48)], .agg #[.bool false, .string ⟨#[22, 170, 41, 255, 255, 255, 255]⟩, .int .i64 (.negSucc 48)]], [.agg #[.bool false, .string ⟨#[2, 1, 176, 83, 206, 227, 255, 210, 171, 172, 0, 0, 0, 1]⟩, .int .i64 (.negSucc 97)], .int .i64 (.ofNat 0)]⟩
theorem covTA1_r20 : runsTo [] covTA1_e20 = true := by decide +kernel
def covTA1_e21 : En := ⟨131, [.agg #[.bool false, .string ⟨#[2, 1, 176, 83, 206, 227, 255, 210, 171, 172, 0, 0, 0, 1]⟩, .int .i64 (.negSucc 97)], .agg #[.bool false, .string ⟨#[1]⟩, .int .i64 (.ofNat 7)]], [.int .i64 (.ofNat 1), .int .i64 (.ofNat 0)]⟩
theorem covTA1_r21 : runsTo [] covTA1_e21 = true := by decide +kernel
def covTA1_e22 : En := ⟨182, [.float .f64 4622560373109686271], [.agg #[.bool false, .string ⟨#[22, 162, 42, 255, 255, 255, 255]⟩, .int .i64 (.negSucc 48)], .int .i64 (.ofNat 0)]⟩
theorem covTA1_r22 : runsTo [] covTA1_e22 = true := by decide +kernel
def covTA1_e23 : En := ⟨196, [.agg #[.bool false, .string ⟨#[22, 162, 42, 255, 255, 255, 255]⟩, .int .i64 (.negSucc 48)], .agg #[.bool false, .string ⟨#[22, 162, 42, 255, 255, 255, 255]⟩, .int .i64 (.negSucc 48)]], [.agg #[.bool false, .string ⟨#[2, 0, 70, 30, 115, 56, 255, 210, 187, 170, 0, 0, 0, 1]⟩, .int .i64 (.negSucc 97)], .int .i64 (.ofNat 0)]⟩
theorem covTA1_r23 : runsTo [] covTA1_e23 = true := by decide +kernel
def covTA1_e24 : En := ⟨131, [.agg #[.bool false, .string ⟨#[2, 0, 70, 30, 115, 56, 255, 210, 187, 170, 0, 0, 0, 1]⟩, .int .i64 (.negSucc 97)], .agg #[.bool false, .string ⟨#[1]⟩, .int .i64 (.ofNat 7)]], [.int .i64 (.ofNat 1), .int .i64 (.ofNat 0)]⟩
theorem covTA1_r24 : runsTo [] covTA1_e24 = true := by decide +kernel
def covTA1_e25 : En := ⟨182, [.float .f64 4622555977210658815], [.agg #[.bool false, .string ⟨#[22, 158, 43, 127, 255, 255, 255]⟩, .int .i64 (.negSucc 48)], .int .i64 (.ofNat 0)]⟩
theorem covTA1_r25 : runsTo [] covTA1_e25 = true := by decide +kernel
def covTA1_e26 : En := ⟨196, [.agg #[.bool false, .string ⟨#[22, 158, 43, 127, 255, 255, 255]⟩, .int .i64 (.negSucc 48)], .agg #[.bool false, .string ⟨#[22, 158, 43, 127, 255, 255, 255]⟩, .int .i64 (.negSucc 48)]], [.agg #[.bool false, .string ⟨#[1, 255, 145, 51, 185, 100, 63, 210, 195, 169, 0, 0, 0, 1]⟩, .int .i64 (.negSucc 97)], .int .i64 (.ofNat 0)]⟩
theorem covTA1_r26 : runsTo [] covTA1_e26 = true := by decide +kernel
def covTA1_e27 : En := ⟨131, [.agg #[.bool false, .string ⟨#[1, 255, 145, 51, 185, 100, 63, 210, 195, 169, 0, 0, 0, 1]⟩, .int .i64 (.negSucc 97)], .agg #[.bool false, .string ⟨#[1]⟩, .int .i64 (.ofNat 7)]], [.int .i64 (.negSucc 0), .int .i64 (.ofNat 0)]⟩
theorem covTA1_r27 : runsTo [] covTA1_e27 = true := by decide +kernel
def covTA1_e28 : En := ⟨182, [.float .f64 4622558175160172543], [.agg #[.bool false, .string ⟨#[22, 160, 43, 63, 255, 255, 255]⟩, .int .i64 (.negSucc 48)], .int .i64 (.ofNat 0)]⟩
theorem covTA1_r28 : runsTo [] covTA1_e28 = true := by decide +kernel
def covTA1_e29 : En := ⟨196, [.agg #[.bool false, .string ⟨#[22, 160, 43, 63, 255, 255, 255]⟩, .int .i64 (.negSucc 48)], .agg #[.bool false, .string ⟨#[22, 160, 43, 63, 255, 255, 255]⟩, .int .i64 (.negSucc 48)]], [.agg #[.bool false, .string ⟨#[1, 255, 235, 165, 23, 78, 143, 210, 191, 169, 128, 0, 0, 1]⟩, .int .i64 (.negSucc 97)], .int .i64 (.ofNat 0)]⟩
theorem covTA1_r29 : runsTo [] covTA1_e29 = true := by decide +kernel
def covTA1_e30 : En := ⟨131, [.agg #[.bool false, .string ⟨#[1, 255, 235, 165, 23, 78, 143, 210, 191, 169, 128, 0, 0, 1]⟩, .int .i64 (.negSucc 97)], .agg #[.bool false, .string ⟨#[1]⟩, .int .i64 (.ofNat 7)]], [.int .i64 (.negSucc 0), .int .i64 (.ofNat 0)]⟩
theorem covTA1_r30 : runsTo [] covTA1_e30 = true := by decide +kernel
def covTA1_e31 : En := ⟨182, [.float .f64 4622559274134929407], [.agg #[.bool false, .string ⟨#[22, 161, 43, 31, 255, 255, 255]⟩, .int .i64 (.negSucc 48)], .int .i64 (.ofNat 0)]⟩
theorem covTA1_r31 : runsTo [] covTA1_e31 = true := by decide +kernel
def covTA1_e32 : En := ⟨196, [.agg #[.bool false, .string ⟨#[22, 161, 43, 31, 255, 255, 255]⟩, .int .i64 (.negSucc 48)], .agg #[.bool false, .string ⟨#[22, 161, 43, 31, 255, 255, 255]⟩, .int .i64 (.negSucc 48)]], [.agg #[.bool false, .string ⟨#[2, 0, 24, 224, 197, 131, 195, 210, 189, 169, 192, 0, 0, 1]⟩, .int .i64 (.negSucc 97)], .int .i64 (.ofNat 0)]⟩
theorem covTA1_r32 : runsTo [] covTA1_e32 = true := by decide +kernel
def covTA1_e33 : En := ⟨131, [.agg #[.bool false, .string ⟨#[2, 0, 24, 224, 197, 131, 195, 210, 189, 169, 192, 0, 0, 1]⟩, .int .i64 (.negSucc 97)], .agg #[.bool false, .string ⟨#[1]⟩, .int .i64 (.ofNat 7)]], [.int .i64 (.ofNat 1), .int .i64 (.ofNat 0)]⟩
theorem covTA1_r33 : runsTo [] covTA1_e33 = true := by decide +kernel
def covTA1_e34 : En := ⟨182, [.float .f64 4622558724647550975], [.agg #[.bool false, .string ⟨#[22, 160, 171, 47, 255, 255, 255]⟩, .int .i64 (.negSucc 48)], .int .i64 (.ofNat 0)]⟩
theorem covTA1_r34 : runsTo [] covTA1_e34 = true := by decide +kernel
def covTA1_e35 : En := ⟨196, [.agg #[.bool false, .string ⟨#[22, 160, 171, 47, 255, 255, 255]⟩, .int .i64 (.negSucc 48)], .agg #[.bool false, .string ⟨#[22, 160, 171, 47, 255, 255, 255]⟩, .int .i64 (.negSucc 48)]], [.agg #[.bool false, .string ⟨#[2, 0, 2, 66, 174, 121, 40, 210, 190, 169, 160, 0, 0, 1]⟩, .int .i64 (.negSucc 97)], .int .i64 (.ofNat 0)]⟩
theorem covTA1_r35 : runsTo [] covTA1_e35 = true := by decide +kernel
def covTA1_e36 : En := ⟨131, [.agg #[.bool false, .string ⟨#[2, 0, 2, 66, 174, 121, 40, 210, 190, 169, 160, 0, 0, 1]⟩, .int .i64 (.negSucc 97)], .agg #[.bool false, .string ⟨#[1]⟩, .int .i64 (.ofNat 7)]], [.int .i64 (.ofNat 1), .int .i64 (.ofNat 0)]⟩
theorem covTA1_r36 : runsTo [] covTA1_e36 = true := by decide +kernel
def covTA1_e37 : En := ⟨182, [.float .f64 4622558449903861759], [.agg #[.bool false, .string ⟨#[22, 160, 107, 55, 255, 255, 255]⟩, .int .i64 (.negSucc 48)], .int .i64 (.ofNat 0)]⟩
theorem covTA1_r37 : runsTo [] covTA1_e37 = true := by decide +kernel
def covTA1_e38 : En := ⟨196, [.agg #[.bool false, .string ⟨#[22, 160, 107, 55, 255, 255, 255]⟩, .int .i64 (.negSucc 48)], .agg #[.bool false, .string ⟨#[22, 160, 107, 55, 255, 255, 255]⟩, .int .i64 (.negSucc 48)]], [.agg #[.bool false, .string ⟨#[1, 255, 246, 243, 210, 231, 220, 18, 191, 41, 144, 0, 0, 1]⟩, .int .i64 (.negSucc 97)], .int .i64 (.ofNat 0)]⟩
theorem covTA1_r38 : runsTo [] covTA1_e38 = true := by decide +kernel
def covTA1_e39 : En := ⟨131, [.agg #[.bool false, .string ⟨#[1, 255, 246, 243, 210, 231, 220, 18, 191, 41, 144, 0, 0, 1]⟩, .int .i64 (.negSucc 97)], .agg #[.bool false, .string ⟨#[1]⟩, .int .i64 (.ofNat 7)]], [.int .i64 (.negSucc 0), .int .i64 (.ofNat 0)]⟩
theorem covTA1_r39 : runsTo [] covTA1_e39 = true := by decide +kernel
def covTA1_e40 : En := ⟨182, [.float .f64 4622558587275706367], [.agg #[.bool false, .string ⟨#[22, 160, 139, 51, 255, 255, 255]⟩, .int .i64 (.negSucc 48)], .int .i64 (.ofNat 0)]⟩
theorem covTA1_r40 : runsTo [] covTA1_e40 = true := by decide +kernel
def covTA1_e41 : En := ⟨196, [.agg #[.bool false, .string ⟨#[22, 160, 139, 51, 255, 255, 255]⟩, .int .i64 (.negSucc 48)], .agg #[.bool false, .string ⟨#[22, 160, 139, 51, 255, 255, 255]⟩, .int .i64 (.negSucc 48)]], [.agg #[.bool false, .string ⟨#[1, 255, 252, 155, 60, 177, 130, 98, 190, 233, 152, 0, 0, 1]⟩, .int .i64 (.negSucc 97)], .int .i64 (.ofNat 0)]⟩
theorem covTA1_r41 : runsTo [] covTA1_e41 = true := by decide +kernel
def covTA1_e42 : En := ⟨131, [.agg #[.bool false, .string ⟨#[1, 255, 252, 155, 60, 177, 130, 98, 190, 233, 152, 0, 0, 1]⟩, .int .i64 (.negSucc 97)], .agg #[.bool false, .string ⟨#[1]⟩, .int .i64 (.ofNat 7)]], [.int .i64 (.negSucc 0), .int .i64 (.ofNat 0)]⟩
theorem covTA1_r42 : runsTo [] covTA1_e42 = true := by decide +kernel
def covTA1_e43 : En := ⟨182, [.float .f64 4622558655961628671], [.agg #[.bool false, .string ⟨#[22, 160, 155, 49, 255, 255, 255]⟩, .int .i64 (.negSucc 48)], .int .i64 (.ofNat 0)]⟩
theorem covTA1_r43 : runsTo [] covTA1_e43 = true := by decide +kernel
def covTA1_e44 : En := ⟨196, [.agg #[.bool false, .string ⟨#[22, 160, 155, 49, 255, 255, 255]⟩, .int .i64 (.negSucc 48)], .agg #[.bool false, .string ⟨#[22, 160, 155, 49, 255, 255, 255]⟩, .int .i64 (.negSucc 48)]], [.agg #[.bool false, .string ⟨#[1, 255, 255, 110, 244, 149, 149, 150, 190, 201, 156, 0, 0, 1]⟩, .int .i64 (.negSucc 97)], .int .i64 (.ofNat 0)]⟩
theorem covTA1_r44 : runsTo [] covTA1_e44 = true := by decide +kernel
def covTA1_e45 : En := ⟨131, [.agg #[.bool false, .string ⟨#[1, 255, 255, 110, 244, 149, 149, 150, 190, 201, 156, 0, 0, 1]⟩, .int .i64 (.negSucc 97)], .agg #[.bool false, .string ⟨#[1]⟩, .int .i64 (.ofNat 7)]], [.int .i64 (.negSucc 0), .int .i64 (.ofNat 0)]⟩
theorem covTA1_r45 : runsTo [] covTA1_e45 = true := by decide +kernel
def covTA1_e46 : En := ⟨182, [.float .f64 4622558690304589823], [.agg #[.bool false, .string ⟨#[22, 160, 163, 48, 255, 255, 255]⟩, .int .i64 (.negSucc 48)], .int .i64 (.ofNat 0)]⟩
theorem covTA1_r46 : runsTo [] covTA1_e46 = true := by decide +kernel
def covTA1_e47 : En := ⟨196, [.agg #[.bool false, .string ⟨#[22, 160, 163, 48, 255, 255, 255]⟩, .int .i64 (.negSucc 48)], .agg #[.bool false, .string ⟨#[22, 160, 163, 48, 255, 255, 255]⟩, .int .i64 (.negSucc 48)]], [.agg #[.bool false, .string ⟨#[2, 0, 0, 216, 209, 71, 111, 51, 190, 185, 158, 0, 0, 1]⟩, .int .i64 (.negSucc 97)], .int .i64 (.ofNat 0)]⟩
theorem covTA1_r47 : runsTo [] covTA1_e47 = true := by decide +kernel
def covTA1_e48 : En := ⟨131, [.agg #[.bool false, .string ⟨#[2, 0, 0, 216, 209, 71, 111, 51, 190, 185, 158, 0, 0, 1]⟩, .int .i64 (.negSucc 97)], .agg #[.bool false, .string ⟨#[1]⟩, .int .i64 (.ofNat 7)]], [.int .i64 (.ofNat 1), .int .i64 (.ofNat 0)]⟩
theorem covTA1_r48 : runsTo [] covTA1_e48 = true := by decide +kernel
def covTA1_e49 : En := ⟨182, [.float .f64 4622558673133109247], [.agg #[.bool false, .string ⟨#[22, 160, 159, 49, 127, 255, 255]⟩, .int .i64 (.negSucc 48)], .int .i64 (.ofNat 0)]⟩
theorem covTA1_r49 : runsTo [] covTA1_e49 = true := by decide +kernel
def covTA1_e50 : En := ⟨196, [.agg #[.bool false, .string ⟨#[22, 160, 159, 49, 127, 255, 255]⟩, .int .i64 (.negSucc 48)], .agg #[.bool false, .string ⟨#[22, 160, 159, 49, 127, 255, 255]⟩, .int .i64 (.negSucc 48)]], [.agg #[.bool false, .string ⟨#[2, 0, 0, 35, 226, 222, 134, 100, 254, 193, 157, 0, 0, 1]⟩, .int .i64 (.negSucc 97)], .int .i64 (.ofNat 0)]⟩
theorem covTA1_r50 : runsTo [] covTA1_e50 = true := by decide +kernel
def covTA1_e51 : En := ⟨131, [.agg #[.bool false, .string ⟨#[2, 0, 0, 35, 226, 222, 134, 100, 254, 193, 157, 0, 0, 1]⟩, .int .i64 (.negSucc 97)], .agg #[.bool false, .string ⟨#[1]⟩, .int .i64 (.ofNat 7)]], [.int .i64 (.ofNat 1), .int .i64 (.ofNat 0)]⟩
theorem covTA1_r51 : runsTo [] covTA1_e51 = true := by decide +kernel
def covTA1 : List En := [covTA1_e0, covTA1_e1, covTA1_e2, covTA1_e3, covTA1_e4, covTA1_e5, covTA1_e6, covTA1_e7, covTA1_e8, covTA1_e9, covTA1_e10, covTA1_e11, covTA1_e12, covTA1_e13, covTA1_e14, covTA1_e15, covTA1_e16, covTA1_e17, covTA1_e18, covTA1_e19, covTA1_e20, covTA1_e21, covTA1_e22, covTA1_e23, covTA1_e24, covTA1_e25, covTA1_e26, covTA1_e27, covTA1_e28, covTA1_e29, covTA1_e30, covTA1_e31, covTA1_e32, covTA1_e33, covTA1_e34, covTA1_e35, covTA1_e36, covTA1_e37, covTA1_e38, covTA1_e39, covTA1_e40, covTA1_e41, covTA1_e42, covTA1_e43, covTA1_e44, covTA1_e45, covTA1_e46, covTA1_e47, covTA1_e48, covTA1_e49, covTA1_e50, covTA1_e51]
theorem covTA1_ok : ∀ e ∈ covTA1, EnOK e := all_cons (runsTo_ok all_nil covTA1_r0) <| all_cons (runsTo_ok all_nil covTA1_r1) <| all_cons (runsTo_ok all_nil covTA1_r2) <| all_cons (runsTo_ok all_nil covTA1_r3) <| all_cons (runsTo_ok all_nil covTA1_r4) <| all_cons (runsTo_ok all_nil covTA1_r5) <| all_cons (runsTo_ok all_nil covTA1_r6) <| all_cons (runsTo_ok all_nil covTA1_r7) <| all_cons (runsTo_ok all_nil covTA1_r8) <| all_cons (runsTo_ok all_nil covTA1_r9) <| all_cons (runsTo_ok all_nil covTA1_r10) <| all_cons (runsTo_ok all_nil covTA1_r11) <| all_cons (runsTo_ok all_nil covTA1_r12) <| all_cons (runsTo_ok all_nil covTA1_r13) <| all_cons (runsTo_ok all_nil covTA1_r14) <| all_cons (runsTo_ok all_nil covTA1_r15) <| all_cons (runsTo_ok all_nil covTA1_r16) <| all_cons (runsTo_ok all_nil covTA1_r17) <| all_cons (runsTo_ok all_nil covTA1_r18) <| all_cons (runsTo_ok all_nil covTA1_r19) <| all_cons (runsTo_ok all_nil covTA1_r20) <| all_cons (runsTo_ok all_nil covTA1_r21) <| all_cons (runsTo_ok all_nil covTA1_r22) <| all_cons (runsTo_ok all_nil covTA1_r23) <| all_cons (runsTo_ok all_nil covTA1_r24) <| all_cons (runsTo_ok all_nil covTA1_r25) <| all_cons (runsTo_ok all_nil covTA1_r26) <| all_cons (runsTo_ok all_nil covTA1_r27) <| all_cons (runsTo_ok all_nil covTA1_r28) <| all_cons (runsTo_ok all_nil covTA1_r29) <| all_cons (runsTo_ok all_nil covTA1_r30) <| all_cons (runsTo_ok all_nil covTA1_r31) <| all_cons (runsTo_ok all_nil covTA1_r32) <| all_cons (runsTo_ok all_nil covTA1_r33) <| all_cons (runsTo_ok all_nil covTA1_r34) <| all_cons (runsTo_ok all_nil covTA1_r35) <| all_cons (runsTo_ok all_nil covTA1_r36) <| all_cons (runsTo_ok all_nil covTA1_r37) <| all_cons (runsTo_ok all_nil covTA1_r38) <| all_cons (runsTo_ok all_nil covTA1_r39) <| all_cons (runsTo_ok all_nil covTA1_r40) <| all_cons (runsTo_ok all_nil covTA1_r41) <| all_cons (runsTo_ok all_nil covTA1_r42) <| all_cons (runsTo_ok all_nil covTA1_r43) <| all_cons (runsTo_ok all_nil covTA1_r44) <| all_cons (runsTo_ok all_nil covTA1_r45) <| all_cons (runsTo_ok all_nil covTA1_r46) <| all_cons (runsTo_ok all_nil covTA1_r47) <| all_cons (runsTo_ok all_nil covTA1_r48) <| all_cons (runsTo_ok all_nil covTA1_r49) <| all_cons (runsTo_ok all_nil covTA1_r50) <| all_cons (runsTo_ok all_nil covTA1_r51) <|  all_nil
end Go.Proofs.YtneakieigiafpaaGreatDoor
