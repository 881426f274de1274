/- The reference's small functions: may a picture be; a number as four bytes. -/
import Derived.Test.YtbhgcbgaadnfpaaPicB
namespace Go.Proofs.Ytbhgcbgaadnfpaa
open Go.RowKit

set_option maxRecDepth 100000 in
set_option maxHeartbeats 400000 in
theorem right_any (a d n : Int) (w : World) (ha : -9223372036854775808 ≤ a) (ha' : a ≤ 9223372036854775807) (hd : -9223372036854775808 ≤ d) (hd' : d ≤ 9223372036854775807) (_ : 0 ≤ n) (_ : n ≤ 9223372036854775807) :
    Calls Try.prog 51 #[.int .i64 a, .int .i64 d, .int .i64 n, .int .i64 4194304] w fun e w' => e = .returned (.bool (rightB a d n 4194304)) ∧ w = w' := by
  by_cases hs : a < 1 ∨ d < 1 ∨ 4194304 < a ∨ 4194304 < d
  · have hr : rightB a d n 4194304 = false := by
      simp only [rightB, Bool.and_eq_false_iff, Bool.not_eq_false', Bool.or_eq_true, decide_eq_true_eq]
      left; omega
    rw [hr]
    clear hr
    rcases hs with h | h | h | h
    · go_enter Try.func51, Try.ntmps51
      go_wp2
      go_ret
      exact ⟨rfl, rfl⟩
    · by_cases h1 : a < 1
      · go_enter Try.func51, Try.ntmps51
        go_wp2
        go_ret
        exact ⟨rfl, rfl⟩
      · go_enter Try.func51, Try.ntmps51
        go_wp2
        go_ret
        exact ⟨rfl, rfl⟩
    · by_cases h2 : d < 1
      · have h1 : ¬ a < 1 := by omega
        go_enter Try.func51, Try.ntmps51
        go_wp2
        go_ret
        exact ⟨rfl, rfl⟩
      · have h1 : ¬ a < 1 := by omega
        go_enter Try.func51, Try.ntmps51
        go_wp2
        go_ret
        exact ⟨rfl, rfl⟩
    · have h2 : ¬ d < 1 := by omega
      by_cases h1 : a < 1
      · go_enter Try.func51, Try.ntmps51
        go_wp2
        go_ret
        exact ⟨rfl, rfl⟩
      · by_cases h3 : 4194304 < a
        · go_enter Try.func51, Try.ntmps51
          go_wp2
          go_ret
          exact ⟨rfl, rfl⟩
        · go_enter Try.func51, Try.ntmps51
          go_wp2
          go_ret
          exact ⟨rfl, rfl⟩
  · have b1 : ¬ a < 1 := by omega
    have b2 : ¬ d < 1 := by omega
    have b3 : ¬ 4194304 < a := by omega
    have b4 : ¬ 4194304 < d := by omega
    have m1 : 0 ≤ a * d := Int.mul_nonneg (by omega) (by omega)
    have m2 : a * d ≤ 4194304 * 4194304 := Int.mul_le_mul (by omega) (by omega) (by omega) (by omega)
    have hr : rightB a d n 4194304 = (decide (a * d ≤ 4194304) && decide (n = a * d)) := by
      simp [rightB, b1, b2, b3, b4]
    rw [hr]
    clear hr hs
    by_cases h5 : a * d ≤ 4194304
    · by_cases h6 : n = a * d
      · have h7 : (n == a * d) = true := by simp [h6]
        have H6 := hide h6
        clear h6
        go_enter Try.func51, Try.ntmps51
        go_wp2
        go_ret
        exact ⟨bool_ret (by simp [H6.out]), rfl⟩
      · have h7 : (n == a * d) = false := by simp [h6]
        have H6 := hide h6
        clear h6
        go_enter Try.func51, Try.ntmps51
        go_wp2
        go_ret
        exact ⟨bool_ret (by simp [H6.out]), rfl⟩
    · go_enter Try.func51, Try.ntmps51
      go_wp2
      go_ret
      exact ⟨bool_ret (by simp; omega), rfl⟩

set_option maxHeartbeats 400000 in
theorem may_any (a d : Int) (A : Option Addr) (n c : Nat) (w : World) (ha : -9223372036854775808 ≤ a) (ha' : a ≤ 9223372036854775807) (hd : -9223372036854775808 ≤ d) (hd' : d ≤ 9223372036854775807) (hn : n ≤ 9223372036854775807) :
    Calls Try.prog 24 #[.agg #[.int .i64 a, .int .i64 d, .slice A n c]] w fun e w' => e = .returned (.bool (mayB a d n)) ∧ Kept w w' := by
  go_enter Try.func24, Try.ntmps24
  go_wp2_with (go_at_call 51; refine (right_any _ _ _ _ (by omega) (by omega) (by omega) (by omega) (by omega) (by omega)).mono ?_; rintro e w' ⟨rfl, rfl⟩)
  go_ret
  exact ⟨bool_ret (right_may _ _ _), (Below.refl _ _).alloc (Nat.le_refl _) _⟩

set_option maxRecDepth 100000 in
set_option maxHeartbeats 400000 in
theorem rfour_any (k : Int) (w : World) (hk : 0 ≤ k) (hk' : k ≤ 4194304) :
    Calls Try.prog 47 #[.int .i64 k] w fun e w' => e = .returned (.string ⟨(be4 k.toNat).toArray⟩) ∧ Kept w w' := by
  have kc : (convert 22 9 (.slice (some ⟨w.heap.size, 0, none⟩) 4 4)).run Try.prog (w.alloc (.cells #[.int .u8 (k / 16777216), .int .u8 (k / 65536), .int .u8 (k / 256 % 256), .int .u8 (k % 256)] 5)) = .ok (.string ⟨(be4 k.toNat).toArray⟩) (w.alloc (.cells #[.int .u8 (k / 16777216), .int .u8 (k / 65536), .int .u8 (k / 256 % 256), .int .u8 (k % 256)] 5)) :=
    conv_row Try.underlying22 Try.underlying5 Try.underlying9 rfl (Row.new _ _ _ _ _ (be4_ints k hk hk'))
  go_enter Try.func47, Try.ntmps47
  go_wp2
  go_ret
  exact ⟨rfl, (Below.refl _ _).alloc (Nat.le_refl _) _⟩
end Go.Proofs.Ytbhgcbgaadnfpaa
