/- The small functions of the pictures, walked: sizes, checks, greys, one row, what is the same. -/
import Derived.Test.YtbhgcbgaadnfpaaRows
import Derived.Test.YtbhgcbgaadnfpaaMem
import Derived.Test.YtbhgcbgaadnfpaaPicS
import Derived.BigQuiet
import Derived.Deep.QuietTactic
namespace Go.Proofs.Ytbhgcbgaadnfpaa
open Go.RowKit

set_option maxHeartbeats 400000 in
theorem size_any (a d : Int) (w : World) (ha : -9223372036854775808 ≤ a) (ha' : a ≤ 9223372036854775807) (hd : -9223372036854775808 ≤ d) (hd' : d ≤ 9223372036854775807) :
    Calls Try.prog 49 #[.int .i64 a, .int .i64 d] w fun e w' => e = .returned (.bool (sizeB a d)) ∧ w = w' := by
  by_cases h1 : 1 ≤ a
  · by_cases h2 : 1 ≤ d
    · by_cases h3 : a ≤ 4194304
      · go_enter Try.func49, Try.ntmps49
        go_wp2
        go_ret
        exact ⟨by simp [sizeB, h1, h2, h3], rfl⟩
      · go_enter Try.func49, Try.ntmps49
        go_wp2
        go_ret
        exact ⟨by simp [sizeB]; omega, rfl⟩
    · go_enter Try.func49, Try.ntmps49
      go_wp2
      go_ret
      exact ⟨by simp [sizeB]; omega, rfl⟩
  · go_enter Try.func49, Try.ntmps49
    go_wp2
    go_ret
    exact ⟨by simp [sizeB]; omega, rfl⟩

set_option maxHeartbeats 400000 in
theorem check_any (a d : Int) (A : Option Addr) (n c : Nat) (w : World) (ha : -9223372036854775808 ≤ a) (ha' : a ≤ 9223372036854775807) (hd : -9223372036854775808 ≤ d) (hd' : d ≤ 9223372036854775807) (_ : n ≤ 9223372036854775807) :
    Calls Try.prog 20 #[.agg #[.int .i64 a, .int .i64 d, .slice A n c]] w fun e w' => e = .returned (.int .i64 (checkI a d n)) ∧ Kept w w' := by
  by_cases hs : sizeB a d = true
  · have hb := sizeB_bounds hs
    obtain ⟨h1, h2, h3, h4, h5, h6⟩ := hb
    by_cases hm : (n : Int) = a * d
    · have hmm : ((n : Int) != a * d) = false := by simp [hm]
      have HM := hide hm
      clear hm
      go_enter Try.func20, Try.ntmps20
      go_wp2_with (go_at_call 49; refine (size_any _ _ _ (by omega) (by omega) (by omega) (by omega)).mono ?_; rintro e w' ⟨rfl, rfl⟩)
      go_ret
      exact ⟨by simp [checkI, mayB, hs, HM.out], (Below.refl _ _).alloc (Nat.le_refl _) _⟩
    · have hmm : ((n : Int) != a * d) = true := by simp [hm]
      have HM := hide hm
      clear hm
      go_enter Try.func20, Try.ntmps20
      go_wp2_with (go_at_call 49; refine (size_any _ _ _ (by omega) (by omega) (by omega) (by omega)).mono ?_; rintro e w' ⟨rfl, rfl⟩)
      go_ret
      exact ⟨by simp [checkI, mayB, HM.out], (Below.refl _ _).alloc (Nat.le_refl _) _⟩
  · have hs' : sizeB a d = false := by simpa using hs
    clear hs
    go_enter Try.func20, Try.ntmps20
    go_wp2_with (go_at_call 49; refine (size_any _ _ _ (by omega) (by omega) (by omega) (by omega)).mono ?_; rintro e w' ⟨rfl, rfl⟩)
    go_ret
    exact ⟨by simp [checkI, mayB, hs'], (Below.refl _ _).alloc (Nat.le_refl _) _⟩

set_option maxHeartbeats 400000 in
theorem row_any (a d : Int) (A : Option Addr) (n c : Nat) (k : Int) (w : World) (hm : mayB a d n = true) (hk : 0 ≤ k) (hkd : k < d) (hnc : n ≤ c) :
    Calls Try.prog 46 #[.agg #[.int .i64 a, .int .i64 d, .slice A n c], .int .i64 k] w fun e w' => (∃ A', e = .returned (.slice A' a.toNat a.toNat) ∧ ∀ (W : World) (g : List Value), Row W A g → Row W A' ((g.drop (k.toNat * a.toNat)).take a.toNat)) ∧ Kept w w' := by
  obtain ⟨h1, h2, h3, h4, h5, h6, h7⟩ := mayB_bounds hm
  have p1 : 0 ≤ k * a := Int.mul_nonneg hk (by omega)
  have p2 : (k + 1) * a ≤ n := by rw [h5, Int.mul_comm a d]; exact Int.mul_le_mul_of_nonneg_right (by omega) (by omega)
  have p3 : k * a + a = (k + 1) * a := by rw [Int.add_mul]; omega
  have p4 : k * a ≤ (k + 1) * a := by omega
  have p5 : ¬ ((k + 1) * a).toNat = (k * a).toNat := by omega
  have q1 : ((k + 1) * a).toNat - (k * a).toNat = a.toNat := by omega
  have q2 : (k * a).toNat = k.toNat * a.toNat := Int.toNat_mul hk (by omega)
  have Q1 := hide q1
  have Q2 := hide q2
  have P3 := hide p3
  have H5 := hide h5
  clear p3 h5 hm q1 q2
  go_enter Try.func46, Try.ntmps46
  go_wp2
  go_quiet (fail)
  go_wp2
  go_ret
  refine ⟨⟨_, slice_ret Q1.out Q1.out, fun W g hr => ?_⟩, drewN_below ((Below.refl _ _).alloc (Nat.le_refl _) _) _⟩
  rw [← Q2.out]
  exact (hr.drop _).take _

theorem info_u8 : (Try.prog.info? 5).map (fun i => (i.zero, i.size, i.bytes)) = some (some (.int .u8 0), 1, 1) := by kernel_rfl

set_option maxRecDepth 100000 in
set_option maxHeartbeats 400000 in
theorem four_any (v : Value) (n : Nat) (xs : List Value) (k : Int) (w : World) (base : Nat) (hb : base ≤ w.heap.size) (hk : 0 ≤ k) (hk' : k ≤ 4194304) (hn : n ≤ 1000000000) (hown : Own w base 1 v n xs) :
    Calls Try.prog 45 #[v, .int .i64 k] w fun e w' => ∃ v', e = .returned v' ∧ Own w' base 1 v' (n + 4) (xs ++ bytesV (be4 k.toNat)) ∧ Below base w w' := by
  obtain ⟨i0, hi, hz0, hz1, hz2⟩ := info_parts info_u8
  go_enter Try.func45, Try.ntmps45
  go_wp2_with (at_builtin; refine wpList_append_row _ rfl _ _ 22 rfl base 5 i0 (.int .u8 0) 1 1 Try.underlying22 hi hz0 hz1 hz2 rfl (by decide) v n xs rfl (hown.alloc _) (some ⟨w.heap.size, 0, none⟩) 4 4 (bytesV (be4 k.toNat)) rfl rfl (Row.new _ _ _ _ _ (be4_ints k hk hk')) (bytesV_one _) ?_ ?_ ?_ ?_)
  · unfold maxLen; omega
  · omega
  · simp; omega
  · intro v1 w1 hown1 hg1 hat1
    go_wp2
    go_ret
    exact ⟨v1, rfl, hown1, below_append ((Below.refl _ _).alloc hb _) (hown.alloc _) (Nat.le_refl _) (by simp; omega) hg1⟩
end Go.Proofs.Ytbhgcbgaadnfpaa
