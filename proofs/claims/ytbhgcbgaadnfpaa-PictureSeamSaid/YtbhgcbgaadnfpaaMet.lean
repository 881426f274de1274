/- slices.Contains of truths that are all true, walked. -/
import Derived.Test.YtbhgcbgaadnfpaaCopyS
namespace Go.Proofs.Ytbhgcbgaadnfpaa
open Go.RowKit

def metV (N : Nat) : List Value := List.replicate N (.bool true)
theorem metV_at {W : World} {b N k : Nat} (h : ∀ j, j < N → W.cell? ⟨b, j, none⟩ = some (.bool true)) (hk : k < N) : W.cell? ⟨b, k, none⟩ = some (.bool true) := h k hk

set_option maxRecDepth 100000 in
set_option maxHeartbeats 400000 in
theorem index_met (b N : Nat) (w : World) (hN : N ≤ 1000000) (h : ∀ j, j < N → w.cell? ⟨b, j, none⟩ = some (.bool true)) :
    Calls Try.prog 67 #[.slice (some ⟨b, 0, none⟩) N N, .bool false] w fun e w' => e = .returned (.int .i64 (-1)) ∧ w' = w := by
  have H := hide h
  clear h
  go_enter Try.func67, Try.ntmps67
  go_wp2
  go_loopg [5, 8] N (fun gh i5 ix wr => ∃ k : Nat, k + gh = N ∧ ix = .int .i64 k ∧ wr = w)
  case atStart => exact ⟨0, by omega, rfl, rfl⟩
  case round =>
    obtain ⟨k, hkg, rfl, rfl⟩ := hrel
    cases gk with
    | zero =>
      have hge : ¬ (k : Int) < N := by omega
      go_wp2
      go_ret
      exact ⟨rfl, rfl⟩
    | succ gh =>
      have hlt : (k : Int) < N := by omega
      have c0 := H.out k (by omega)
      go_wp2
      all_goals
        go_roundg gh
        case measure => omega
        case rel => exact ⟨k + 1, by omega, by go_num, rfl⟩

set_option maxRecDepth 100000 in
set_option maxHeartbeats 400000 in
theorem contains_met (b N : Nat) (w : World) (hN : N ≤ 1000000) (h : ∀ j, j < N → w.cell? ⟨b, j, none⟩ = some (.bool true)) :
    Calls Try.prog 64 #[.slice (some ⟨b, 0, none⟩) N N, .bool false] w fun e w' => e = .returned (.bool false) ∧ w' = w := by
  have C := hide (index_met b N w hN h)
  clear h
  go_enter Try.func64, Try.ntmps64
  go_wp2_with (go_at_call 67; refine C.out.mono ?_; rintro e w1 ⟨rfl, rfl⟩)
  go_ret
  exact ⟨rfl, rfl⟩
end Go.Proofs.Ytbhgcbgaadnfpaa
