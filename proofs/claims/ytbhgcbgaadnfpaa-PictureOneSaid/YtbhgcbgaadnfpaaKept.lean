/- The laws' own 'kept': the picture and the mark behind it are as they were. -/
import Derived.Test.YtbhgcbgaadnfpaaLent
namespace Go.Proofs.Ytbhgcbgaadnfpaa
open Go.RowKit

set_option maxRecDepth 100000 in
set_option maxHeartbeats 800000 in
theorem kept_any (a d : Int) (A A' : Option Addr) (n c c' base : Nat) (g : List UInt8) (w : World) (hn : n + 1 ≤ 140737488355328) (hl : g.length = n) (hr : Row w A (bytesV g)) (ho : Own w base 1 (.slice A' (n + 1) c') (n + 1) (bytesV (g ++ [77]))) :
    Calls Try.prog 18 #[.agg #[.int .i64 a, .int .i64 d, .slice A' n c'], .agg #[.int .i64 a, .int .i64 d, .slice A n c]] w fun e w' => e = .returned (.bool true) ∧ Kept w w' := by
  obtain ⟨A1, c1, hv, hnc, hcm, hrow, -, -⟩ := ho.form
  injection hv with e1 e2 e3
  subst e1; subst e3
  have hRg : Row w A' (bytesV g) := by
    have := hrow.take n
    rw [bytesV_take] at this
    rwa [List.take_append_of_le_length (by omega), List.take_of_length_le (by omega)] at this
  obtain ⟨bb, oo, rfl, h77⟩ := hrow.at_ (k := n) (by simp [bytesV, hl])
  have hc77 : w.cell? ⟨bb, oo + n, none⟩ = some (.int .u8 77) := by
    rw [h77]; simp [bytesV, hl]
  clear h77 hrow ho
  go_enter Try.func18, Try.ntmps18
  go_wp2_with fail
  obtain ⟨W, hW⟩ : ∃ W, W = (w.alloc (.cells #[.int .i64 a, .int .i64 d, .slice (some ⟨bb, oo, none⟩) n c'] 24)).alloc (.cells #[.int .i64 a, .int .i64 d, .slice A n c] 24) := ⟨_, rfl⟩
  have hK0 : Kept w W := by rw [hW]; exact ((Below.refl _ _).alloc (Nat.le_refl _) _).alloc (by simp) _
  have hS : W.cell? ⟨w.heap.size, 0, none⟩ = some (.int .i64 a) ∧ W.cell? ⟨w.heap.size, 1, none⟩ = some (.int .i64 d) ∧ W.cell? ⟨w.heap.size, 2, none⟩ = some (.slice (some ⟨bb, oo, none⟩) n c') ∧
      W.cell? ⟨w.heap.size + 1, 0, none⟩ = some (.int .i64 a) ∧ W.cell? ⟨w.heap.size + 1, 1, none⟩ = some (.int .i64 d) ∧ W.cell? ⟨w.heap.size + 1, 2, none⟩ = some (.slice A n c) ∧ W.cell? ⟨bb, oo + n, none⟩ = some (.int .u8 77) := by
    refine ⟨by rw [hW]; simp, by rw [hW]; simp, by rw [hW]; simp, by rw [hW]; simp, by rw [hW]; simp, by rw [hW]; simp, ?_⟩
    rw [hK0.cells _ _ (lt_of_cell hc77)]; exact hc77
  have SK : ∀ X Y : World, (X.cell? ⟨w.heap.size, 0, none⟩ = some (.int .i64 a) ∧ X.cell? ⟨w.heap.size, 1, none⟩ = some (.int .i64 d) ∧ X.cell? ⟨w.heap.size, 2, none⟩ = some (.slice (some ⟨bb, oo, none⟩) n c') ∧
      X.cell? ⟨w.heap.size + 1, 0, none⟩ = some (.int .i64 a) ∧ X.cell? ⟨w.heap.size + 1, 1, none⟩ = some (.int .i64 d) ∧ X.cell? ⟨w.heap.size + 1, 2, none⟩ = some (.slice A n c) ∧ X.cell? ⟨bb, oo + n, none⟩ = some (.int .u8 77)) → Kept X Y →
      (Y.cell? ⟨w.heap.size, 0, none⟩ = some (.int .i64 a) ∧ Y.cell? ⟨w.heap.size, 1, none⟩ = some (.int .i64 d) ∧ Y.cell? ⟨w.heap.size, 2, none⟩ = some (.slice (some ⟨bb, oo, none⟩) n c') ∧
      Y.cell? ⟨w.heap.size + 1, 0, none⟩ = some (.int .i64 a) ∧ Y.cell? ⟨w.heap.size + 1, 1, none⟩ = some (.int .i64 d) ∧ Y.cell? ⟨w.heap.size + 1, 2, none⟩ = some (.slice A n c) ∧ Y.cell? ⟨bb, oo + n, none⟩ = some (.int .u8 77)) :=
    fun X Y ⟨a, b, c, d, e, f, g⟩ hk => ⟨(hk.cells _ _ (lt_of_cell a)).trans a, (hk.cells _ _ (lt_of_cell b)).trans b, (hk.cells _ _ (lt_of_cell c)).trans c, (hk.cells _ _ (lt_of_cell d)).trans d, (hk.cells _ _ (lt_of_cell e)).trans e, (hk.cells _ _ (lt_of_cell f)).trans f, (hk.cells _ _ (lt_of_cell g)).trans g⟩
  have cs : ∀ X, Kept W X → Calls Try.prog 25 #[.agg #[.int .i64 a, .int .i64 d, .slice (some ⟨bb, oo, none⟩) n c'], .agg #[.int .i64 a, .int .i64 d, .slice A n c]] X fun e w' => e = .returned (.bool true) ∧ Kept X w' := fun X hX => by
    have h := rsame_any a d a d (some ⟨bb, oo, none⟩) A n c' n c g g X hl hl ((hRg.kept hK0).kept hX) ((hr.kept hK0).kept hX)
    rwa [show (a == a && (d == d && g == g)) = true by simp] at h
  have S0 := hide hS
  have SKH := hide SK
  have CS := hide cs
  have HK0 := hide hK0
  have k1 : IntKind.i64.wrap ((n : Int) + 1) = (n : Int) + 1 := IntWalk.i64_in _ (by omega)
  have k2 : ((n : Int) + 1).toNat = n + 1 := by omega
  have k3 : (n : Int) + 1 ≤ (c' : Int) := by omega
  have k4 : (0 : Int) ≤ (n : Int) + 1 := by omega
  have k5 : (n : Int) < (n : Int) + 1 := by omega
  rw [← hW]
  clear hW hS SK cs hK0 hRg hr hc77 hl
  refine wp_region_L (fun X => X.cell? ⟨w.heap.size, 0, none⟩ = some (.int .i64 a) ∧ X.cell? ⟨w.heap.size, 1, none⟩ = some (.int .i64 d) ∧ X.cell? ⟨w.heap.size, 2, none⟩ = some (.slice (some ⟨bb, oo, none⟩) n c') ∧ X.cell? ⟨w.heap.size + 1, 0, none⟩ = some (.int .i64 a) ∧ X.cell? ⟨w.heap.size + 1, 1, none⟩ = some (.int .i64 d) ∧ X.cell? ⟨w.heap.size + 1, 2, none⟩ = some (.slice A n c) ∧ X.cell? ⟨bb, oo + n, none⟩ = some (.int .u8 77)) 999 (by kernel_rfl) ?_ (fun hHeld => ?_)
  · first | exact S0.out | exact SKH.out _ _ hHeld (by assumption) | assumption
  refine wpAnyL_take (i := 0) (v := ?_) (some 5) rfl rfl (by kernel_rfl) (by kernel_rfl) (by kernel_rfl) (by kernel_rfl) (fun _ _ _ h => h) (Or.inl ⟨by rfl, ?_⟩) (by assumption) ?_
  rotate_left
  · intro w hSw; (try dsimp only at hSw); go_simp; (try with_reducible rfl)
  try simp only [Act.put, List.setIfInBounds_toArray, List.set_cons_zero, List.set_cons_succ]
  refine wpAnyL_take (i := 1) (v := ?_) (some 6) rfl rfl (by kernel_rfl) (by kernel_rfl) (by kernel_rfl) (by kernel_rfl) (fun _ _ _ h => h) (Or.inl ⟨by rfl, ?_⟩) (by assumption) ?_
  rotate_left
  · intro w hSw; (try dsimp only at hSw); go_simp; (try with_reducible rfl)
  try simp only [Act.put, List.setIfInBounds_toArray, List.set_cons_zero, List.set_cons_succ]
  refine wpAnyL_one (i := 2) (by kernel_rfl) rfl (fun K hK => ?_)
  go_simp
  (refine (CS.out _ ((Below.refl _ _).drew)).mono ?_; rintro e w3 ⟨rfl, hk3⟩)
  refine hK.out _ _ ?_ (fun hHeld => ?_)
  · first | exact S0.out | exact SKH.out _ _ hHeld (by assumption) | assumption
  clear hK K
  try simp only [Act.put, List.setIfInBounds_toArray, List.set_cons_zero, List.set_cons_succ]
  refine wpAnyL_take (i := 3) (v := ?_) (some 8) rfl rfl (by kernel_rfl) (by kernel_rfl) (by kernel_rfl) (by kernel_rfl) (fun _ _ _ h => h) (Or.inl ⟨by rfl, ?_⟩) (by assumption) ?_
  rotate_left
  · intro w hSw; (try dsimp only at hSw); go_simp; (try with_reducible rfl)
  try simp only [Act.put, List.setIfInBounds_toArray, List.set_cons_zero, List.set_cons_succ]
  refine wpAnyL_take (i := 4) (v := ?_) (some 9) rfl rfl (by kernel_rfl) (by kernel_rfl) (by kernel_rfl) (by kernel_rfl) (fun _ _ _ h => h) (Or.inl ⟨by rfl, ?_⟩) (by assumption) ?_
  rotate_left
  · intro w hSw; (try dsimp only at hSw); go_simp; (try with_reducible rfl)
  try simp only [Act.put, List.setIfInBounds_toArray, List.set_cons_zero, List.set_cons_succ]
  refine wpAnyL_take (i := 5) (v := ?_) (some 10) rfl rfl (by kernel_rfl) (by kernel_rfl) (by kernel_rfl) (by kernel_rfl) (fun _ _ _ h => h) (Or.inl ⟨by rfl, ?_⟩) (by assumption) ?_
  rotate_left
  · intro w hSw; (try dsimp only at hSw); go_simp; (try with_reducible rfl)
  try simp only [Act.put, List.setIfInBounds_toArray, List.set_cons_zero, List.set_cons_succ]
  refine wpAnyL_take (i := 6) (v := ?_) (some 11) rfl rfl (by kernel_rfl) (by kernel_rfl) (by kernel_rfl) (by kernel_rfl) (fun _ _ _ h => h) (Or.inl ⟨by rfl, ?_⟩) (by assumption) ?_
  rotate_left
  · intro w hSw; (try dsimp only at hSw); go_simp; (try with_reducible rfl)
  try simp only [Act.put, List.setIfInBounds_toArray, List.set_cons_zero, List.set_cons_succ]
  refine wpAnyL_take (i := 7) (v := ?_) (some 12) rfl rfl (by kernel_rfl) (by kernel_rfl) (by kernel_rfl) (by kernel_rfl) (fun _ _ _ h => h) (Or.inl ⟨by rfl, ?_⟩) (by assumption) ?_
  rotate_left
  · intro w hSw; (try dsimp only at hSw); go_simp; (try with_reducible rfl)
  try simp only [Act.put, List.setIfInBounds_toArray, List.set_cons_zero, List.set_cons_succ]
  refine wpAnyL_take (i := 8) (v := ?_) (some 13) rfl rfl (by kernel_rfl) (by kernel_rfl) (by kernel_rfl) (by kernel_rfl) (fun _ _ _ h => h) (Or.inl ⟨by rfl, ?_⟩) (by assumption) ?_
  rotate_left
  · intro w hSw; (try dsimp only at hSw); go_simp; (try with_reducible rfl)
  try simp only [Act.put, List.setIfInBounds_toArray, List.set_cons_zero, List.set_cons_succ]
  refine wpAnyL_take (i := 9) (v := ?_) (some 14) rfl rfl (by kernel_rfl) (by kernel_rfl) (by kernel_rfl) (by kernel_rfl) (fun _ _ _ h => h) (Or.inl ⟨by rfl, ?_⟩) (by assumption) ?_
  rotate_left
  · intro w hSw; (try dsimp only at hSw); go_simp; (try with_reducible rfl)
  try simp only [Act.put, List.setIfInBounds_toArray, List.set_cons_zero, List.set_cons_succ]
  refine wpAnyL_take (i := 10) (v := ?_) (some 15) rfl rfl (by kernel_rfl) (by kernel_rfl) (by kernel_rfl) (by kernel_rfl) (fun _ _ _ h => h) (Or.inl ⟨by rfl, ?_⟩) (by assumption) ?_
  rotate_left
  · intro w hSw; (try dsimp only at hSw); go_simp; (try with_reducible rfl)
  try simp only [Act.put, List.setIfInBounds_toArray, List.set_cons_zero, List.set_cons_succ]
  refine wpAnyL_take (i := 11) (v := ?_) (some 16) rfl rfl (by kernel_rfl) (by kernel_rfl) (by kernel_rfl) (by kernel_rfl) (fun _ _ _ h => h) (Or.inl ⟨by rfl, ?_⟩) (by assumption) ?_
  rotate_left
  · intro w hSw; (try dsimp only at hSw); go_simp; (try with_reducible rfl)
  try simp only [Act.put, List.setIfInBounds_toArray, List.set_cons_zero, List.set_cons_succ]
  refine wpAnyL_take (i := 12) (v := ?_) (some 17) rfl rfl (by kernel_rfl) (by kernel_rfl) (by kernel_rfl) (by kernel_rfl) (fun _ _ _ h => h) (Or.inl ⟨by rfl, ?_⟩) (by assumption) ?_
  rotate_left
  · intro w hSw; (try dsimp only at hSw); go_simp; (try with_reducible rfl)
  try simp only [Act.put, List.setIfInBounds_toArray, List.set_cons_zero, List.set_cons_succ]
  refine wpAnyL_take (i := 13) (v := ?_) (some 18) rfl rfl (by kernel_rfl) (by kernel_rfl) (by kernel_rfl) (by kernel_rfl) (fun _ _ _ h => h) (Or.inl ⟨by rfl, ?_⟩) (by assumption) ?_
  rotate_left
  · intro w hSw; (try dsimp only at hSw); go_simp; (try with_reducible rfl)
  try simp only [Act.put, List.setIfInBounds_toArray, List.set_cons_zero, List.set_cons_succ]
  refine wpAnyL_take (i := 14) (v := ?_) (some 19) rfl rfl (by kernel_rfl) (by kernel_rfl) (by kernel_rfl) (by kernel_rfl) (fun _ _ _ h => h) (Or.inl ⟨by rfl, ?_⟩) (by assumption) ?_
  rotate_left
  · intro w hSw; (try dsimp only at hSw); go_simp; (try with_reducible rfl)
  try simp only [Act.put, List.setIfInBounds_toArray, List.set_cons_zero, List.set_cons_succ]
  refine wpAnyL_take (i := 15) (v := ?_) (some 20) rfl rfl (by kernel_rfl) (by kernel_rfl) (by kernel_rfl) (by kernel_rfl) (fun _ _ _ h => h) (Or.inl ⟨by rfl, ?_⟩) (by assumption) ?_
  rotate_left
  · intro w hSw; (try dsimp only at hSw); go_simp; (try with_reducible rfl)
  try simp only [Act.put, List.setIfInBounds_toArray, List.set_cons_zero, List.set_cons_succ]
  refine wpAnyL_take (i := 16) (v := ?_) (some 21) rfl rfl (by kernel_rfl) (by kernel_rfl) (by kernel_rfl) (by kernel_rfl) (fun _ _ _ h => h) (Or.inl ⟨by rfl, ?_⟩) (by assumption) ?_
  rotate_left
  · intro w hSw; (try dsimp only at hSw); go_simp; (try with_reducible rfl)
  try simp only [Act.put, List.setIfInBounds_toArray, List.set_cons_zero, List.set_cons_succ]
  refine wpAnyL_take (i := 17) (v := ?_) (some 22) rfl rfl (by kernel_rfl) (by kernel_rfl) (by kernel_rfl) (by kernel_rfl) (fun _ _ _ h => h) (Or.inl ⟨by rfl, ?_⟩) (by assumption) ?_
  rotate_left
  · intro w hSw; (try dsimp only at hSw); go_simp; (try with_reducible rfl)
  try simp only [Act.put, List.setIfInBounds_toArray, List.set_cons_zero, List.set_cons_succ]
  refine wpAnyL_one (i := 18) (by kernel_rfl) rfl (fun K hK => ?_)
  go_simp
  refine hK.out _ _ ?_ (fun hHeld => ?_)
  · first | exact S0.out | exact SKH.out _ _ hHeld (by assumption) | assumption
  clear hK K
  try simp only [Act.put, List.setIfInBounds_toArray, List.set_cons_zero, List.set_cons_succ]
  refine wpAnyL_done (by kernel_rfl) ?_ _
  go_wp2
  go_ret
  exact ⟨rfl, HK0.out.trans' (((Below.refl _ _).drew).trans hk3)⟩
end Go.Proofs.Ytbhgcbgaadnfpaa
