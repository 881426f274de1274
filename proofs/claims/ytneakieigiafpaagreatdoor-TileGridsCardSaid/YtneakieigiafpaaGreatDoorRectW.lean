/- tile.rect, walked. -/
import Derived.Test.YtneakieigiafpaaGreatDoorGrid
namespace Go.Proofs.YtneakieigiafpaaGreatDoor
open Go.RowKit

theorem fresh_frozen (w : World) (cs : Array Value) (t : TypeId) (o : Nat) : (w.alloc (.cells cs t)).frozen? ⟨w.heap.size, o, none⟩ = false := by
  have hh : (w.alloc (.cells cs t)).heap[w.heap.size]? = some (.cells cs t (0, 0)) := by
    show (w.heap.push _)[w.heap.size]? = _
    simp
  simp only [World.frozen?, hh]; rfl
theorem rect_kept {w w1 : World} {b : Nat} {o : Obj} {x0 x1 x2 x3 : Value} (h : Kept w w1) (hb : w.heap.size ≤ b) : Kept w (((((w1.setCell ⟨b, 0, none⟩ x0).setCell ⟨b, 1, none⟩ x1).setCell ⟨b, 2, none⟩ x2).setCell ⟨b, 3, none⟩ x3).alloc o).drew :=
  (((((h.setCell hb x0).setCell hb x1).setCell hb x2).setCell hb x3).alloc (by simpa [World.setCell] using h.size) o).drew
def rectX (g : GrD) (n : Int) : Int := n % gridA g * g.wide
def rectY (g : GrD) (n : Int) : Int := n / gridA g * g.high
def rectW (g : GrD) (n : Int) : Int := min g.wide (g.across - rectX g n)
def rectH (g : GrD) (n : Int) : Int := min g.high (g.down - rectY g n)


set_option maxRecDepth 100000 in
set_option maxHeartbeats 1600000 in
theorem rect_aa (g : GrD) (n : Int) (w : World) (hg : GrBnd g) (hn0 : 0 ≤ n) (hn1 : n < 65536) (m1 : g.wide ≤ g.across - rectX g n) (m2 : g.high ≤ g.down - rectY g n) :
    Calls Tryz.prog 59 #[.agg #[.bool g.re.neg, .string g.re.n, .int .i64 g.re.e, .bool g.im.neg, .string g.im.n, .int .i64 g.im.e, .int .i64 g.exp, .int .i64 g.across, .int .i64 g.down, .int .i64 g.wide, .int .i64 g.high], .int .i64 n] w fun e w' => e = .returned (.agg #[.int .i64 (rectX g n), .int .i64 (rectY g n), .int .i64 (rectW g n), .int .i64 (rectH g n)]) ∧ Kept w w' := by
  have CC := hide (fun (W : World) => counted_any g W hg)
  obtain ⟨ga0, ga1⟩ := hg.gA
  obtain ⟨a0, a1, d0, d1, w0, w1', h0, h1⟩ := hg
  have r1 := Int.emod_nonneg n (show gridA g ≠ 0 by omega)
  have r2 := Int.emod_lt_of_pos n (show 0 < gridA g by omega)
  have r3 : 0 ≤ n / gridA g := Int.ediv_nonneg hn0 (by omega)
  have r4 : n / gridA g ≤ n := Int.ediv_le_self _ hn0
  obtain ⟨R, hR⟩ : ∃ R, R = n % gridA g := ⟨_, rfl⟩
  obtain ⟨Q, hQ⟩ : ∃ R, R = n / gridA g := ⟨_, rfl⟩
  unfold rectX at m1
  unfold rectY at m2
  rw [← hR] at m1
  rw [← hQ] at m2
  have M1 : Hid (min g.wide (g.across - R * g.wide) = g.wide) := by show _ = _; omega
  have M2 : Hid (min g.high (g.down - Q * g.high) = g.high) := by show _ = _; omega
  have x0 : 0 ≤ R * g.wide := Int.mul_nonneg (by omega) (by omega)
  have x1 : R * g.wide ≤ 65536 * 65536 := Int.mul_le_mul (by omega) w1' (by omega) (by omega)
  have y0 : 0 ≤ Q * g.high := Int.mul_nonneg (by omega) (by omega)
  have y1 : Q * g.high ≤ 65536 * 65536 := Int.mul_le_mul (by omega) h1 (by omega) (by omega)
  have HX : Hid (rectX g n = R * g.wide) := by show _ = _; rw [rectX, hR]
  have HY : Hid (rectY g n = Q * g.high) := by show _ = _; rw [rectY, hQ]
  have HW : Hid (rectW g n = min g.wide (g.across - R * g.wide)) := by show _ = _; rw [rectW, rectX, hR]
  have HH : Hid (rectH g n = min g.high (g.down - Q * g.high)) := by show _ = _; rw [rectH, rectY, hQ]
  have t1 : Int.tmod n (gridA g) = R := by rw [hR]; exact Int.tmod_eq_emod_of_nonneg hn0
  have t2 : Int.tdiv n (gridA g) = Q := by rw [hQ]; exact Int.tdiv_eq_ediv_of_nonneg hn0
  have t3 : ¬ gridA g = 0 := by omega
  have t4 : IntKind.i64.wrap (R * g.wide) = R * g.wide := IntWalk.i64_in _ (by omega)
  have t5 : IntKind.i64.wrap (Q * g.high) = Q * g.high := IntWalk.i64_in _ (by omega)
  have t6 : IntKind.i64.wrap Q = Q := IntWalk.i64_in _ (by omega)
  have BA : Hid (∀ W, Kept ((w.alloc (.cells #[.bool g.re.neg, .string g.re.n, .int .i64 g.re.e, .bool g.im.neg, .string g.im.n, .int .i64 g.im.e, .int .i64 g.exp, .int .i64 g.across, .int .i64 g.down, .int .i64 g.wide, .int .i64 g.high] 31)).alloc (.cells #[.int .i64 0, .int .i64 0, .int .i64 0, .int .i64 0] 38)) W → W.cell? ⟨w.heap.size, 7, none⟩ = some (.int .i64 g.across) ∧ W.cell? ⟨w.heap.size, 8, none⟩ = some (.int .i64 g.down) ∧ W.cell? ⟨w.heap.size, 9, none⟩ = some (.int .i64 g.wide) ∧ W.cell? ⟨w.heap.size, 10, none⟩ = some (.int .i64 g.high)) := fun W hW => ⟨(hW.cells w.heap.size 7 (by simp; omega)).trans (by simp), (hW.cells w.heap.size 8 (by simp; omega)).trans (by simp), (hW.cells w.heap.size 9 (by simp; omega)).trans (by simp), (hW.cells w.heap.size 10 (by simp; omega)).trans (by simp)⟩
  obtain ⟨A, hA⟩ : ∃ A, A = gridA g := ⟨_, rfl⟩
  obtain ⟨D, hD⟩ : ∃ A, A = gridD g := ⟨_, rfl⟩
  rw [← hA] at t1 t2 t3 CC ga0 ga1
  rw [← hD] at CC
  clear hR hQ r1 r2 r3 r4 hA hD
  go_enter Tryz.func59, Tryz.ntmps59
  go_wp2_with fail
  refine (CC.out _).mono ?_
  rintro e w1 ⟨rfl, hk1⟩
  obtain ⟨q7, q8, q9, q10⟩ := BA.out w1 hk1
  have hz1 := lt_of_cell q7
  have RB := hide (fun (o : Nat) (v : Value) (h : ((w.alloc (.cells #[.bool g.re.neg, .string g.re.n, .int .i64 g.re.e, .bool g.im.neg, .string g.im.n, .int .i64 g.im.e, .int .i64 g.exp, .int .i64 g.across, .int .i64 g.down, .int .i64 g.wide, .int .i64 g.high] 31)).alloc (.cells #[.int .i64 0, .int .i64 0, .int .i64 0, .int .i64 0] 38)).cell? ⟨w.heap.size + 1, o, none⟩ = some v) => (hk1.cells (w.heap.size + 1) o (by simp)).trans h)
  have K1 := hide ((((Below.refl _ w).alloc (Nat.le_refl _) (.cells #[.bool g.re.neg, .string g.re.n, .int .i64 g.re.e, .bool g.im.neg, .string g.im.n, .int .i64 g.im.e, .int .i64 g.exp, .int .i64 g.across, .int .i64 g.down, .int .i64 g.wide, .int .i64 g.high] 31)).alloc (by simp) (.cells #[.int .i64 0, .int .i64 0, .int .i64 0, .int .i64 0] 38)).trans (hk1.mono (by simp; omega)))
  have HS := hide (And.intro q9 q10)
  have HQ := hide (And.intro q7 (And.intro q8 (And.intro q9 q10)))
  have HKA : Hid (∀ o, (w1.alloc o).cell? ⟨w.heap.size, 9, none⟩ = some (.int .i64 g.wide) ∧ (w1.alloc o).cell? ⟨w.heap.size, 10, none⟩ = some (.int .i64 g.high)) := fun o => ⟨(World.cell?_alloc_lt w1 _ ⟨w.heap.size, 9, none⟩ hz1).trans q9, (World.cell?_alloc_lt w1 _ ⟨w.heap.size, 10, none⟩ hz1).trans q10⟩
  have RC : Hid (w1.cell? ⟨w.heap.size + 1, 0, none⟩ = some (.int .i64 0) ∧ w1.cell? ⟨w.heap.size + 1, 1, none⟩ = some (.int .i64 0) ∧ w1.cell? ⟨w.heap.size + 1, 2, none⟩ = some (.int .i64 0) ∧ w1.cell? ⟨w.heap.size + 1, 3, none⟩ = some (.int .i64 0)) := ⟨(hk1.cells (w.heap.size + 1) 0 (by simp)).trans (by simp), (hk1.cells (w.heap.size + 1) 1 (by simp)).trans (by simp), (hk1.cells (w.heap.size + 1) 2 (by simp)).trans (by simp), (hk1.cells (w.heap.size + 1) 3 (by simp)).trans (by simp)⟩
  have hff : ∀ o, w1.frozen? ⟨w.heap.size + 1, o, none⟩ = false := fun o => (hk1.thaw (w.heap.size + 1) o (by simp)).trans (by have h9 := fresh_frozen (w.alloc (.cells #[.bool g.re.neg, .string g.re.n, .int .i64 g.re.e, .bool g.im.neg, .string g.im.n, .int .i64 g.im.e, .int .i64 g.exp, .int .i64 g.across, .int .i64 g.down, .int .i64 g.wide, .int .i64 g.high] 31)) #[.int .i64 0, .int .i64 0, .int .i64 0, .int .i64 0] 38 o; rw [World.size_alloc] at h9; exact h9)
  have RF : Hid (w1.frozen? ⟨w.heap.size + 1, 0, none⟩ = false ∧ w1.frozen? ⟨w.heap.size + 1, 1, none⟩ = false ∧ w1.frozen? ⟨w.heap.size + 1, 2, none⟩ = false ∧ w1.frozen? ⟨w.heap.size + 1, 3, none⟩ = false) := ⟨hff 0, hff 1, hff 2, hff 3⟩
  clear hk1 hff
  go_wp2_with fail
  clear q7 q8 q9 q10
  refine wp_region_L (fun X => X.cell? ⟨w.heap.size, 9, none⟩ = some (.int .i64 g.wide) ∧ X.cell? ⟨w.heap.size, 10, none⟩ = some (.int .i64 g.high)) 14 (by kernel_rfl) ?_ (fun hHeld => ?_)
  · first | exact HS.out | assumption | exact HKA.out _
  refine wpAnyL_take (i := 0) (v := ?_) (some 13) rfl rfl (by kernel_rfl) (by kernel_rfl) (by kernel_rfl) (by kernel_rfl) (fun _ _ _ h => h) (Or.inl ⟨by rfl, ?_⟩) (by assumption) ?_
  rotate_left
  · intro w hSw; (try dsimp only at hSw); go_simp; (try with_reducible rfl)
  try simp only [Act.put, List.setIfInBounds_toArray, List.set_cons_zero, List.set_cons_succ]
  refine wpAnyL_take (i := 1) (v := ?_) (some 14) rfl rfl (by kernel_rfl) (by kernel_rfl) (by kernel_rfl) (by kernel_rfl) (fun _ _ _ h => h) (Or.inl ⟨by rfl, ?_⟩) (by assumption) ?_
  rotate_left
  · intro w hSw; (try dsimp only at hSw); go_simp; (try with_reducible rfl)
  try simp only [Act.put, List.setIfInBounds_toArray, List.set_cons_zero, List.set_cons_succ]
  refine wpAnyL_take (i := 2) (v := ?_) (some 15) rfl rfl (by kernel_rfl) (by kernel_rfl) (by kernel_rfl) (by kernel_rfl) (fun _ _ _ h => h) (Or.inl ⟨by rfl, ?_⟩) (by assumption) ?_
  rotate_left
  · intro w hSw; (try dsimp only at hSw); go_simp; (try with_reducible rfl)
  try simp only [Act.put, List.setIfInBounds_toArray, List.set_cons_zero, List.set_cons_succ]
  refine wpAnyL_take (i := 3) (v := ?_) (some 16) rfl rfl (by kernel_rfl) (by kernel_rfl) (by kernel_rfl) (by kernel_rfl) (fun _ _ _ h => h) (Or.inl ⟨by rfl, ?_⟩) (by assumption) ?_
  rotate_left
  · intro w hSw; (try dsimp only at hSw); go_simp; (try with_reducible rfl)
  try simp only [Act.put, List.setIfInBounds_toArray, List.set_cons_zero, List.set_cons_succ]
  refine wpAnyL_take (i := 4) (v := ?_) (some 17) rfl rfl (by kernel_rfl) (by kernel_rfl) (by kernel_rfl) (by kernel_rfl) (fun _ _ _ h => h) (Or.inl ⟨by rfl, ?_⟩) (by assumption) ?_
  rotate_left
  · intro w hSw; (try dsimp only at hSw); go_simp; (try with_reducible rfl)
  try simp only [Act.put, List.setIfInBounds_toArray, List.set_cons_zero, List.set_cons_succ]
  refine wpAnyL_take (i := 5) (v := ?_) (some 18) rfl rfl (by kernel_rfl) (by kernel_rfl) (by kernel_rfl) (by kernel_rfl) (fun _ _ _ h => h) (Or.inl ⟨by rfl, ?_⟩) (by assumption) ?_
  rotate_left
  · intro w hSw; (try dsimp only at hSw); go_simp; (try with_reducible rfl)
  try simp only [Act.put, List.setIfInBounds_toArray, List.set_cons_zero, List.set_cons_succ]
  refine wpAnyL_take (i := 6) (v := ?_) (some 19) rfl rfl (by kernel_rfl) (by kernel_rfl) (by kernel_rfl) (by kernel_rfl) (fun _ _ _ h => h) (Or.inl ⟨by rfl, ?_⟩) (by assumption) ?_
  rotate_left
  · intro w hSw; (try dsimp only at hSw); go_simp; (try with_reducible rfl)
  try simp only [Act.put, List.setIfInBounds_toArray, List.set_cons_zero, List.set_cons_succ]
  refine wpAnyL_take (i := 7) (v := ?_) (some 20) rfl rfl (by kernel_rfl) (by kernel_rfl) (by kernel_rfl) (by kernel_rfl) (fun _ _ _ h => h) (Or.inl ⟨by rfl, ?_⟩) (by assumption) ?_
  rotate_left
  · intro w hSw; (try dsimp only at hSw); go_simp; (try with_reducible rfl)
  try simp only [Act.put, List.setIfInBounds_toArray, List.set_cons_zero, List.set_cons_succ]
  refine wpAnyL_take (i := 8) (v := ?_) (some 21) rfl rfl (by kernel_rfl) (by kernel_rfl) (by kernel_rfl) (by kernel_rfl) (fun _ _ _ h => h) (Or.inl ⟨by rfl, ?_⟩) (by assumption) ?_
  rotate_left
  · intro w hSw; (try dsimp only at hSw); go_simp; (try with_reducible rfl)
  try simp only [Act.put, List.setIfInBounds_toArray, List.set_cons_zero, List.set_cons_succ]
  refine wpAnyL_take (i := 9) (v := ?_) (some 22) rfl rfl (by kernel_rfl) (by kernel_rfl) (by kernel_rfl) (by kernel_rfl) (fun _ _ _ h => h) (Or.inl ⟨by rfl, ?_⟩) (by assumption) ?_
  rotate_left
  · intro w hSw; (try dsimp only at hSw); go_simp; (try with_reducible rfl)
  try simp only [Act.put, List.setIfInBounds_toArray, List.set_cons_zero, List.set_cons_succ]
  refine wpAnyL_take (i := 10) (v := ?_) (some 23) rfl rfl (by kernel_rfl) (by kernel_rfl) (by kernel_rfl) (by kernel_rfl) (fun _ _ _ h => h) (Or.inl ⟨by rfl, ?_⟩) (by assumption) ?_
  rotate_left
  · intro w hSw; (try dsimp only at hSw); go_simp; (try with_reducible rfl)
  try simp only [Act.put, List.setIfInBounds_toArray, List.set_cons_zero, List.set_cons_succ]
  refine wpAnyL_take (i := 11) (v := ?_) (some 24) rfl rfl (by kernel_rfl) (by kernel_rfl) (by kernel_rfl) (by kernel_rfl) (fun _ _ _ h => h) (Or.inl ⟨by rfl, ?_⟩) (by assumption) ?_
  rotate_left
  · intro w hSw; (try dsimp only at hSw); go_simp; (try with_reducible rfl)
  try simp only [Act.put, List.setIfInBounds_toArray, List.set_cons_zero, List.set_cons_succ]
  refine wpAnyL_take (i := 12) (v := ?_) (some 25) rfl rfl (by kernel_rfl) (by kernel_rfl) (by kernel_rfl) (by kernel_rfl) (fun _ _ _ h => h) (Or.inl ⟨by rfl, ?_⟩) (by assumption) ?_
  rotate_left
  · intro w hSw; (try dsimp only at hSw); go_simp; (try with_reducible rfl)
  try simp only [Act.put, List.setIfInBounds_toArray, List.set_cons_zero, List.set_cons_succ]
  refine wpAnyL_one (i := 13) (by kernel_rfl) rfl (fun K hK => ?_)
  go_simp
  refine hK.out _ _ ?_ (fun hHeld => ?_)
  · first | exact HS.out | assumption | exact HKA.out _
  clear hK K
  try simp only [Act.put, List.setIfInBounds_toArray, List.set_cons_zero, List.set_cons_succ]
  refine wpAnyL_end (by kernel_rfl) rfl (fun K hK => ?_)
  go_simp
  refine hK.out _ _ ?_
  clear hK K
  try simp only [Act.put, List.setIfInBounds_toArray, List.set_cons_zero, List.set_cons_succ]
  refine wpAnyL_done (by kernel_rfl) ?_ _
  obtain ⟨q7, q8, q9, q10⟩ := HQ.out
  obtain ⟨r0, r1, r2, r3⟩ := RC.out
  obtain ⟨f0, f1, f2, f3⟩ := RF.out
  have hz2 := lt_of_cell r0
  clear t1 t2 t3 t4 t5 t6
  go_wp2_with fail
  exact bodyPost_ret (v := .agg #[.int .i64 (R * g.wide), .int .i64 (Q * g.high), .int .i64 (g.wide), .int .i64 (g.high)]) (by simp [results, Tryz.results59, go_sem, r0, r1, r2, r3, hz2]) rfl ⟨by rw [HX.out, HY.out, HW.out, HH.out, M1.out, M2.out], rect_kept K1.out (by omega)⟩

set_option maxRecDepth 100000 in
set_option maxHeartbeats 1600000 in
theorem rect_ab (g : GrD) (n : Int) (w : World) (hg : GrBnd g) (hn0 : 0 ≤ n) (hn1 : n < 65536) (m1 : g.wide ≤ g.across - rectX g n) (m2 : ¬ g.high ≤ g.down - rectY g n) :
    Calls Tryz.prog 59 #[.agg #[.bool g.re.neg, .string g.re.n, .int .i64 g.re.e, .bool g.im.neg, .string g.im.n, .int .i64 g.im.e, .int .i64 g.exp, .int .i64 g.across, .int .i64 g.down, .int .i64 g.wide, .int .i64 g.high], .int .i64 n] w fun e w' => e = .returned (.agg #[.int .i64 (rectX g n), .int .i64 (rectY g n), .int .i64 (rectW g n), .int .i64 (rectH g n)]) ∧ Kept w w' := by
  have CC := hide (fun (W : World) => counted_any g W hg)
  obtain ⟨ga0, ga1⟩ := hg.gA
  obtain ⟨a0, a1, d0, d1, w0, w1', h0, h1⟩ := hg
  have r1 := Int.emod_nonneg n (show gridA g ≠ 0 by omega)
  have r2 := Int.emod_lt_of_pos n (show 0 < gridA g by omega)
  have r3 : 0 ≤ n / gridA g := Int.ediv_nonneg hn0 (by omega)
  have r4 : n / gridA g ≤ n := Int.ediv_le_self _ hn0
  obtain ⟨R, hR⟩ : ∃ R, R = n % gridA g := ⟨_, rfl⟩
  obtain ⟨Q, hQ⟩ : ∃ R, R = n / gridA g := ⟨_, rfl⟩
  unfold rectX at m1
  unfold rectY at m2
  rw [← hR] at m1
  rw [← hQ] at m2
  have M1 : Hid (min g.wide (g.across - R * g.wide) = g.wide) := by show _ = _; omega
  have M2 : Hid (min g.high (g.down - Q * g.high) = g.down - Q * g.high) := by show _ = _; omega
  have x0 : 0 ≤ R * g.wide := Int.mul_nonneg (by omega) (by omega)
  have x1 : R * g.wide ≤ 65536 * 65536 := Int.mul_le_mul (by omega) w1' (by omega) (by omega)
  have y0 : 0 ≤ Q * g.high := Int.mul_nonneg (by omega) (by omega)
  have y1 : Q * g.high ≤ 65536 * 65536 := Int.mul_le_mul (by omega) h1 (by omega) (by omega)
  have HX : Hid (rectX g n = R * g.wide) := by show _ = _; rw [rectX, hR]
  have HY : Hid (rectY g n = Q * g.high) := by show _ = _; rw [rectY, hQ]
  have HW : Hid (rectW g n = min g.wide (g.across - R * g.wide)) := by show _ = _; rw [rectW, rectX, hR]
  have HH : Hid (rectH g n = min g.high (g.down - Q * g.high)) := by show _ = _; rw [rectH, rectY, hQ]
  have t1 : Int.tmod n (gridA g) = R := by rw [hR]; exact Int.tmod_eq_emod_of_nonneg hn0
  have t2 : Int.tdiv n (gridA g) = Q := by rw [hQ]; exact Int.tdiv_eq_ediv_of_nonneg hn0
  have t3 : ¬ gridA g = 0 := by omega
  have t4 : IntKind.i64.wrap (R * g.wide) = R * g.wide := IntWalk.i64_in _ (by omega)
  have t5 : IntKind.i64.wrap (Q * g.high) = Q * g.high := IntWalk.i64_in _ (by omega)
  have t6 : IntKind.i64.wrap Q = Q := IntWalk.i64_in _ (by omega)
  have BA : Hid (∀ W, Kept ((w.alloc (.cells #[.bool g.re.neg, .string g.re.n, .int .i64 g.re.e, .bool g.im.neg, .string g.im.n, .int .i64 g.im.e, .int .i64 g.exp, .int .i64 g.across, .int .i64 g.down, .int .i64 g.wide, .int .i64 g.high] 31)).alloc (.cells #[.int .i64 0, .int .i64 0, .int .i64 0, .int .i64 0] 38)) W → W.cell? ⟨w.heap.size, 7, none⟩ = some (.int .i64 g.across) ∧ W.cell? ⟨w.heap.size, 8, none⟩ = some (.int .i64 g.down) ∧ W.cell? ⟨w.heap.size, 9, none⟩ = some (.int .i64 g.wide) ∧ W.cell? ⟨w.heap.size, 10, none⟩ = some (.int .i64 g.high)) := fun W hW => ⟨(hW.cells w.heap.size 7 (by simp; omega)).trans (by simp), (hW.cells w.heap.size 8 (by simp; omega)).trans (by simp), (hW.cells w.heap.size 9 (by simp; omega)).trans (by simp), (hW.cells w.heap.size 10 (by simp; omega)).trans (by simp)⟩
  obtain ⟨A, hA⟩ : ∃ A, A = gridA g := ⟨_, rfl⟩
  obtain ⟨D, hD⟩ : ∃ A, A = gridD g := ⟨_, rfl⟩
  rw [← hA] at t1 t2 t3 CC ga0 ga1
  rw [← hD] at CC
  clear hR hQ r1 r2 r3 r4 hA hD
  go_enter Tryz.func59, Tryz.ntmps59
  go_wp2_with fail
  refine (CC.out _).mono ?_
  rintro e w1 ⟨rfl, hk1⟩
  obtain ⟨q7, q8, q9, q10⟩ := BA.out w1 hk1
  have hz1 := lt_of_cell q7
  have RB := hide (fun (o : Nat) (v : Value) (h : ((w.alloc (.cells #[.bool g.re.neg, .string g.re.n, .int .i64 g.re.e, .bool g.im.neg, .string g.im.n, .int .i64 g.im.e, .int .i64 g.exp, .int .i64 g.across, .int .i64 g.down, .int .i64 g.wide, .int .i64 g.high] 31)).alloc (.cells #[.int .i64 0, .int .i64 0, .int .i64 0, .int .i64 0] 38)).cell? ⟨w.heap.size + 1, o, none⟩ = some v) => (hk1.cells (w.heap.size + 1) o (by simp)).trans h)
  have K1 := hide ((((Below.refl _ w).alloc (Nat.le_refl _) (.cells #[.bool g.re.neg, .string g.re.n, .int .i64 g.re.e, .bool g.im.neg, .string g.im.n, .int .i64 g.im.e, .int .i64 g.exp, .int .i64 g.across, .int .i64 g.down, .int .i64 g.wide, .int .i64 g.high] 31)).alloc (by simp) (.cells #[.int .i64 0, .int .i64 0, .int .i64 0, .int .i64 0] 38)).trans (hk1.mono (by simp; omega)))
  have HS := hide (And.intro q9 q10)
  have HQ := hide (And.intro q7 (And.intro q8 (And.intro q9 q10)))
  have HKA : Hid (∀ o, (w1.alloc o).cell? ⟨w.heap.size, 9, none⟩ = some (.int .i64 g.wide) ∧ (w1.alloc o).cell? ⟨w.heap.size, 10, none⟩ = some (.int .i64 g.high)) := fun o => ⟨(World.cell?_alloc_lt w1 _ ⟨w.heap.size, 9, none⟩ hz1).trans q9, (World.cell?_alloc_lt w1 _ ⟨w.heap.size, 10, none⟩ hz1).trans q10⟩
  have RC : Hid (w1.cell? ⟨w.heap.size + 1, 0, none⟩ = some (.int .i64 0) ∧ w1.cell? ⟨w.heap.size + 1, 1, none⟩ = some (.int .i64 0) ∧ w1.cell? ⟨w.heap.size + 1, 2, none⟩ = some (.int .i64 0) ∧ w1.cell? ⟨w.heap.size + 1, 3, none⟩ = some (.int .i64 0)) := ⟨(hk1.cells (w.heap.size + 1) 0 (by simp)).trans (by simp), (hk1.cells (w.heap.size + 1) 1 (by simp)).trans (by simp), (hk1.cells (w.heap.size + 1) 2 (by simp)).trans (by simp), (hk1.cells (w.heap.size + 1) 3 (by simp)).trans (by simp)⟩
  have hff : ∀ o, w1.frozen? ⟨w.heap.size + 1, o, none⟩ = false := fun o => (hk1.thaw (w.heap.size + 1) o (by simp)).trans (by have h9 := fresh_frozen (w.alloc (.cells #[.bool g.re.neg, .string g.re.n, .int .i64 g.re.e, .bool g.im.neg, .string g.im.n, .int .i64 g.im.e, .int .i64 g.exp, .int .i64 g.across, .int .i64 g.down, .int .i64 g.wide, .int .i64 g.high] 31)) #[.int .i64 0, .int .i64 0, .int .i64 0, .int .i64 0] 38 o; rw [World.size_alloc] at h9; exact h9)
  have RF : Hid (w1.frozen? ⟨w.heap.size + 1, 0, none⟩ = false ∧ w1.frozen? ⟨w.heap.size + 1, 1, none⟩ = false ∧ w1.frozen? ⟨w.heap.size + 1, 2, none⟩ = false ∧ w1.frozen? ⟨w.heap.size + 1, 3, none⟩ = false) := ⟨hff 0, hff 1, hff 2, hff 3⟩
  clear hk1 hff
  go_wp2_with fail
  clear q7 q8 q9 q10
  refine wp_region_L (fun X => X.cell? ⟨w.heap.size, 9, none⟩ = some (.int .i64 g.wide) ∧ X.cell? ⟨w.heap.size, 10, none⟩ = some (.int .i64 g.high)) 14 (by kernel_rfl) ?_ (fun hHeld => ?_)
  · first | exact HS.out | assumption | exact HKA.out _
  refine wpAnyL_take (i := 0) (v := ?_) (some 13) rfl rfl (by kernel_rfl) (by kernel_rfl) (by kernel_rfl) (by kernel_rfl) (fun _ _ _ h => h) (Or.inl ⟨by rfl, ?_⟩) (by assumption) ?_
  rotate_left
  · intro w hSw; (try dsimp only at hSw); go_simp; (try with_reducible rfl)
  try simp only [Act.put, List.setIfInBounds_toArray, List.set_cons_zero, List.set_cons_succ]
  refine wpAnyL_take (i := 1) (v := ?_) (some 14) rfl rfl (by kernel_rfl) (by kernel_rfl) (by kernel_rfl) (by kernel_rfl) (fun _ _ _ h => h) (Or.inl ⟨by rfl, ?_⟩) (by assumption) ?_
  rotate_left
  · intro w hSw; (try dsimp only at hSw); go_simp; (try with_reducible rfl)
  try simp only [Act.put, List.setIfInBounds_toArray, List.set_cons_zero, List.set_cons_succ]
  refine wpAnyL_take (i := 2) (v := ?_) (some 15) rfl rfl (by kernel_rfl) (by kernel_rfl) (by kernel_rfl) (by kernel_rfl) (fun _ _ _ h => h) (Or.inl ⟨by rfl, ?_⟩) (by assumption) ?_
  rotate_left
  · intro w hSw; (try dsimp only at hSw); go_simp; (try with_reducible rfl)
  try simp only [Act.put, List.setIfInBounds_toArray, List.set_cons_zero, List.set_cons_succ]
  refine wpAnyL_take (i := 3) (v := ?_) (some 16) rfl rfl (by kernel_rfl) (by kernel_rfl) (by kernel_rfl) (by kernel_rfl) (fun _ _ _ h => h) (Or.inl ⟨by rfl, ?_⟩) (by assumption) ?_
  rotate_left
  · intro w hSw; (try dsimp only at hSw); go_simp; (try with_reducible rfl)
  try simp only [Act.put, List.setIfInBounds_toArray, List.set_cons_zero, List.set_cons_succ]
  refine wpAnyL_take (i := 4) (v := ?_) (some 17) rfl rfl (by kernel_rfl) (by kernel_rfl) (by kernel_rfl) (by kernel_rfl) (fun _ _ _ h => h) (Or.inl ⟨by rfl, ?_⟩) (by assumption) ?_
  rotate_left
  · intro w hSw; (try dsimp only at hSw); go_simp; (try with_reducible rfl)
  try simp only [Act.put, List.setIfInBounds_toArray, List.set_cons_zero, List.set_cons_succ]
  refine wpAnyL_take (i := 5) (v := ?_) (some 18) rfl rfl (by kernel_rfl) (by kernel_rfl) (by kernel_rfl) (by kernel_rfl) (fun _ _ _ h => h) (Or.inl ⟨by rfl, ?_⟩) (by assumption) ?_
  rotate_left
  · intro w hSw; (try dsimp only at hSw); go_simp; (try with_reducible rfl)
  try simp only [Act.put, List.setIfInBounds_toArray, List.set_cons_zero, List.set_cons_succ]
  refine wpAnyL_take (i := 6) (v := ?_) (some 19) rfl rfl (by kernel_rfl) (by kernel_rfl) (by kernel_rfl) (by kernel_rfl) (fun _ _ _ h => h) (Or.inl ⟨by rfl, ?_⟩) (by assumption) ?_
  rotate_left
  · intro w hSw; (try dsimp only at hSw); go_simp; (try with_reducible rfl)
  try simp only [Act.put, List.setIfInBounds_toArray, List.set_cons_zero, List.set_cons_succ]
  refine wpAnyL_take (i := 7) (v := ?_) (some 20) rfl rfl (by kernel_rfl) (by kernel_rfl) (by kernel_rfl) (by kernel_rfl) (fun _ _ _ h => h) (Or.inl ⟨by rfl, ?_⟩) (by assumption) ?_
  rotate_left
  · intro w hSw; (try dsimp only at hSw); go_simp; (try with_reducible rfl)
  try simp only [Act.put, List.setIfInBounds_toArray, List.set_cons_zero, List.set_cons_succ]
  refine wpAnyL_take (i := 8) (v := ?_) (some 21) rfl rfl (by kernel_rfl) (by kernel_rfl) (by kernel_rfl) (by kernel_rfl) (fun _ _ _ h => h) (Or.inl ⟨by rfl, ?_⟩) (by assumption) ?_
  rotate_left
  · intro w hSw; (try dsimp only at hSw); go_simp; (try with_reducible rfl)
  try simp only [Act.put, List.setIfInBounds_toArray, List.set_cons_zero, List.set_cons_succ]
  refine wpAnyL_take (i := 9) (v := ?_) (some 22) rfl rfl (by kernel_rfl) (by kernel_rfl) (by kernel_rfl) (by kernel_rfl) (fun _ _ _ h => h) (Or.inl ⟨by rfl, ?_⟩) (by assumption) ?_
  rotate_left
  · intro w hSw; (try dsimp only at hSw); go_simp; (try with_reducible rfl)
  try simp only [Act.put, List.setIfInBounds_toArray, List.set_cons_zero, List.set_cons_succ]
  refine wpAnyL_take (i := 10) (v := ?_) (some 23) rfl rfl (by kernel_rfl) (by kernel_rfl) (by kernel_rfl) (by kernel_rfl) (fun _ _ _ h => h) (Or.inl ⟨by rfl, ?_⟩) (by assumption) ?_
  rotate_left
  · intro w hSw; (try dsimp only at hSw); go_simp; (try with_reducible rfl)
  try simp only [Act.put, List.setIfInBounds_toArray, List.set_cons_zero, List.set_cons_succ]
  refine wpAnyL_take (i := 11) (v := ?_) (some 24) rfl rfl (by kernel_rfl) (by kernel_rfl) (by kernel_rfl) (by kernel_rfl) (fun _ _ _ h => h) (Or.inl ⟨by rfl, ?_⟩) (by assumption) ?_
  rotate_left
  · intro w hSw; (try dsimp only at hSw); go_simp; (try with_reducible rfl)
  try simp only [Act.put, List.setIfInBounds_toArray, List.set_cons_zero, List.set_cons_succ]
  refine wpAnyL_take (i := 12) (v := ?_) (some 25) rfl rfl (by kernel_rfl) (by kernel_rfl) (by kernel_rfl) (by kernel_rfl) (fun _ _ _ h => h) (Or.inl ⟨by rfl, ?_⟩) (by assumption) ?_
  rotate_left
  · intro w hSw; (try dsimp only at hSw); go_simp; (try with_reducible rfl)
  try simp only [Act.put, List.setIfInBounds_toArray, List.set_cons_zero, List.set_cons_succ]
  refine wpAnyL_one (i := 13) (by kernel_rfl) rfl (fun K hK => ?_)
  go_simp
  refine hK.out _ _ ?_ (fun hHeld => ?_)
  · first | exact HS.out | assumption | exact HKA.out _
  clear hK K
  try simp only [Act.put, List.setIfInBounds_toArray, List.set_cons_zero, List.set_cons_succ]
  refine wpAnyL_end (by kernel_rfl) rfl (fun K hK => ?_)
  go_simp
  refine hK.out _ _ ?_
  clear hK K
  try simp only [Act.put, List.setIfInBounds_toArray, List.set_cons_zero, List.set_cons_succ]
  refine wpAnyL_done (by kernel_rfl) ?_ _
  obtain ⟨q7, q8, q9, q10⟩ := HQ.out
  obtain ⟨r0, r1, r2, r3⟩ := RC.out
  obtain ⟨f0, f1, f2, f3⟩ := RF.out
  have hz2 := lt_of_cell r0
  clear t1 t2 t3 t4 t5 t6
  go_wp2_with fail
  exact bodyPost_ret (v := .agg #[.int .i64 (R * g.wide), .int .i64 (Q * g.high), .int .i64 (g.wide), .int .i64 (g.down - Q * g.high)]) (by simp [results, Tryz.results59, go_sem, r0, r1, r2, r3, hz2]) rfl ⟨by rw [HX.out, HY.out, HW.out, HH.out, M1.out, M2.out], rect_kept K1.out (by omega)⟩

set_option maxRecDepth 100000 in
set_option maxHeartbeats 1600000 in
theorem rect_ba (g : GrD) (n : Int) (w : World) (hg : GrBnd g) (hn0 : 0 ≤ n) (hn1 : n < 65536) (m1 : ¬ g.wide ≤ g.across - rectX g n) (m2 : g.high ≤ g.down - rectY g n) :
    Calls Tryz.prog 59 #[.agg #[.bool g.re.neg, .string g.re.n, .int .i64 g.re.e, .bool g.im.neg, .string g.im.n, .int .i64 g.im.e, .int .i64 g.exp, .int .i64 g.across, .int .i64 g.down, .int .i64 g.wide, .int .i64 g.high], .int .i64 n] w fun e w' => e = .returned (.agg #[.int .i64 (rectX g n), .int .i64 (rectY g n), .int .i64 (rectW g n), .int .i64 (rectH g n)]) ∧ Kept w w' := by
  have CC := hide (fun (W : World) => counted_any g W hg)
  obtain ⟨ga0, ga1⟩ := hg.gA
  obtain ⟨a0, a1, d0, d1, w0, w1', h0, h1⟩ := hg
  have r1 := Int.emod_nonneg n (show gridA g ≠ 0 by omega)
  have r2 := Int.emod_lt_of_pos n (show 0 < gridA g by omega)
  have r3 : 0 ≤ n / gridA g := Int.ediv_nonneg hn0 (by omega)
  have r4 : n / gridA g ≤ n := Int.ediv_le_self _ hn0
  obtain ⟨R, hR⟩ : ∃ R, R = n % gridA g := ⟨_, rfl⟩
  obtain ⟨Q, hQ⟩ : ∃ R, R = n / gridA g := ⟨_, rfl⟩
  unfold rectX at m1
  unfold rectY at m2
  rw [← hR] at m1
  rw [← hQ] at m2
  have M1 : Hid (min g.wide (g.across - R * g.wide) = g.across - R * g.wide) := by show _ = _; omega
  have M2 : Hid (min g.high (g.down - Q * g.high) = g.high) := by show _ = _; omega
  have x0 : 0 ≤ R * g.wide := Int.mul_nonneg (by omega) (by omega)
  have x1 : R * g.wide ≤ 65536 * 65536 := Int.mul_le_mul (by omega) w1' (by omega) (by omega)
  have y0 : 0 ≤ Q * g.high := Int.mul_nonneg (by omega) (by omega)
  have y1 : Q * g.high ≤ 65536 * 65536 := Int.mul_le_mul (by omega) h1 (by omega) (by omega)
  have HX : Hid (rectX g n = R * g.wide) := by show _ = _; rw [rectX, hR]
  have HY : Hid (rectY g n = Q * g.high) := by show _ = _; rw [rectY, hQ]
  have HW : Hid (rectW g n = min g.wide (g.across - R * g.wide)) := by show _ = _; rw [rectW, rectX, hR]
  have HH : Hid (rectH g n = min g.high (g.down - Q * g.high)) := by show _ = _; rw [rectH, rectY, hQ]
  have t1 : Int.tmod n (gridA g) = R := by rw [hR]; exact Int.tmod_eq_emod_of_nonneg hn0
  have t2 : Int.tdiv n (gridA g) = Q := by rw [hQ]; exact Int.tdiv_eq_ediv_of_nonneg hn0
  have t3 : ¬ gridA g = 0 := by omega
  have t4 : IntKind.i64.wrap (R * g.wide) = R * g.wide := IntWalk.i64_in _ (by omega)
  have t5 : IntKind.i64.wrap (Q * g.high) = Q * g.high := IntWalk.i64_in _ (by omega)
  have t6 : IntKind.i64.wrap Q = Q := IntWalk.i64_in _ (by omega)
  have BA : Hid (∀ W, Kept ((w.alloc (.cells #[.bool g.re.neg, .string g.re.n, .int .i64 g.re.e, .bool g.im.neg, .string g.im.n, .int .i64 g.im.e, .int .i64 g.exp, .int .i64 g.across, .int .i64 g.down, .int .i64 g.wide, .int .i64 g.high] 31)).alloc (.cells #[.int .i64 0, .int .i64 0, .int .i64 0, .int .i64 0] 38)) W → W.cell? ⟨w.heap.size, 7, none⟩ = some (.int .i64 g.across) ∧ W.cell? ⟨w.heap.size, 8, none⟩ = some (.int .i64 g.down) ∧ W.cell? ⟨w.heap.size, 9, none⟩ = some (.int .i64 g.wide) ∧ W.cell? ⟨w.heap.size, 10, none⟩ = some (.int .i64 g.high)) := fun W hW => ⟨(hW.cells w.heap.size 7 (by simp; omega)).trans (by simp), (hW.cells w.heap.size 8 (by simp; omega)).trans (by simp), (hW.cells w.heap.size 9 (by simp; omega)).trans (by simp), (hW.cells w.heap.size 10 (by simp; omega)).trans (by simp)⟩
  obtain ⟨A, hA⟩ : ∃ A, A = gridA g := ⟨_, rfl⟩
  obtain ⟨D, hD⟩ : ∃ A, A = gridD g := ⟨_, rfl⟩
  rw [← hA] at t1 t2 t3 CC ga0 ga1
  rw [← hD] at CC
  clear hR hQ r1 r2 r3 r4 hA hD
  go_enter Tryz.func59, Tryz.ntmps59
  go_wp2_with fail
  refine (CC.out _).mono ?_
  rintro e w1 ⟨rfl, hk1⟩
  obtain ⟨q7, q8, q9, q10⟩ := BA.out w1 hk1
  have hz1 := lt_of_cell q7
  have RB := hide (fun (o : Nat) (v : Value) (h : ((w.alloc (.cells #[.bool g.re.neg, .string g.re.n, .int .i64 g.re.e, .bool g.im.neg, .string g.im.n, .int .i64 g.im.e, .int .i64 g.exp, .int .i64 g.across, .int .i64 g.down, .int .i64 g.wide, .int .i64 g.high] 31)).alloc (.cells #[.int .i64 0, .int .i64 0, .int .i64 0, .int .i64 0] 38)).cell? ⟨w.heap.size + 1, o, none⟩ = some v) => (hk1.cells (w.heap.size + 1) o (by simp)).trans h)
  have K1 := hide ((((Below.refl _ w).alloc (Nat.le_refl _) (.cells #[.bool g.re.neg, .string g.re.n, .int .i64 g.re.e, .bool g.im.neg, .string g.im.n, .int .i64 g.im.e, .int .i64 g.exp, .int .i64 g.across, .int .i64 g.down, .int .i64 g.wide, .int .i64 g.high] 31)).alloc (by simp) (.cells #[.int .i64 0, .int .i64 0, .int .i64 0, .int .i64 0] 38)).trans (hk1.mono (by simp; omega)))
  have HS := hide (And.intro q9 q10)
  have HQ := hide (And.intro q7 (And.intro q8 (And.intro q9 q10)))
  have HKA : Hid (∀ o, (w1.alloc o).cell? ⟨w.heap.size, 9, none⟩ = some (.int .i64 g.wide) ∧ (w1.alloc o).cell? ⟨w.heap.size, 10, none⟩ = some (.int .i64 g.high)) := fun o => ⟨(World.cell?_alloc_lt w1 _ ⟨w.heap.size, 9, none⟩ hz1).trans q9, (World.cell?_alloc_lt w1 _ ⟨w.heap.size, 10, none⟩ hz1).trans q10⟩
  have RC : Hid (w1.cell? ⟨w.heap.size + 1, 0, none⟩ = some (.int .i64 0) ∧ w1.cell? ⟨w.heap.size + 1, 1, none⟩ = some (.int .i64 0) ∧ w1.cell? ⟨w.heap.size + 1, 2, none⟩ = some (.int .i64 0) ∧ w1.cell? ⟨w.heap.size + 1, 3, none⟩ = some (.int .i64 0)) := ⟨(hk1.cells (w.heap.size + 1) 0 (by simp)).trans (by simp), (hk1.cells (w.heap.size + 1) 1 (by simp)).trans (by simp), (hk1.cells (w.heap.size + 1) 2 (by simp)).trans (by simp), (hk1.cells (w.heap.size + 1) 3 (by simp)).trans (by simp)⟩
  have hff : ∀ o, w1.frozen? ⟨w.heap.size + 1, o, none⟩ = false := fun o => (hk1.thaw (w.heap.size + 1) o (by simp)).trans (by have h9 := fresh_frozen (w.alloc (.cells #[.bool g.re.neg, .string g.re.n, .int .i64 g.re.e, .bool g.im.neg, .string g.im.n, .int .i64 g.im.e, .int .i64 g.exp, .int .i64 g.across, .int .i64 g.down, .int .i64 g.wide, .int .i64 g.high] 31)) #[.int .i64 0, .int .i64 0, .int .i64 0, .int .i64 0] 38 o; rw [World.size_alloc] at h9; exact h9)
  have RF : Hid (w1.frozen? ⟨w.heap.size + 1, 0, none⟩ = false ∧ w1.frozen? ⟨w.heap.size + 1, 1, none⟩ = false ∧ w1.frozen? ⟨w.heap.size + 1, 2, none⟩ = false ∧ w1.frozen? ⟨w.heap.size + 1, 3, none⟩ = false) := ⟨hff 0, hff 1, hff 2, hff 3⟩
  clear hk1 hff
  go_wp2_with fail
  clear q7 q8 q9 q10
  refine wp_region_L (fun X => X.cell? ⟨w.heap.size, 9, none⟩ = some (.int .i64 g.wide) ∧ X.cell? ⟨w.heap.size, 10, none⟩ = some (.int .i64 g.high)) 14 (by kernel_rfl) ?_ (fun hHeld => ?_)
  · first | exact HS.out | assumption | exact HKA.out _
  refine wpAnyL_take (i := 0) (v := ?_) (some 13) rfl rfl (by kernel_rfl) (by kernel_rfl) (by kernel_rfl) (by kernel_rfl) (fun _ _ _ h => h) (Or.inl ⟨by rfl, ?_⟩) (by assumption) ?_
  rotate_left
  · intro w hSw; (try dsimp only at hSw); go_simp; (try with_reducible rfl)
  try simp only [Act.put, List.setIfInBounds_toArray, List.set_cons_zero, List.set_cons_succ]
  refine wpAnyL_take (i := 1) (v := ?_) (some 14) rfl rfl (by kernel_rfl) (by kernel_rfl) (by kernel_rfl) (by kernel_rfl) (fun _ _ _ h => h) (Or.inl ⟨by rfl, ?_⟩) (by assumption) ?_
  rotate_left
  · intro w hSw; (try dsimp only at hSw); go_simp; (try with_reducible rfl)
  try simp only [Act.put, List.setIfInBounds_toArray, List.set_cons_zero, List.set_cons_succ]
  refine wpAnyL_take (i := 2) (v := ?_) (some 15) rfl rfl (by kernel_rfl) (by kernel_rfl) (by kernel_rfl) (by kernel_rfl) (fun _ _ _ h => h) (Or.inl ⟨by rfl, ?_⟩) (by assumption) ?_
  rotate_left
  · intro w hSw; (try dsimp only at hSw); go_simp; (try with_reducible rfl)
  try simp only [Act.put, List.setIfInBounds_toArray, List.set_cons_zero, List.set_cons_succ]
  refine wpAnyL_take (i := 3) (v := ?_) (some 16) rfl rfl (by kernel_rfl) (by kernel_rfl) (by kernel_rfl) (by kernel_rfl) (fun _ _ _ h => h) (Or.inl ⟨by rfl, ?_⟩) (by assumption) ?_
  rotate_left
  · intro w hSw; (try dsimp only at hSw); go_simp; (try with_reducible rfl)
  try simp only [Act.put, List.setIfInBounds_toArray, List.set_cons_zero, List.set_cons_succ]
  refine wpAnyL_take (i := 4) (v := ?_) (some 17) rfl rfl (by kernel_rfl) (by kernel_rfl) (by kernel_rfl) (by kernel_rfl) (fun _ _ _ h => h) (Or.inl ⟨by rfl, ?_⟩) (by assumption) ?_
  rotate_left
  · intro w hSw; (try dsimp only at hSw); go_simp; (try with_reducible rfl)
  try simp only [Act.put, List.setIfInBounds_toArray, List.set_cons_zero, List.set_cons_succ]
  refine wpAnyL_take (i := 5) (v := ?_) (some 18) rfl rfl (by kernel_rfl) (by kernel_rfl) (by kernel_rfl) (by kernel_rfl) (fun _ _ _ h => h) (Or.inl ⟨by rfl, ?_⟩) (by assumption) ?_
  rotate_left
  · intro w hSw; (try dsimp only at hSw); go_simp; (try with_reducible rfl)
  try simp only [Act.put, List.setIfInBounds_toArray, List.set_cons_zero, List.set_cons_succ]
  refine wpAnyL_take (i := 6) (v := ?_) (some 19) rfl rfl (by kernel_rfl) (by kernel_rfl) (by kernel_rfl) (by kernel_rfl) (fun _ _ _ h => h) (Or.inl ⟨by rfl, ?_⟩) (by assumption) ?_
  rotate_left
  · intro w hSw; (try dsimp only at hSw); go_simp; (try with_reducible rfl)
  try simp only [Act.put, List.setIfInBounds_toArray, List.set_cons_zero, List.set_cons_succ]
  refine wpAnyL_take (i := 7) (v := ?_) (some 20) rfl rfl (by kernel_rfl) (by kernel_rfl) (by kernel_rfl) (by kernel_rfl) (fun _ _ _ h => h) (Or.inl ⟨by rfl, ?_⟩) (by assumption) ?_
  rotate_left
  · intro w hSw; (try dsimp only at hSw); go_simp; (try with_reducible rfl)
  try simp only [Act.put, List.setIfInBounds_toArray, List.set_cons_zero, List.set_cons_succ]
  refine wpAnyL_take (i := 8) (v := ?_) (some 21) rfl rfl (by kernel_rfl) (by kernel_rfl) (by kernel_rfl) (by kernel_rfl) (fun _ _ _ h => h) (Or.inl ⟨by rfl, ?_⟩) (by assumption) ?_
  rotate_left
  · intro w hSw; (try dsimp only at hSw); go_simp; (try with_reducible rfl)
  try simp only [Act.put, List.setIfInBounds_toArray, List.set_cons_zero, List.set_cons_succ]
  refine wpAnyL_take (i := 9) (v := ?_) (some 22) rfl rfl (by kernel_rfl) (by kernel_rfl) (by kernel_rfl) (by kernel_rfl) (fun _ _ _ h => h) (Or.inl ⟨by rfl, ?_⟩) (by assumption) ?_
  rotate_left
  · intro w hSw; (try dsimp only at hSw); go_simp; (try with_reducible rfl)
  try simp only [Act.put, List.setIfInBounds_toArray, List.set_cons_zero, List.set_cons_succ]
  refine wpAnyL_take (i := 10) (v := ?_) (some 23) rfl rfl (by kernel_rfl) (by kernel_rfl) (by kernel_rfl) (by kernel_rfl) (fun _ _ _ h => h) (Or.inl ⟨by rfl, ?_⟩) (by assumption) ?_
  rotate_left
  · intro w hSw; (try dsimp only at hSw); go_simp; (try with_reducible rfl)
  try simp only [Act.put, List.setIfInBounds_toArray, List.set_cons_zero, List.set_cons_succ]
  refine wpAnyL_take (i := 11) (v := ?_) (some 24) rfl rfl (by kernel_rfl) (by kernel_rfl) (by kernel_rfl) (by kernel_rfl) (fun _ _ _ h => h) (Or.inl ⟨by rfl, ?_⟩) (by assumption) ?_
  rotate_left
  · intro w hSw; (try dsimp only at hSw); go_simp; (try with_reducible rfl)
  try simp only [Act.put, List.setIfInBounds_toArray, List.set_cons_zero, List.set_cons_succ]
  refine wpAnyL_take (i := 12) (v := ?_) (some 25) rfl rfl (by kernel_rfl) (by kernel_rfl) (by kernel_rfl) (by kernel_rfl) (fun _ _ _ h => h) (Or.inl ⟨by rfl, ?_⟩) (by assumption) ?_
  rotate_left
  · intro w hSw; (try dsimp only at hSw); go_simp; (try with_reducible rfl)
  try simp only [Act.put, List.setIfInBounds_toArray, List.set_cons_zero, List.set_cons_succ]
  refine wpAnyL_one (i := 13) (by kernel_rfl) rfl (fun K hK => ?_)
  go_simp
  refine hK.out _ _ ?_ (fun hHeld => ?_)
  · first | exact HS.out | assumption | exact HKA.out _
  clear hK K
  try simp only [Act.put, List.setIfInBounds_toArray, List.set_cons_zero, List.set_cons_succ]
  refine wpAnyL_end (by kernel_rfl) rfl (fun K hK => ?_)
  go_simp
  refine hK.out _ _ ?_
  clear hK K
  try simp only [Act.put, List.setIfInBounds_toArray, List.set_cons_zero, List.set_cons_succ]
  refine wpAnyL_done (by kernel_rfl) ?_ _
  obtain ⟨q7, q8, q9, q10⟩ := HQ.out
  obtain ⟨r0, r1, r2, r3⟩ := RC.out
  obtain ⟨f0, f1, f2, f3⟩ := RF.out
  have hz2 := lt_of_cell r0
  clear t1 t2 t3 t4 t5 t6
  go_wp2_with fail
  exact bodyPost_ret (v := .agg #[.int .i64 (R * g.wide), .int .i64 (Q * g.high), .int .i64 (g.across - R * g.wide), .int .i64 (g.high)]) (by simp [results, Tryz.results59, go_sem, r0, r1, r2, r3, hz2]) rfl ⟨by rw [HX.out, HY.out, HW.out, HH.out, M1.out, M2.out], rect_kept K1.out (by omega)⟩

set_option maxRecDepth 100000 in
set_option maxHeartbeats 1600000 in
theorem rect_bb (g : GrD) (n : Int) (w : World) (hg : GrBnd g) (hn0 : 0 ≤ n) (hn1 : n < 65536) (m1 : ¬ g.wide ≤ g.across - rectX g n) (m2 : ¬ g.high ≤ g.down - rectY g n) :
    Calls Tryz.prog 59 #[.agg #[.bool g.re.neg, .string g.re.n, .int .i64 g.re.e, .bool g.im.neg, .string g.im.n, .int .i64 g.im.e, .int .i64 g.exp, .int .i64 g.across, .int .i64 g.down, .int .i64 g.wide, .int .i64 g.high], .int .i64 n] w fun e w' => e = .returned (.agg #[.int .i64 (rectX g n), .int .i64 (rectY g n), .int .i64 (rectW g n), .int .i64 (rectH g n)]) ∧ Kept w w' := by
  have CC := hide (fun (W : World) => counted_any g W hg)
  obtain ⟨ga0, ga1⟩ := hg.gA
  obtain ⟨a0, a1, d0, d1, w0, w1', h0, h1⟩ := hg
  have r1 := Int.emod_nonneg n (show gridA g ≠ 0 by omega)
  have r2 := Int.emod_lt_of_pos n (show 0 < gridA g by omega)
  have r3 : 0 ≤ n / gridA g := Int.ediv_nonneg hn0 (by omega)
  have r4 : n / gridA g ≤ n := Int.ediv_le_self _ hn0
  obtain ⟨R, hR⟩ : ∃ R, R = n % gridA g := ⟨_, rfl⟩
  obtain ⟨Q, hQ⟩ : ∃ R, R = n / gridA g := ⟨_, rfl⟩
  unfold rectX at m1
  unfold rectY at m2
  rw [← hR] at m1
  rw [← hQ] at m2
  have M1 : Hid (min g.wide (g.across - R * g.wide) = g.across - R * g.wide) := by show _ = _; omega
  have M2 : Hid (min g.high (g.down - Q * g.high) = g.down - Q * g.high) := by show _ = _; omega
  have x0 : 0 ≤ R * g.wide := Int.mul_nonneg (by omega) (by omega)
  have x1 : R * g.wide ≤ 65536 * 65536 := Int.mul_le_mul (by omega) w1' (by omega) (by omega)
  have y0 : 0 ≤ Q * g.high := Int.mul_nonneg (by omega) (by omega)
  have y1 : Q * g.high ≤ 65536 * 65536 := Int.mul_le_mul (by omega) h1 (by omega) (by omega)
  have HX : Hid (rectX g n = R * g.wide) := by show _ = _; rw [rectX, hR]
  have HY : Hid (rectY g n = Q * g.high) := by show _ = _; rw [rectY, hQ]
  have HW : Hid (rectW g n = min g.wide (g.across - R * g.wide)) := by show _ = _; rw [rectW, rectX, hR]
  have HH : Hid (rectH g n = min g.high (g.down - Q * g.high)) := by show _ = _; rw [rectH, rectY, hQ]
  have t1 : Int.tmod n (gridA g) = R := by rw [hR]; exact Int.tmod_eq_emod_of_nonneg hn0
  have t2 : Int.tdiv n (gridA g) = Q := by rw [hQ]; exact Int.tdiv_eq_ediv_of_nonneg hn0
  have t3 : ¬ gridA g = 0 := by omega
  have t4 : IntKind.i64.wrap (R * g.wide) = R * g.wide := IntWalk.i64_in _ (by omega)
  have t5 : IntKind.i64.wrap (Q * g.high) = Q * g.high := IntWalk.i64_in _ (by omega)
  have t6 : IntKind.i64.wrap Q = Q := IntWalk.i64_in _ (by omega)
  have BA : Hid (∀ W, Kept ((w.alloc (.cells #[.bool g.re.neg, .string g.re.n, .int .i64 g.re.e, .bool g.im.neg, .string g.im.n, .int .i64 g.im.e, .int .i64 g.exp, .int .i64 g.across, .int .i64 g.down, .int .i64 g.wide, .int .i64 g.high] 31)).alloc (.cells #[.int .i64 0, .int .i64 0, .int .i64 0, .int .i64 0] 38)) W → W.cell? ⟨w.heap.size, 7, none⟩ = some (.int .i64 g.across) ∧ W.cell? ⟨w.heap.size, 8, none⟩ = some (.int .i64 g.down) ∧ W.cell? ⟨w.heap.size, 9, none⟩ = some (.int .i64 g.wide) ∧ W.cell? ⟨w.heap.size, 10, none⟩ = some (.int .i64 g.high)) := fun W hW => ⟨(hW.cells w.heap.size 7 (by simp; omega)).trans (by simp), (hW.cells w.heap.size 8 (by simp; omega)).trans (by simp), (hW.cells w.heap.size 9 (by simp; omega)).trans (by simp), (hW.cells w.heap.size 10 (by simp; omega)).trans (by simp)⟩
  obtain ⟨A, hA⟩ : ∃ A, A = gridA g := ⟨_, rfl⟩
  obtain ⟨D, hD⟩ : ∃ A, A = gridD g := ⟨_, rfl⟩
  rw [← hA] at t1 t2 t3 CC ga0 ga1
  rw [← hD] at CC
  clear hR hQ r1 r2 r3 r4 hA hD
  go_enter Tryz.func59, Tryz.ntmps59
  go_wp2_with fail
  refine (CC.out _).mono ?_
  rintro e w1 ⟨rfl, hk1⟩
  obtain ⟨q7, q8, q9, q10⟩ := BA.out w1 hk1
  have hz1 := lt_of_cell q7
  have RB := hide (fun (o : Nat) (v : Value) (h : ((w.alloc (.cells #[.bool g.re.neg, .string g.re.n, .int .i64 g.re.e, .bool g.im.neg, .string g.im.n, .int .i64 g.im.e, .int .i64 g.exp, .int .i64 g.across, .int .i64 g.down, .int .i64 g.wide, .int .i64 g.high] 31)).alloc (.cells #[.int .i64 0, .int .i64 0, .int .i64 0, .int .i64 0] 38)).cell? ⟨w.heap.size + 1, o, none⟩ = some v) => (hk1.cells (w.heap.size + 1) o (by simp)).trans h)
  have K1 := hide ((((Below.refl _ w).alloc (Nat.le_refl _) (.cells #[.bool g.re.neg, .string g.re.n, .int .i64 g.re.e, .bool g.im.neg, .string g.im.n, .int .i64 g.im.e, .int .i64 g.exp, .int .i64 g.across, .int .i64 g.down, .int .i64 g.wide, .int .i64 g.high] 31)).alloc (by simp) (.cells #[.int .i64 0, .int .i64 0, .int .i64 0, .int .i64 0] 38)).trans (hk1.mono (by simp; omega)))
  have HS := hide (And.intro q9 q10)
  have HQ := hide (And.intro q7 (And.intro q8 (And.intro q9 q10)))
  have HKA : Hid (∀ o, (w1.alloc o).cell? ⟨w.heap.size, 9, none⟩ = some (.int .i64 g.wide) ∧ (w1.alloc o).cell? ⟨w.heap.size, 10, none⟩ = some (.int .i64 g.high)) := fun o => ⟨(World.cell?_alloc_lt w1 _ ⟨w.heap.size, 9, none⟩ hz1).trans q9, (World.cell?_alloc_lt w1 _ ⟨w.heap.size, 10, none⟩ hz1).trans q10⟩
  have RC : Hid (w1.cell? ⟨w.heap.size + 1, 0, none⟩ = some (.int .i64 0) ∧ w1.cell? ⟨w.heap.size + 1, 1, none⟩ = some (.int .i64 0) ∧ w1.cell? ⟨w.heap.size + 1, 2, none⟩ = some (.int .i64 0) ∧ w1.cell? ⟨w.heap.size + 1, 3, none⟩ = some (.int .i64 0)) := ⟨(hk1.cells (w.heap.size + 1) 0 (by simp)).trans (by simp), (hk1.cells (w.heap.size + 1) 1 (by simp)).trans (by simp), (hk1.cells (w.heap.size + 1) 2 (by simp)).trans (by simp), (hk1.cells (w.heap.size + 1) 3 (by simp)).trans (by simp)⟩
  have hff : ∀ o, w1.frozen? ⟨w.heap.size + 1, o, none⟩ = false := fun o => (hk1.thaw (w.heap.size + 1) o (by simp)).trans (by have h9 := fresh_frozen (w.alloc (.cells #[.bool g.re.neg, .string g.re.n, .int .i64 g.re.e, .bool g.im.neg, .string g.im.n, .int .i64 g.im.e, .int .i64 g.exp, .int .i64 g.across, .int .i64 g.down, .int .i64 g.wide, .int .i64 g.high] 31)) #[.int .i64 0, .int .i64 0, .int .i64 0, .int .i64 0] 38 o; rw [World.size_alloc] at h9; exact h9)
  have RF : Hid (w1.frozen? ⟨w.heap.size + 1, 0, none⟩ = false ∧ w1.frozen? ⟨w.heap.size + 1, 1, none⟩ = false ∧ w1.frozen? ⟨w.heap.size + 1, 2, none⟩ = false ∧ w1.frozen? ⟨w.heap.size + 1, 3, none⟩ = false) := ⟨hff 0, hff 1, hff 2, hff 3⟩
  clear hk1 hff
  go_wp2_with fail
  clear q7 q8 q9 q10
  refine wp_region_L (fun X => X.cell? ⟨w.heap.size, 9, none⟩ = some (.int .i64 g.wide) ∧ X.cell? ⟨w.heap.size, 10, none⟩ = some (.int .i64 g.high)) 14 (by kernel_rfl) ?_ (fun hHeld => ?_)
  · first | exact HS.out | assumption | exact HKA.out _
  refine wpAnyL_take (i := 0) (v := ?_) (some 13) rfl rfl (by kernel_rfl) (by kernel_rfl) (by kernel_rfl) (by kernel_rfl) (fun _ _ _ h => h) (Or.inl ⟨by rfl, ?_⟩) (by assumption) ?_
  rotate_left
  · intro w hSw; (try dsimp only at hSw); go_simp; (try with_reducible rfl)
  try simp only [Act.put, List.setIfInBounds_toArray, List.set_cons_zero, List.set_cons_succ]
  refine wpAnyL_take (i := 1) (v := ?_) (some 14) rfl rfl (by kernel_rfl) (by kernel_rfl) (by kernel_rfl) (by kernel_rfl) (fun _ _ _ h => h) (Or.inl ⟨by rfl, ?_⟩) (by assumption) ?_
  rotate_left
  · intro w hSw; (try dsimp only at hSw); go_simp; (try with_reducible rfl)
  try simp only [Act.put, List.setIfInBounds_toArray, List.set_cons_zero, List.set_cons_succ]
  refine wpAnyL_take (i := 2) (v := ?_) (some 15) rfl rfl (by kernel_rfl) (by kernel_rfl) (by kernel_rfl) (by kernel_rfl) (fun _ _ _ h => h) (Or.inl ⟨by rfl, ?_⟩) (by assumption) ?_
  rotate_left
  · intro w hSw; (try dsimp only at hSw); go_simp; (try with_reducible rfl)
  try simp only [Act.put, List.setIfInBounds_toArray, List.set_cons_zero, List.set_cons_succ]
  refine wpAnyL_take (i := 3) (v := ?_) (some 16) rfl rfl (by kernel_rfl) (by kernel_rfl) (by kernel_rfl) (by kernel_rfl) (fun _ _ _ h => h) (Or.inl ⟨by rfl, ?_⟩) (by assumption) ?_
  rotate_left
  · intro w hSw; (try dsimp only at hSw); go_simp; (try with_reducible rfl)
  try simp only [Act.put, List.setIfInBounds_toArray, List.set_cons_zero, List.set_cons_succ]
  refine wpAnyL_take (i := 4) (v := ?_) (some 17) rfl rfl (by kernel_rfl) (by kernel_rfl) (by kernel_rfl) (by kernel_rfl) (fun _ _ _ h => h) (Or.inl ⟨by rfl, ?_⟩) (by assumption) ?_
  rotate_left
  · intro w hSw; (try dsimp only at hSw); go_simp; (try with_reducible rfl)
  try simp only [Act.put, List.setIfInBounds_toArray, List.set_cons_zero, List.set_cons_succ]
  refine wpAnyL_take (i := 5) (v := ?_) (some 18) rfl rfl (by kernel_rfl) (by kernel_rfl) (by kernel_rfl) (by kernel_rfl) (fun _ _ _ h => h) (Or.inl ⟨by rfl, ?_⟩) (by assumption) ?_
  rotate_left
  · intro w hSw; (try dsimp only at hSw); go_simp; (try with_reducible rfl)
  try simp only [Act.put, List.setIfInBounds_toArray, List.set_cons_zero, List.set_cons_succ]
  refine wpAnyL_take (i := 6) (v := ?_) (some 19) rfl rfl (by kernel_rfl) (by kernel_rfl) (by kernel_rfl) (by kernel_rfl) (fun _ _ _ h => h) (Or.inl ⟨by rfl, ?_⟩) (by assumption) ?_
  rotate_left
  · intro w hSw; (try dsimp only at hSw); go_simp; (try with_reducible rfl)
  try simp only [Act.put, List.setIfInBounds_toArray, List.set_cons_zero, List.set_cons_succ]
  refine wpAnyL_take (i := 7) (v := ?_) (some 20) rfl rfl (by kernel_rfl) (by kernel_rfl) (by kernel_rfl) (by kernel_rfl) (fun _ _ _ h => h) (Or.inl ⟨by rfl, ?_⟩) (by assumption) ?_
  rotate_left
  · intro w hSw; (try dsimp only at hSw); go_simp; (try with_reducible rfl)
  try simp only [Act.put, List.setIfInBounds_toArray, List.set_cons_zero, List.set_cons_succ]
  refine wpAnyL_take (i := 8) (v := ?_) (some 21) rfl rfl (by kernel_rfl) (by kernel_rfl) (by kernel_rfl) (by kernel_rfl) (fun _ _ _ h => h) (Or.inl ⟨by rfl, ?_⟩) (by assumption) ?_
  rotate_left
  · intro w hSw; (try dsimp only at hSw); go_simp; (try with_reducible rfl)
  try simp only [Act.put, List.setIfInBounds_toArray, List.set_cons_zero, List.set_cons_succ]
  refine wpAnyL_take (i := 9) (v := ?_) (some 22) rfl rfl (by kernel_rfl) (by kernel_rfl) (by kernel_rfl) (by kernel_rfl) (fun _ _ _ h => h) (Or.inl ⟨by rfl, ?_⟩) (by assumption) ?_
  rotate_left
  · intro w hSw; (try dsimp only at hSw); go_simp; (try with_reducible rfl)
  try simp only [Act.put, List.setIfInBounds_toArray, List.set_cons_zero, List.set_cons_succ]
  refine wpAnyL_take (i := 10) (v := ?_) (some 23) rfl rfl (by kernel_rfl) (by kernel_rfl) (by kernel_rfl) (by kernel_rfl) (fun _ _ _ h => h) (Or.inl ⟨by rfl, ?_⟩) (by assumption) ?_
  rotate_left
  · intro w hSw; (try dsimp only at hSw); go_simp; (try with_reducible rfl)
  try simp only [Act.put, List.setIfInBounds_toArray, List.set_cons_zero, List.set_cons_succ]
  refine wpAnyL_take (i := 11) (v := ?_) (some 24) rfl rfl (by kernel_rfl) (by kernel_rfl) (by kernel_rfl) (by kernel_rfl) (fun _ _ _ h => h) (Or.inl ⟨by rfl, ?_⟩) (by assumption) ?_
  rotate_left
  · intro w hSw; (try dsimp only at hSw); go_simp; (try with_reducible rfl)
  try simp only [Act.put, List.setIfInBounds_toArray, List.set_cons_zero, List.set_cons_succ]
  refine wpAnyL_take (i := 12) (v := ?_) (some 25) rfl rfl (by kernel_rfl) (by kernel_rfl) (by kernel_rfl) (by kernel_rfl) (fun _ _ _ h => h) (Or.inl ⟨by rfl, ?_⟩) (by assumption) ?_
  rotate_left
  · intro w hSw; (try dsimp only at hSw); go_simp; (try with_reducible rfl)
  try simp only [Act.put, List.setIfInBounds_toArray, List.set_cons_zero, List.set_cons_succ]
  refine wpAnyL_one (i := 13) (by kernel_rfl) rfl (fun K hK => ?_)
  go_simp
  refine hK.out _ _ ?_ (fun hHeld => ?_)
  · first | exact HS.out | assumption | exact HKA.out _
  clear hK K
  try simp only [Act.put, List.setIfInBounds_toArray, List.set_cons_zero, List.set_cons_succ]
  refine wpAnyL_end (by kernel_rfl) rfl (fun K hK => ?_)
  go_simp
  refine hK.out _ _ ?_
  clear hK K
  try simp only [Act.put, List.setIfInBounds_toArray, List.set_cons_zero, List.set_cons_succ]
  refine wpAnyL_done (by kernel_rfl) ?_ _
  obtain ⟨q7, q8, q9, q10⟩ := HQ.out
  obtain ⟨r0, r1, r2, r3⟩ := RC.out
  obtain ⟨f0, f1, f2, f3⟩ := RF.out
  have hz2 := lt_of_cell r0
  clear t1 t2 t3 t4 t5 t6
  go_wp2_with fail
  exact bodyPost_ret (v := .agg #[.int .i64 (R * g.wide), .int .i64 (Q * g.high), .int .i64 (g.across - R * g.wide), .int .i64 (g.down - Q * g.high)]) (by simp [results, Tryz.results59, go_sem, r0, r1, r2, r3, hz2]) rfl ⟨by rw [HX.out, HY.out, HW.out, HH.out, M1.out, M2.out], rect_kept K1.out (by omega)⟩

theorem rect_any (g : GrD) (n : Int) (w : World) (hg : GrBnd g) (hn0 : 0 ≤ n) (hn1 : n < 65536) :
    Calls Tryz.prog 59 #[.agg #[.bool g.re.neg, .string g.re.n, .int .i64 g.re.e, .bool g.im.neg, .string g.im.n, .int .i64 g.im.e, .int .i64 g.exp, .int .i64 g.across, .int .i64 g.down, .int .i64 g.wide, .int .i64 g.high], .int .i64 n] w fun e w' => e = .returned (.agg #[.int .i64 (rectX g n), .int .i64 (rectY g n), .int .i64 (rectW g n), .int .i64 (rectH g n)]) ∧ Kept w w' := by
  by_cases m1 : g.wide ≤ g.across - rectX g n
  · by_cases m2 : g.high ≤ g.down - rectY g n
    · exact rect_aa g n w hg hn0 hn1 m1 m2
    · exact rect_ab g n w hg hn0 hn1 m1 m2
  · by_cases m2 : g.high ≤ g.down - rectY g n
    · exact rect_ba g n w hg hn0 hn1 m1 m2
    · exact rect_bb g n w hg hn0 hn1 m1 m2

end Go.Proofs.YtneakieigiafpaaGreatDoor