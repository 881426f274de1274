/- Balls walked: told, Point, May, IsWhole, Add, Sub, Mul, Hi, Contracts. -/
import Derived.Test.YtneakieigiafpaaGreatDoorCpxW
import Derived.Test.YtneakieigiafpaaGreatDoorQuietT
import Derived.BigQuiet
namespace Go.Proofs.YtneakieigiafpaaGreatDoor
open Go.RowKit
attribute [local go_sem] run_float_arith run_f64bits run_f64from run_neg_float run_store_float run_store_complex

/-- A ball's cells, its value. -/
def Ba.v (b : Ba) : Value := .agg #[.complex .f64 b.c.re b.c.im, .float .f64 b.r]
theorem Ba.ok_iff {b : Ba} (h : b.ok = true) : b.c.fin = true ∧ finB b.r = true ∧ b.r < SG := by
  simpa [Ba.ok, and_assoc] using h
set_option maxRecDepth 100000 in
set_option maxHeartbeats 400000 in
theorem bfinite_any (z : Co) (h : z.fin = true) (w : World) : Calls Tryz.prog 163 #[.complex .f64 z.re z.im] w fun e w' => e = .returned (.bool true) ∧ w = w' := by
  have C1 := hide (fun W => kind_any z h W)
  clear h
  obtain ⟨x, y⟩ := z
  dsimp only at C1 ⊢
  go_enter Tryz.func163, Tryz.ntmps163
  go_wp2_with (go_at_call 85; refine (C1.out _).mono ?_; rintro e w1 ⟨rfl, rfl⟩)
  go_ret
  exact ⟨rfl, rfl⟩
set_option maxRecDepth 100000 in
set_option maxHeartbeats 400000 in
theorem told_any (z : Co) (r : Nat) (h : (z.fin && finB r) = true) (w : World) : Calls Tryz.prog 147 #[.complex .f64 z.re z.im, .float .f64 r] w fun e w' => e = .returned (Ba.v ⟨z, r⟩) ∧ Kept w w' := by
  rw [Bool.and_eq_true] at h
  have C1 := hide (fun W => bfinite_any z h.1 W)
  have C2 := hide (fun W => finite_any r h.2 W)
  clear h
  obtain ⟨x, y⟩ := z
  unfold Ba.v
  dsimp only at C1 ⊢
  go_enter Tryz.func147, Tryz.ntmps147
  go_wp2
  go_step3
  go_wp2_with (first
    | (go_at_call 163; refine (C1.out _).mono ?_; rintro e w1 ⟨rfl, rfl⟩)
    | (go_at_call 164; refine (C2.out _).mono ?_; rintro e w1 ⟨rfl, rfl⟩))
  rw [Exit.noGoto_ret]
  refine bodyPost_ret (v := .agg #[.complex .f64 x y, .float .f64 r]) (by simp [results, Tryz.results147, go_sem]) rfl ⟨rfl, (Below.refl _ w).alloc (Nat.le_refl _) _⟩
set_option maxRecDepth 100000 in
set_option maxHeartbeats 400000 in
theorem point_any (z : Co) (b : Ba) (h : pointO z = some b) (w : World) : Calls Tryz.prog 75 #[.complex .f64 z.re z.im] w fun e w' => e = .returned b.v ∧ Kept w w' := by
  unfold pointO toldO at h
  split at h
  · rename_i hf
    injection h with h
    have C1 := hide (fun W => told_any z 0 hf W)
    rw [h] at C1
    clear h hf
    obtain ⟨x, y⟩ := z
    obtain ⟨⟨p, q⟩, r⟩ := b
    unfold Ba.v at *
    dsimp only at C1 ⊢
    go_enter Tryz.func75, Tryz.ntmps75
    go_wp2_with fail
    refine (C1.out _).mono ?_
    rintro e w1 ⟨rfl, hk1⟩
    have c0 := (hk1.cells w.heap.size 0 (by simp))
    have c1 := (hk1.cells w.heap.size 1 (by simp))
    have f0 := (hk1.thaw w.heap.size 0 (by simp))
    have f1 := (hk1.thaw w.heap.size 1 (by simp))
    simp at c0 c1 f0 f1
    have hz5 := lt_of_cell c0
    have K1 := hide (((Below.refl _ w).alloc (Nat.le_refl _) (.cells #[.complex .f64 0 0, .float .f64 0] 109)).trans (hk1.mono (by simp)))
    clear hk1
    go_wp2_with fail
    refine bodyPost_ret (v := .agg #[.complex .f64 p q, .float .f64 r]) (by simp [results, Tryz.results75, go_sem, c0, c1, hz5]) rfl ⟨rfl, (K1.out.setCell (Nat.le_refl _) _).setCell (Nat.le_refl _) _⟩
  · cases h
set_option maxRecDepth 100000 in
set_option maxHeartbeats 400000 in
theorem signbit_any (x : Nat) (h : x < SG) (w : World) : Calls Tryz.prog 165 #[.float .f64 x] w fun e w' => e = .returned (.bool false) ∧ w = w' := by
  have hW : wrap64 (x : Int) = x := by unfold SG at h; unfold wrap64; omega
  have hD : decide ((x : Int) < 0) = false := by simp
  clear h
  go_enter Tryz.func165, Tryz.ntmps165
  go_wp2
  go_ret
  exact ⟨rfl, rfl⟩
set_option maxRecDepth 100000 in
set_option maxHeartbeats 400000 in
theorem may_any (b : Ba) (h : b.ok = true) (w : World) : Calls Tryz.prog 88 #[b.v] w fun e w' => e = .returned (.bool true) ∧ Kept w w' := by
  obtain ⟨h1, h2, h3⟩ := Ba.ok_iff h
  have C1 := hide (fun W => isinf_any b.r W)
  rw [show posInf b.r = false from (finB_iff h2).inf] at C1
  have C2 := hide (fun W => bfinite_any b.c h1 W)
  have C3 := hide (fun W => finite_any b.r h2 W)
  have C4 := hide (fun W => signbit_any b.r h3 W)
  clear h h1 h2 h3
  obtain ⟨⟨x, y⟩, r⟩ := b
  unfold Ba.v
  dsimp only at C1 C2 C3 C4 ⊢
  go_enter Tryz.func88, Tryz.ntmps88
  go_wp2_with fail
  refine (C1.out _).mono ?_
  rintro e w1 ⟨rfl, rfl⟩
  go_wp2_with fail
  refine (C2.out _).mono ?_
  rintro e w1 ⟨rfl, rfl⟩
  go_wp2_with fail
  refine (C3.out _).mono ?_
  rintro e w1 ⟨rfl, rfl⟩
  go_wp2_with fail
  refine (C4.out _).mono ?_
  rintro e w1 ⟨rfl, rfl⟩
  go_wp2_with fail
  go_ret
  exact ⟨rfl, (Below.refl _ w).alloc (Nat.le_refl _) _⟩
set_option maxRecDepth 100000 in
set_option maxHeartbeats 400000 in
theorem isWhole_any (b : Ba) (h : b.ok = true) (w : World) : Calls Tryz.prog 92 #[b.v] w fun e w' => e = .returned (.bool false) ∧ Kept w w' := by
  have C1 := hide (fun W => isinf_any b.r W)
  rw [show posInf b.r = false from (finB_iff (Ba.ok_iff h).2.1).inf] at C1
  have C2 := hide (fun W => may_any b h W)
  clear h
  obtain ⟨⟨x, y⟩, r⟩ := b
  unfold Ba.v at *
  dsimp only at C1 C2 ⊢
  go_enter Tryz.func92, Tryz.ntmps92
  go_wp2_with fail
  refine (C2.out _).mono ?_
  rintro e w1 ⟨rfl, hk1⟩
  have c1 := (hk1.cells w.heap.size 1 (by simp))
  simp at c1
  have hz5 := lt_of_cell c1
  have K1 := hide (((Below.refl _ w).alloc (Nat.le_refl _) (.cells #[.complex .f64 x y, .float .f64 r] 109)).trans (hk1.mono (by simp)))
  clear hk1
  go_wp2_with fail
  refine (C1.out _).mono ?_
  rintro e w1 ⟨rfl, rfl⟩
  go_wp2_with fail
  go_ret
  exact ⟨rfl, K1.out⟩
theorem told_of {z : Co} {r : Nat} {b : Ba} (h : toldO z r = some b) (w : World) : Calls Tryz.prog 147 #[.complex .f64 z.re z.im, .float .f64 r] w fun e w' => e = .returned b.v ∧ Kept w w' := by
  unfold toldO at h
  split at h
  · rename_i hf
    injection h with h
    subst h
    exact told_any z r hf w
  · cases h
theorem quiet_in {C : World → Prop} {P : Program} {f : FuncId} {args : Array Value} {v : Value} {w : World} (hw : C w) (h : Calls P f args w fun e w' => e = .returned v ∧ w = w') : Calls P f args w fun e w' => e = .returned v ∧ C w' :=
  h.mono (by rintro e w' ⟨rfl, rfl⟩; exact ⟨rfl, hw⟩)
theorem kept_in {C : World → Prop} {P : Program} {f : FuncId} {args : Array Value} {v : Value} {w : World} (h : Calls P f args w fun e w' => e = .returned v ∧ Kept w w') (hC : ∀ w', Kept w w' → C w') : Calls P f args w fun e w' => e = .returned v ∧ C w' :=
  h.mono (by rintro e w' ⟨rfl, hk⟩; exact ⟨rfl, hC _ hk⟩)
theorem kept_drew (w : World) : Kept w w.drew := (Below.refl _ w).drew
/-- Two balls and a third in boxes of their own, from cell n on. -/
structure Box3 (w0 : World) (n : Nat) (a b c : Ba) (W : World) : Prop where
  a0 : W.cell? ⟨n, 0, none⟩ = some (.complex .f64 a.c.re a.c.im)
  a1 : W.cell? ⟨n, 1, none⟩ = some (.float .f64 a.r)
  b0 : W.cell? ⟨n + 1, 0, none⟩ = some (.complex .f64 b.c.re b.c.im)
  b1 : W.cell? ⟨n + 1, 1, none⟩ = some (.float .f64 b.r)
  c0 : W.cell? ⟨n + 2, 0, none⟩ = some (.complex .f64 c.c.re c.c.im)
  c1 : W.cell? ⟨n + 2, 1, none⟩ = some (.float .f64 c.r)
  d0 : W.frozen? ⟨n + 2, 0, none⟩ = false
  d1 : W.frozen? ⟨n + 2, 1, none⟩ = false
  size : n + 2 < W.heap.size
  kept : Below n w0 W
theorem Box3.on {w0 W W' : World} {n : Nat} {a b c : Ba} (h : Box3 w0 n a b c W) (k : Kept W W') : Box3 w0 n a b c W' := by
  have hs := h.size
  refine ⟨?_, ?_, ?_, ?_, ?_, ?_, ?_, ?_, Nat.lt_of_lt_of_le hs k.size, h.kept.trans (k.mono (by omega))⟩
  · rw [k.cells _ _ (by omega)]; exact h.a0
  · rw [k.cells _ _ (by omega)]; exact h.a1
  · rw [k.cells _ _ (by omega)]; exact h.b0
  · rw [k.cells _ _ (by omega)]; exact h.b1
  · rw [k.cells _ _ (by omega)]; exact h.c0
  · rw [k.cells _ _ (by omega)]; exact h.c1
  · rw [k.thaw _ _ (by omega)]; exact h.d0
  · rw [k.thaw _ _ (by omega)]; exact h.d1
theorem Box3.mk3 (w : World) (a b c : Ba) (t : TypeId) : Box3 w w.heap.size a b c (((w.alloc (.cells #[.complex .f64 a.c.re a.c.im, .float .f64 a.r] t)).alloc (.cells #[.complex .f64 b.c.re b.c.im, .float .f64 b.r] t)).alloc (.cells #[.complex .f64 c.c.re c.c.im, .float .f64 c.r] t)) := by
  refine ⟨?_, ?_, ?_, ?_, ?_, ?_, ?_, ?_, ?_, ?_⟩
  · go_simp
  · go_simp
  · go_simp
  · go_simp
  · go_simp
  · go_simp
  · go_simp
  · go_simp
  · go_simp
  · exact (((Below.refl _ w).alloc (Nat.le_refl _) _).alloc (by simp) _).alloc (by simp; omega) _
set_option maxRecDepth 100000 in
set_option maxHeartbeats 1600000 in
theorem badd_any (a b c : Ba) (h : baddO a b = some c) (w : World) : Calls Tryz.prog 295 #[a.v, b.v] w fun e w' => e = .returned c.v ∧ Kept w w' := by
  unfold baddO at h
  split at h
  · rename_i hf
    rw [Bool.and_eq_true] at hf
    obtain ⟨z, hz, g0⟩ := Option.bind_eq_some_iff.1 h
    obtain ⟨x, hx, g1⟩ := Option.bind_eq_some_iff.1 g0
    obtain ⟨y, hy, g2⟩ := Option.bind_eq_some_iff.1 g1
    obtain ⟨r, hr, g3⟩ := Option.bind_eq_some_iff.1 g2
    have C1 := hide (fun W => isWhole_any a hf.1 W)
    have C2 := hide (fun W => isWhole_any b hf.2 W)
    have C3 := hide (fun W => cadd_any a.c b.c z hz W)
    have C4 := hide (fun W => plus_any a.r b.r x hx W)
    have C5 := hide (fun W => lostBoth_any a.c b.c y hy W)
    have C6 := hide (fun W => plus_any x y r hr W)
    have C7 := hide (fun W => told_of g3 W)
    clear h hf g3 hr g2 hy g1 hx g0 hz
    obtain ⟨⟨a1, a2⟩, ar⟩ := a
    obtain ⟨⟨b1, b2⟩, br⟩ := b
    obtain ⟨⟨p, q⟩, t⟩ := c
    obtain ⟨z1, z2⟩ := z
    unfold Ba.v at *
    dsimp only at C1 C2 C3 C4 C5 C6 C7 ⊢
    go_enter Tryz.func295, Tryz.ntmps295
    go_wp2_with fail
    refine (C1.out _).mono ?_
    rintro e w1 ⟨rfl, hk1⟩
    have B1 : Box3 w w.heap.size ⟨⟨a1, a2⟩, ar⟩ ⟨⟨b1, b2⟩, br⟩ ⟨⟨0, 0⟩, 0⟩ w1 := Box3.on (Box3.mk3 w ⟨⟨a1, a2⟩, ar⟩ ⟨⟨b1, b2⟩, br⟩ ⟨⟨0, 0⟩, 0⟩ 109) hk1
    clear hk1
    have e2 := B1.b0
    have e3 := B1.b1
    have e8 := B1.size
    dsimp only at e2 e3
    have HB := hide B1
    clear B1
    go_wp2_with fail
    refine (C2.out _).mono ?_
    rintro e w2 ⟨rfl, hk2⟩
    have HC := hide (HB.out.on hk2)
    clear hk2 HB e2 e3 e8
    go_wp2_with fail
    refine wp_region_T (Box3 w w.heap.size ⟨⟨a1, a2⟩, ar⟩ ⟨⟨b1, b2⟩, br⟩ ⟨⟨0, 0⟩, 0⟩) 17 (by kernel_rfl) (by kernel_rfl) ?_ ?_
    · exact HC.out.on (kept_drew _)
    dsimp only [List.take]
    refine wpQuiet_take (v := ?_) (some 12) rfl (by kernel_rfl) (fun wr hw => ?_) ?_
    rotate_left
    · (have e0 := hw.a0; have e1 := hw.a1; have e2 := hw.b0; have e3 := hw.b1; have e4 := hw.c0; have e5 := hw.c1; have e6 := hw.d0; have e7 := hw.d1; have e8 := hw.size; dsimp only at e0 e1 e2 e3 e4 e5); go_simp; (try with_reducible rfl)
    try simp only [Act.put, List.setIfInBounds_toArray, List.set_cons_zero, List.set_cons_succ]
    refine wpQuiet_take (v := ?_) (some 13) rfl (by kernel_rfl) (fun wr hw => ?_) ?_
    rotate_left
    · (have e0 := hw.a0; have e1 := hw.a1; have e2 := hw.b0; have e3 := hw.b1; have e4 := hw.c0; have e5 := hw.c1; have e6 := hw.d0; have e7 := hw.d1; have e8 := hw.size; dsimp only at e0 e1 e2 e3 e4 e5); go_simp; (try with_reducible rfl)
    try simp only [Act.put, List.setIfInBounds_toArray, List.set_cons_zero, List.set_cons_succ]
    refine wpQuiet_take (v := ?_) (some 14) rfl (by kernel_rfl) (fun wr hw => ?_) ?_
    rotate_left
    · (have e0 := hw.a0; have e1 := hw.a1; have e2 := hw.b0; have e3 := hw.b1; have e4 := hw.c0; have e5 := hw.c1; have e6 := hw.d0; have e7 := hw.d1; have e8 := hw.size; dsimp only at e0 e1 e2 e3 e4 e5); go_simp; (try with_reducible rfl)
    try simp only [Act.put, List.setIfInBounds_toArray, List.set_cons_zero, List.set_cons_succ]
    refine wpQuiet_take (v := ?_) (some 15) rfl (by kernel_rfl) (fun wr hw => ?_) ?_
    rotate_left
    · (have e0 := hw.a0; have e1 := hw.a1; have e2 := hw.b0; have e3 := hw.b1; have e4 := hw.c0; have e5 := hw.c1; have e6 := hw.d0; have e7 := hw.d1; have e8 := hw.size; dsimp only at e0 e1 e2 e3 e4 e5); go_simp; (try with_reducible rfl)
    try simp only [Act.put, List.setIfInBounds_toArray, List.set_cons_zero, List.set_cons_succ]
    refine wpQuiet_call (v := ?_) (f := ?_) (args := ?_) (some 16) rfl (by kernel_rfl) (fun wr hw => ?_) (fun wr hw => ?_) ?_
    rotate_left 3
    · (have e0 := hw.a0; have e1 := hw.a1; have e2 := hw.b0; have e3 := hw.b1; have e4 := hw.c0; have e5 := hw.c1; have e6 := hw.d0; have e7 := hw.d1; have e8 := hw.size; dsimp only at e0 e1 e2 e3 e4 e5); go_simp; refine ⟨?_, ?_⟩ <;> with_reducible rfl
    · refine (C3.out wr).mono ?_; rintro e w' ⟨rfl, rfl⟩; refine ⟨?_, hw⟩; with_reducible rfl
    try simp only [Act.put, List.setIfInBounds_toArray, List.set_cons_zero, List.set_cons_succ]
    refine wpQuiet_take (v := ?_) (some 17) rfl (by kernel_rfl) (fun wr hw => ?_) ?_
    rotate_left
    · (have e0 := hw.a0; have e1 := hw.a1; have e2 := hw.b0; have e3 := hw.b1; have e4 := hw.c0; have e5 := hw.c1; have e6 := hw.d0; have e7 := hw.d1; have e8 := hw.size; dsimp only at e0 e1 e2 e3 e4 e5); go_simp; (try with_reducible rfl)
    try simp only [Act.put, List.setIfInBounds_toArray, List.set_cons_zero, List.set_cons_succ]
    refine wpQuiet_take (v := ?_) (some 18) rfl (by kernel_rfl) (fun wr hw => ?_) ?_
    rotate_left
    · (have e0 := hw.a0; have e1 := hw.a1; have e2 := hw.b0; have e3 := hw.b1; have e4 := hw.c0; have e5 := hw.c1; have e6 := hw.d0; have e7 := hw.d1; have e8 := hw.size; dsimp only at e0 e1 e2 e3 e4 e5); go_simp; (try with_reducible rfl)
    try simp only [Act.put, List.setIfInBounds_toArray, List.set_cons_zero, List.set_cons_succ]
    refine wpQuiet_take (v := ?_) (some 19) rfl (by kernel_rfl) (fun wr hw => ?_) ?_
    rotate_left
    · (have e0 := hw.a0; have e1 := hw.a1; have e2 := hw.b0; have e3 := hw.b1; have e4 := hw.c0; have e5 := hw.c1; have e6 := hw.d0; have e7 := hw.d1; have e8 := hw.size; dsimp only at e0 e1 e2 e3 e4 e5); go_simp; (try with_reducible rfl)
    try simp only [Act.put, List.setIfInBounds_toArray, List.set_cons_zero, List.set_cons_succ]
    refine wpQuiet_take (v := ?_) (some 20) rfl (by kernel_rfl) (fun wr hw => ?_) ?_
    rotate_left
    · (have e0 := hw.a0; have e1 := hw.a1; have e2 := hw.b0; have e3 := hw.b1; have e4 := hw.c0; have e5 := hw.c1; have e6 := hw.d0; have e7 := hw.d1; have e8 := hw.size; dsimp only at e0 e1 e2 e3 e4 e5); go_simp; (try with_reducible rfl)
    try simp only [Act.put, List.setIfInBounds_toArray, List.set_cons_zero, List.set_cons_succ]
    refine wpQuiet_call (v := ?_) (f := ?_) (args := ?_) (some 21) rfl (by kernel_rfl) (fun wr hw => ?_) (fun wr hw => ?_) ?_
    rotate_left 3
    · (have e0 := hw.a0; have e1 := hw.a1; have e2 := hw.b0; have e3 := hw.b1; have e4 := hw.c0; have e5 := hw.c1; have e6 := hw.d0; have e7 := hw.d1; have e8 := hw.size; dsimp only at e0 e1 e2 e3 e4 e5); go_simp; refine ⟨?_, ?_⟩ <;> with_reducible rfl
    · refine (C4.out wr).mono ?_; rintro e w' ⟨rfl, rfl⟩; refine ⟨?_, hw⟩; with_reducible rfl
    try simp only [Act.put, List.setIfInBounds_toArray, List.set_cons_zero, List.set_cons_succ]
    refine wpQuiet_take (v := ?_) (some 22) rfl (by kernel_rfl) (fun wr hw => ?_) ?_
    rotate_left
    · (have e0 := hw.a0; have e1 := hw.a1; have e2 := hw.b0; have e3 := hw.b1; have e4 := hw.c0; have e5 := hw.c1; have e6 := hw.d0; have e7 := hw.d1; have e8 := hw.size; dsimp only at e0 e1 e2 e3 e4 e5); go_simp; (try with_reducible rfl)
    try simp only [Act.put, List.setIfInBounds_toArray, List.set_cons_zero, List.set_cons_succ]
    refine wpQuiet_take (v := ?_) (some 23) rfl (by kernel_rfl) (fun wr hw => ?_) ?_
    rotate_left
    · (have e0 := hw.a0; have e1 := hw.a1; have e2 := hw.b0; have e3 := hw.b1; have e4 := hw.c0; have e5 := hw.c1; have e6 := hw.d0; have e7 := hw.d1; have e8 := hw.size; dsimp only at e0 e1 e2 e3 e4 e5); go_simp; (try with_reducible rfl)
    try simp only [Act.put, List.setIfInBounds_toArray, List.set_cons_zero, List.set_cons_succ]
    refine wpQuiet_take (v := ?_) (some 24) rfl (by kernel_rfl) (fun wr hw => ?_) ?_
    rotate_left
    · (have e0 := hw.a0; have e1 := hw.a1; have e2 := hw.b0; have e3 := hw.b1; have e4 := hw.c0; have e5 := hw.c1; have e6 := hw.d0; have e7 := hw.d1; have e8 := hw.size; dsimp only at e0 e1 e2 e3 e4 e5); go_simp; (try with_reducible rfl)
    try simp only [Act.put, List.setIfInBounds_toArray, List.set_cons_zero, List.set_cons_succ]
    refine wpQuiet_take (v := ?_) (some 25) rfl (by kernel_rfl) (fun wr hw => ?_) ?_
    rotate_left
    · (have e0 := hw.a0; have e1 := hw.a1; have e2 := hw.b0; have e3 := hw.b1; have e4 := hw.c0; have e5 := hw.c1; have e6 := hw.d0; have e7 := hw.d1; have e8 := hw.size; dsimp only at e0 e1 e2 e3 e4 e5); go_simp; (try with_reducible rfl)
    try simp only [Act.put, List.setIfInBounds_toArray, List.set_cons_zero, List.set_cons_succ]
    refine wpQuiet_call (v := ?_) (f := ?_) (args := ?_) (some 26) rfl (by kernel_rfl) (fun wr hw => ?_) (fun wr hw => ?_) ?_
    rotate_left 3
    · (have e0 := hw.a0; have e1 := hw.a1; have e2 := hw.b0; have e3 := hw.b1; have e4 := hw.c0; have e5 := hw.c1; have e6 := hw.d0; have e7 := hw.d1; have e8 := hw.size; dsimp only at e0 e1 e2 e3 e4 e5); go_simp; refine ⟨?_, ?_⟩ <;> with_reducible rfl
    · refine (C5.out wr).mono ?_; rintro e w' ⟨rfl, rfl⟩; refine ⟨?_, hw⟩; with_reducible rfl
    try simp only [Act.put, List.setIfInBounds_toArray, List.set_cons_zero, List.set_cons_succ]
    refine wpQuiet_call (v := ?_) (f := ?_) (args := ?_) (some 27) rfl (by kernel_rfl) (fun wr hw => ?_) (fun wr hw => ?_) ?_
    rotate_left 3
    · (have e0 := hw.a0; have e1 := hw.a1; have e2 := hw.b0; have e3 := hw.b1; have e4 := hw.c0; have e5 := hw.c1; have e6 := hw.d0; have e7 := hw.d1; have e8 := hw.size; dsimp only at e0 e1 e2 e3 e4 e5); go_simp; refine ⟨?_, ?_⟩ <;> with_reducible rfl
    · refine (C6.out wr).mono ?_; rintro e w' ⟨rfl, rfl⟩; refine ⟨?_, hw⟩; with_reducible rfl
    try simp only [Act.put, List.setIfInBounds_toArray, List.set_cons_zero, List.set_cons_succ]
    refine wpQuiet_call (v := ?_) (f := ?_) (args := ?_) (some 28) rfl (by kernel_rfl) (fun wr hw => ?_) (fun wr hw => ?_) ?_
    rotate_left 3
    · (have e0 := hw.a0; have e1 := hw.a1; have e2 := hw.b0; have e3 := hw.b1; have e4 := hw.c0; have e5 := hw.c1; have e6 := hw.d0; have e7 := hw.d1; have e8 := hw.size; dsimp only at e0 e1 e2 e3 e4 e5); go_simp; refine ⟨?_, ?_⟩ <;> with_reducible rfl
    · refine (C7.out wr).mono ?_; rintro e w' ⟨rfl, hk⟩; refine ⟨?_, hw.on hk⟩; with_reducible rfl
    try simp only [Act.put, List.setIfInBounds_toArray, List.set_cons_zero, List.set_cons_succ]
    refine wpQuiet_nil ?_
    intro wq hq
    refine wpOp_last rfl (fun K hK => ?_)
    (have e0 := hq.a0; have e1 := hq.a1; have e2 := hq.b0; have e3 := hq.b1; have e4 := hq.c0; have e5 := hq.c1; have e6 := hq.d0; have e7 := hq.d1; have e8 := hq.size; dsimp only at e0 e1 e2 e3 e4 e5)
    go_simp
    refine hK.out _ _ ?_
    clear hK K
    try simp only [Act.put, List.setIfInBounds_toArray, List.set_cons_zero, List.set_cons_succ]
    go_wp2_with fail
    refine bodyPost_ret (v := .agg #[.complex .f64 p q, .float .f64 t]) (by simp [results, Tryz.results295, go_sem, e4, e5, e8]) rfl ⟨rfl, (hq.kept.setCell ?_ _).setCell ?_ _⟩
    · dsimp only; omega
    · dsimp only; omega
  · cases h
set_option maxRecDepth 100000 in
set_option maxHeartbeats 1600000 in
theorem bsub_any (a b c : Ba) (h : bsubO a b = some c) (w : World) : Calls Tryz.prog 169 #[a.v, b.v] w fun e w' => e = .returned c.v ∧ Kept w w' := by
  unfold bsubO at h
  split at h
  · rename_i hf
    rw [Bool.and_eq_true] at hf
    obtain ⟨z, hz, g0⟩ := Option.bind_eq_some_iff.1 h
    obtain ⟨x, hx, g1⟩ := Option.bind_eq_some_iff.1 g0
    obtain ⟨y, hy, g2⟩ := Option.bind_eq_some_iff.1 g1
    obtain ⟨r, hr, g3⟩ := Option.bind_eq_some_iff.1 g2
    have C1 := hide (fun W => isWhole_any a hf.1 W)
    have C2 := hide (fun W => isWhole_any b hf.2 W)
    have C3 := hide (fun W => csub_any a.c b.c z hz W)
    have C4 := hide (fun W => plus_any a.r b.r x hx W)
    have C5 := hide (fun W => cneg_any b.c W)
    have C6 := hide (fun W => lostBoth_any a.c (cnegN b.c) y hy W)
    have C7 := hide (fun W => plus_any x y r hr W)
    have C8 := hide (fun W => told_of g3 W)
    clear h hf g3 hr g2 hy g1 hx g0 hz
    obtain ⟨⟨a1, a2⟩, ar⟩ := a
    obtain ⟨⟨b1, b2⟩, br⟩ := b
    obtain ⟨⟨p, q⟩, t⟩ := c
    obtain ⟨z1, z2⟩ := z
    unfold Ba.v at *
    dsimp only at C1 C2 C3 C4 C5 C6 C7 C8 ⊢
    go_enter Tryz.func169, Tryz.ntmps169
    go_wp2_with fail
    refine (C1.out _).mono ?_
    rintro e w1 ⟨rfl, hk1⟩
    have B1 : Box3 w w.heap.size ⟨⟨a1, a2⟩, ar⟩ ⟨⟨b1, b2⟩, br⟩ ⟨⟨0, 0⟩, 0⟩ w1 := Box3.on (Box3.mk3 w ⟨⟨a1, a2⟩, ar⟩ ⟨⟨b1, b2⟩, br⟩ ⟨⟨0, 0⟩, 0⟩ 109) hk1
    clear hk1
    have e2 := B1.b0
    have e3 := B1.b1
    have e8 := B1.size
    dsimp only at e2 e3
    have HB := hide B1
    clear B1
    go_wp2_with fail
    refine (C2.out _).mono ?_
    rintro e w2 ⟨rfl, hk2⟩
    have HC := hide (HB.out.on hk2)
    clear hk2 HB e2 e3 e8
    go_wp2_with fail
    refine wp_region_T (Box3 w w.heap.size ⟨⟨a1, a2⟩, ar⟩ ⟨⟨b1, b2⟩, br⟩ ⟨⟨0, 0⟩, 0⟩) 18 (by kernel_rfl) (by kernel_rfl) ?_ ?_
    · exact HC.out.on (kept_drew _)
    dsimp only [List.take]
    refine wpQuiet_take (v := ?_) (some 12) rfl (by kernel_rfl) (fun wr hw => ?_) ?_
    rotate_left
    · (have e0 := hw.a0; have e1 := hw.a1; have e2 := hw.b0; have e3 := hw.b1; have e4 := hw.c0; have e5 := hw.c1; have e6 := hw.d0; have e7 := hw.d1; have e8 := hw.size; dsimp only at e0 e1 e2 e3 e4 e5); go_simp; (try with_reducible rfl)
    try simp only [Act.put, List.setIfInBounds_toArray, List.set_cons_zero, List.set_cons_succ]
    refine wpQuiet_take (v := ?_) (some 13) rfl (by kernel_rfl) (fun wr hw => ?_) ?_
    rotate_left
    · (have e0 := hw.a0; have e1 := hw.a1; have e2 := hw.b0; have e3 := hw.b1; have e4 := hw.c0; have e5 := hw.c1; have e6 := hw.d0; have e7 := hw.d1; have e8 := hw.size; dsimp only at e0 e1 e2 e3 e4 e5); go_simp; (try with_reducible rfl)
    try simp only [Act.put, List.setIfInBounds_toArray, List.set_cons_zero, List.set_cons_succ]
    refine wpQuiet_take (v := ?_) (some 14) rfl (by kernel_rfl) (fun wr hw => ?_) ?_
    rotate_left
    · (have e0 := hw.a0; have e1 := hw.a1; have e2 := hw.b0; have e3 := hw.b1; have e4 := hw.c0; have e5 := hw.c1; have e6 := hw.d0; have e7 := hw.d1; have e8 := hw.size; dsimp only at e0 e1 e2 e3 e4 e5); go_simp; (try with_reducible rfl)
    try simp only [Act.put, List.setIfInBounds_toArray, List.set_cons_zero, List.set_cons_succ]
    refine wpQuiet_take (v := ?_) (some 15) rfl (by kernel_rfl) (fun wr hw => ?_) ?_
    rotate_left
    · (have e0 := hw.a0; have e1 := hw.a1; have e2 := hw.b0; have e3 := hw.b1; have e4 := hw.c0; have e5 := hw.c1; have e6 := hw.d0; have e7 := hw.d1; have e8 := hw.size; dsimp only at e0 e1 e2 e3 e4 e5); go_simp; (try with_reducible rfl)
    try simp only [Act.put, List.setIfInBounds_toArray, List.set_cons_zero, List.set_cons_succ]
    refine wpQuiet_call (v := ?_) (f := ?_) (args := ?_) (some 16) rfl (by kernel_rfl) (fun wr hw => ?_) (fun wr hw => ?_) ?_
    rotate_left 3
    · (have e0 := hw.a0; have e1 := hw.a1; have e2 := hw.b0; have e3 := hw.b1; have e4 := hw.c0; have e5 := hw.c1; have e6 := hw.d0; have e7 := hw.d1; have e8 := hw.size; dsimp only at e0 e1 e2 e3 e4 e5); go_simp; refine ⟨?_, ?_⟩ <;> with_reducible rfl
    · refine (C3.out wr).mono ?_; rintro e w' ⟨rfl, rfl⟩; refine ⟨?_, hw⟩; with_reducible rfl
    try simp only [Act.put, List.setIfInBounds_toArray, List.set_cons_zero, List.set_cons_succ]
    refine wpQuiet_take (v := ?_) (some 17) rfl (by kernel_rfl) (fun wr hw => ?_) ?_
    rotate_left
    · (have e0 := hw.a0; have e1 := hw.a1; have e2 := hw.b0; have e3 := hw.b1; have e4 := hw.c0; have e5 := hw.c1; have e6 := hw.d0; have e7 := hw.d1; have e8 := hw.size; dsimp only at e0 e1 e2 e3 e4 e5); go_simp; (try with_reducible rfl)
    try simp only [Act.put, List.setIfInBounds_toArray, List.set_cons_zero, List.set_cons_succ]
    refine wpQuiet_take (v := ?_) (some 18) rfl (by kernel_rfl) (fun wr hw => ?_) ?_
    rotate_left
    · (have e0 := hw.a0; have e1 := hw.a1; have e2 := hw.b0; have e3 := hw.b1; have e4 := hw.c0; have e5 := hw.c1; have e6 := hw.d0; have e7 := hw.d1; have e8 := hw.size; dsimp only at e0 e1 e2 e3 e4 e5); go_simp; (try with_reducible rfl)
    try simp only [Act.put, List.setIfInBounds_toArray, List.set_cons_zero, List.set_cons_succ]
    refine wpQuiet_take (v := ?_) (some 19) rfl (by kernel_rfl) (fun wr hw => ?_) ?_
    rotate_left
    · (have e0 := hw.a0; have e1 := hw.a1; have e2 := hw.b0; have e3 := hw.b1; have e4 := hw.c0; have e5 := hw.c1; have e6 := hw.d0; have e7 := hw.d1; have e8 := hw.size; dsimp only at e0 e1 e2 e3 e4 e5); go_simp; (try with_reducible rfl)
    try simp only [Act.put, List.setIfInBounds_toArray, List.set_cons_zero, List.set_cons_succ]
    refine wpQuiet_take (v := ?_) (some 20) rfl (by kernel_rfl) (fun wr hw => ?_) ?_
    rotate_left
    · (have e0 := hw.a0; have e1 := hw.a1; have e2 := hw.b0; have e3 := hw.b1; have e4 := hw.c0; have e5 := hw.c1; have e6 := hw.d0; have e7 := hw.d1; have e8 := hw.size; dsimp only at e0 e1 e2 e3 e4 e5); go_simp; (try with_reducible rfl)
    try simp only [Act.put, List.setIfInBounds_toArray, List.set_cons_zero, List.set_cons_succ]
    refine wpQuiet_call (v := ?_) (f := ?_) (args := ?_) (some 21) rfl (by kernel_rfl) (fun wr hw => ?_) (fun wr hw => ?_) ?_
    rotate_left 3
    · (have e0 := hw.a0; have e1 := hw.a1; have e2 := hw.b0; have e3 := hw.b1; have e4 := hw.c0; have e5 := hw.c1; have e6 := hw.d0; have e7 := hw.d1; have e8 := hw.size; dsimp only at e0 e1 e2 e3 e4 e5); go_simp; refine ⟨?_, ?_⟩ <;> with_reducible rfl
    · refine (C4.out wr).mono ?_; rintro e w' ⟨rfl, rfl⟩; refine ⟨?_, hw⟩; with_reducible rfl
    try simp only [Act.put, List.setIfInBounds_toArray, List.set_cons_zero, List.set_cons_succ]
    refine wpQuiet_take (v := ?_) (some 22) rfl (by kernel_rfl) (fun wr hw => ?_) ?_
    rotate_left
    · (have e0 := hw.a0; have e1 := hw.a1; have e2 := hw.b0; have e3 := hw.b1; have e4 := hw.c0; have e5 := hw.c1; have e6 := hw.d0; have e7 := hw.d1; have e8 := hw.size; dsimp only at e0 e1 e2 e3 e4 e5); go_simp; (try with_reducible rfl)
    try simp only [Act.put, List.setIfInBounds_toArray, List.set_cons_zero, List.set_cons_succ]
    refine wpQuiet_take (v := ?_) (some 23) rfl (by kernel_rfl) (fun wr hw => ?_) ?_
    rotate_left
    · (have e0 := hw.a0; have e1 := hw.a1; have e2 := hw.b0; have e3 := hw.b1; have e4 := hw.c0; have e5 := hw.c1; have e6 := hw.d0; have e7 := hw.d1; have e8 := hw.size; dsimp only at e0 e1 e2 e3 e4 e5); go_simp; (try with_reducible rfl)
    try simp only [Act.put, List.setIfInBounds_toArray, List.set_cons_zero, List.set_cons_succ]
    refine wpQuiet_take (v := ?_) (some 24) rfl (by kernel_rfl) (fun wr hw => ?_) ?_
    rotate_left
    · (have e0 := hw.a0; have e1 := hw.a1; have e2 := hw.b0; have e3 := hw.b1; have e4 := hw.c0; have e5 := hw.c1; have e6 := hw.d0; have e7 := hw.d1; have e8 := hw.size; dsimp only at e0 e1 e2 e3 e4 e5); go_simp; (try with_reducible rfl)
    try simp only [Act.put, List.setIfInBounds_toArray, List.set_cons_zero, List.set_cons_succ]
    refine wpQuiet_take (v := ?_) (some 25) rfl (by kernel_rfl) (fun wr hw => ?_) ?_
    rotate_left
    · (have e0 := hw.a0; have e1 := hw.a1; have e2 := hw.b0; have e3 := hw.b1; have e4 := hw.c0; have e5 := hw.c1; have e6 := hw.d0; have e7 := hw.d1; have e8 := hw.size; dsimp only at e0 e1 e2 e3 e4 e5); go_simp; (try with_reducible rfl)
    try simp only [Act.put, List.setIfInBounds_toArray, List.set_cons_zero, List.set_cons_succ]
    refine wpQuiet_call (v := ?_) (f := ?_) (args := ?_) (some 26) rfl (by kernel_rfl) (fun wr hw => ?_) (fun wr hw => ?_) ?_
    rotate_left 3
    · (have e0 := hw.a0; have e1 := hw.a1; have e2 := hw.b0; have e3 := hw.b1; have e4 := hw.c0; have e5 := hw.c1; have e6 := hw.d0; have e7 := hw.d1; have e8 := hw.size; dsimp only at e0 e1 e2 e3 e4 e5); go_simp; refine ⟨?_, ?_⟩ <;> with_reducible rfl
    · refine (C5.out wr).mono ?_; rintro e w' ⟨rfl, rfl⟩; refine ⟨?_, hw⟩; with_reducible rfl
    try simp only [Act.put, List.setIfInBounds_toArray, List.set_cons_zero, List.set_cons_succ]
    refine wpQuiet_call (v := ?_) (f := ?_) (args := ?_) (some 27) rfl (by kernel_rfl) (fun wr hw => ?_) (fun wr hw => ?_) ?_
    rotate_left 3
    · (have e0 := hw.a0; have e1 := hw.a1; have e2 := hw.b0; have e3 := hw.b1; have e4 := hw.c0; have e5 := hw.c1; have e6 := hw.d0; have e7 := hw.d1; have e8 := hw.size; dsimp only at e0 e1 e2 e3 e4 e5); go_simp; refine ⟨?_, ?_⟩ <;> with_reducible rfl
    · refine (C6.out wr).mono ?_; rintro e w' ⟨rfl, rfl⟩; refine ⟨?_, hw⟩; with_reducible rfl
    try simp only [Act.put, List.setIfInBounds_toArray, List.set_cons_zero, List.set_cons_succ]
    refine wpQuiet_call (v := ?_) (f := ?_) (args := ?_) (some 28) rfl (by kernel_rfl) (fun wr hw => ?_) (fun wr hw => ?_) ?_
    rotate_left 3
    · (have e0 := hw.a0; have e1 := hw.a1; have e2 := hw.b0; have e3 := hw.b1; have e4 := hw.c0; have e5 := hw.c1; have e6 := hw.d0; have e7 := hw.d1; have e8 := hw.size; dsimp only at e0 e1 e2 e3 e4 e5); go_simp; refine ⟨?_, ?_⟩ <;> with_reducible rfl
    · refine (C7.out wr).mono ?_; rintro e w' ⟨rfl, rfl⟩; refine ⟨?_, hw⟩; with_reducible rfl
    try simp only [Act.put, List.setIfInBounds_toArray, List.set_cons_zero, List.set_cons_succ]
    refine wpQuiet_call (v := ?_) (f := ?_) (args := ?_) (some 29) rfl (by kernel_rfl) (fun wr hw => ?_) (fun wr hw => ?_) ?_
    rotate_left 3
    · (have e0 := hw.a0; have e1 := hw.a1; have e2 := hw.b0; have e3 := hw.b1; have e4 := hw.c0; have e5 := hw.c1; have e6 := hw.d0; have e7 := hw.d1; have e8 := hw.size; dsimp only at e0 e1 e2 e3 e4 e5); go_simp; refine ⟨?_, ?_⟩ <;> with_reducible rfl
    · refine (C8.out wr).mono ?_; rintro e w' ⟨rfl, hk⟩; refine ⟨?_, hw.on hk⟩; with_reducible rfl
    try simp only [Act.put, List.setIfInBounds_toArray, List.set_cons_zero, List.set_cons_succ]
    refine wpQuiet_nil ?_
    intro wq hq
    refine wpOp_last rfl (fun K hK => ?_)
    (have e0 := hq.a0; have e1 := hq.a1; have e2 := hq.b0; have e3 := hq.b1; have e4 := hq.c0; have e5 := hq.c1; have e6 := hq.d0; have e7 := hq.d1; have e8 := hq.size; dsimp only at e0 e1 e2 e3 e4 e5)
    go_simp
    refine hK.out _ _ ?_
    clear hK K
    try simp only [Act.put, List.setIfInBounds_toArray, List.set_cons_zero, List.set_cons_succ]
    go_wp2_with fail
    refine bodyPost_ret (v := .agg #[.complex .f64 p q, .float .f64 t]) (by simp [results, Tryz.results169, go_sem, e4, e5, e8]) rfl ⟨rfl, (hq.kept.setCell ?_ _).setCell ?_ _⟩
    · dsimp only; omega
    · dsimp only; omega
  · cases h
set_option maxRecDepth 100000 in
set_option maxHeartbeats 1600000 in
theorem bmul_any (a b c : Ba) (h : bmulO a b = some c) (w : World) : Calls Tryz.prog 248 #[a.v, b.v] w fun e w' => e = .returned c.v ∧ Kept w w' := by
  unfold bmulO at h
  split at h
  · rename_i hf
    rw [Bool.and_eq_true] at hf
    obtain ⟨h1, hh1, g0⟩ := Option.bind_eq_some_iff.1 h
    obtain ⟨k1, hk1, g1⟩ := Option.bind_eq_some_iff.1 g0
    obtain ⟨x, hx, g2⟩ := Option.bind_eq_some_iff.1 g1
    obtain ⟨y, hy, g3⟩ := Option.bind_eq_some_iff.1 g2
    obtain ⟨one, hone, g4⟩ := Option.bind_eq_some_iff.1 g3
    obtain ⟨z, hz, g5⟩ := Option.bind_eq_some_iff.1 g4
    obtain ⟨t1, ht1, g6⟩ := Option.bind_eq_some_iff.1 g5
    obtain ⟨s1, hs1, g7⟩ := Option.bind_eq_some_iff.1 g6
    obtain ⟨u, hu, g8⟩ := Option.bind_eq_some_iff.1 g7
    obtain ⟨r, hr, g9⟩ := Option.bind_eq_some_iff.1 g8
    have C1 := hide (fun W => isWhole_any a hf.1 W)
    have C2 := hide (fun W => isWhole_any b hf.2 W)
    have C3 := hide (fun W => chi_any a.c h1 hh1 W)
    have C4 := hide (fun W => times_any h1 b.r x hx W)
    have C5 := hide (fun W => chi_any b.c k1 hk1 W)
    have C6 := hide (fun W => times_any k1 a.r y hy W)
    have C7 := hide (fun W => plus_any x y one hone W)
    have C8 := hide (fun W => cmul_any a.c b.c z hz W)
    have C9 := hide (fun W => times_any a.r b.r t1 ht1 W)
    have C10 := hide (fun W => spoilt_any a.c b.c s1 hs1 W)
    have C11 := hide (fun W => plus_any t1 s1 u hu W)
    have C12 := hide (fun W => plus_any one u r hr W)
    have C13 := hide (fun W => told_of g9 W)
    clear h hf g9 hr g8 hu g7 hs1 g6 ht1 g5 hz g4 hone g3 hy g2 hx g1 hk1 g0 hh1
    obtain ⟨⟨a1, a2⟩, ar⟩ := a
    obtain ⟨⟨b1, b2⟩, br⟩ := b
    obtain ⟨⟨p, q⟩, t⟩ := c
    obtain ⟨z1, z2⟩ := z
    unfold Ba.v at *
    dsimp only at C1 C2 C3 C4 C5 C6 C7 C8 C9 C10 C11 C12 C13 ⊢
    go_enter Tryz.func248, Tryz.ntmps248
    go_wp2_with fail
    refine (C1.out _).mono ?_
    rintro e w1 ⟨rfl, hk1⟩
    have B1 : Box3 w w.heap.size ⟨⟨a1, a2⟩, ar⟩ ⟨⟨b1, b2⟩, br⟩ ⟨⟨0, 0⟩, 0⟩ w1 := Box3.on (Box3.mk3 w ⟨⟨a1, a2⟩, ar⟩ ⟨⟨b1, b2⟩, br⟩ ⟨⟨0, 0⟩, 0⟩ 109) hk1
    clear hk1
    have e2 := B1.b0
    have e3 := B1.b1
    have e8 := B1.size
    dsimp only at e2 e3
    have HB := hide B1
    clear B1
    go_wp2_with fail
    refine (C2.out _).mono ?_
    rintro e w2 ⟨rfl, hk2⟩
    have HC := hide (HB.out.on hk2)
    clear hk2 HB e2 e3 e8
    go_wp2_with fail
    refine wp_region_quiet (C := (Box3 w w.heap.size ⟨⟨a1, a2⟩, ar⟩ ⟨⟨b1, b2⟩, br⟩ ⟨⟨0, 0⟩, 0⟩)) (by kernel_rfl) (by kernel_rfl) ?_ ?_
    · exact HC.out.on (kept_drew _)
    dsimp only [List.take]
    refine wpQuiet_take (v := ?_) (some 13) rfl (by kernel_rfl) (fun wr hw => ?_) ?_
    rotate_left
    · (have e0 := hw.a0; have e1 := hw.a1; have e2 := hw.b0; have e3 := hw.b1; have e4 := hw.c0; have e5 := hw.c1; have e6 := hw.d0; have e7 := hw.d1; have e8 := hw.size; dsimp only at e0 e1 e2 e3 e4 e5); go_simp; (try with_reducible rfl)
    try simp only [Act.put, List.setIfInBounds_toArray, List.set_cons_zero, List.set_cons_succ]
    refine wpQuiet_take (v := ?_) (some 14) rfl (by kernel_rfl) (fun wr hw => ?_) ?_
    rotate_left
    · (have e0 := hw.a0; have e1 := hw.a1; have e2 := hw.b0; have e3 := hw.b1; have e4 := hw.c0; have e5 := hw.c1; have e6 := hw.d0; have e7 := hw.d1; have e8 := hw.size; dsimp only at e0 e1 e2 e3 e4 e5); go_simp; (try with_reducible rfl)
    try simp only [Act.put, List.setIfInBounds_toArray, List.set_cons_zero, List.set_cons_succ]
    refine wpQuiet_call (v := ?_) (f := ?_) (args := ?_) (some 15) rfl (by kernel_rfl) (fun wr hw => ?_) (fun wr hw => ?_) ?_
    rotate_left 3
    · (have e0 := hw.a0; have e1 := hw.a1; have e2 := hw.b0; have e3 := hw.b1; have e4 := hw.c0; have e5 := hw.c1; have e6 := hw.d0; have e7 := hw.d1; have e8 := hw.size; dsimp only at e0 e1 e2 e3 e4 e5); go_simp; refine ⟨?_, ?_⟩ <;> with_reducible rfl
    · refine (C3.out wr).mono ?_; rintro e w' ⟨rfl, rfl⟩; refine ⟨?_, hw⟩; with_reducible rfl
    try simp only [Act.put, List.setIfInBounds_toArray, List.set_cons_zero, List.set_cons_succ]
    refine wpQuiet_take (v := ?_) (some 16) rfl (by kernel_rfl) (fun wr hw => ?_) ?_
    rotate_left
    · (have e0 := hw.a0; have e1 := hw.a1; have e2 := hw.b0; have e3 := hw.b1; have e4 := hw.c0; have e5 := hw.c1; have e6 := hw.d0; have e7 := hw.d1; have e8 := hw.size; dsimp only at e0 e1 e2 e3 e4 e5); go_simp; (try with_reducible rfl)
    try simp only [Act.put, List.setIfInBounds_toArray, List.set_cons_zero, List.set_cons_succ]
    refine wpQuiet_take (v := ?_) (some 17) rfl (by kernel_rfl) (fun wr hw => ?_) ?_
    rotate_left
    · (have e0 := hw.a0; have e1 := hw.a1; have e2 := hw.b0; have e3 := hw.b1; have e4 := hw.c0; have e5 := hw.c1; have e6 := hw.d0; have e7 := hw.d1; have e8 := hw.size; dsimp only at e0 e1 e2 e3 e4 e5); go_simp; (try with_reducible rfl)
    try simp only [Act.put, List.setIfInBounds_toArray, List.set_cons_zero, List.set_cons_succ]
    refine wpQuiet_call (v := ?_) (f := ?_) (args := ?_) (some 18) rfl (by kernel_rfl) (fun wr hw => ?_) (fun wr hw => ?_) ?_
    rotate_left 3
    · (have e0 := hw.a0; have e1 := hw.a1; have e2 := hw.b0; have e3 := hw.b1; have e4 := hw.c0; have e5 := hw.c1; have e6 := hw.d0; have e7 := hw.d1; have e8 := hw.size; dsimp only at e0 e1 e2 e3 e4 e5); go_simp; refine ⟨?_, ?_⟩ <;> with_reducible rfl
    · refine (C4.out wr).mono ?_; rintro e w' ⟨rfl, rfl⟩; refine ⟨?_, hw⟩; with_reducible rfl
    try simp only [Act.put, List.setIfInBounds_toArray, List.set_cons_zero, List.set_cons_succ]
    refine wpQuiet_take (v := ?_) (some 19) rfl (by kernel_rfl) (fun wr hw => ?_) ?_
    rotate_left
    · (have e0 := hw.a0; have e1 := hw.a1; have e2 := hw.b0; have e3 := hw.b1; have e4 := hw.c0; have e5 := hw.c1; have e6 := hw.d0; have e7 := hw.d1; have e8 := hw.size; dsimp only at e0 e1 e2 e3 e4 e5); go_simp; (try with_reducible rfl)
    try simp only [Act.put, List.setIfInBounds_toArray, List.set_cons_zero, List.set_cons_succ]
    refine wpQuiet_take (v := ?_) (some 20) rfl (by kernel_rfl) (fun wr hw => ?_) ?_
    rotate_left
    · (have e0 := hw.a0; have e1 := hw.a1; have e2 := hw.b0; have e3 := hw.b1; have e4 := hw.c0; have e5 := hw.c1; have e6 := hw.d0; have e7 := hw.d1; have e8 := hw.size; dsimp only at e0 e1 e2 e3 e4 e5); go_simp; (try with_reducible rfl)
    try simp only [Act.put, List.setIfInBounds_toArray, List.set_cons_zero, List.set_cons_succ]
    refine wpQuiet_call (v := ?_) (f := ?_) (args := ?_) (some 21) rfl (by kernel_rfl) (fun wr hw => ?_) (fun wr hw => ?_) ?_
    rotate_left 3
    · (have e0 := hw.a0; have e1 := hw.a1; have e2 := hw.b0; have e3 := hw.b1; have e4 := hw.c0; have e5 := hw.c1; have e6 := hw.d0; have e7 := hw.d1; have e8 := hw.size; dsimp only at e0 e1 e2 e3 e4 e5); go_simp; refine ⟨?_, ?_⟩ <;> with_reducible rfl
    · refine (C5.out wr).mono ?_; rintro e w' ⟨rfl, rfl⟩; refine ⟨?_, hw⟩; with_reducible rfl
    try simp only [Act.put, List.setIfInBounds_toArray, List.set_cons_zero, List.set_cons_succ]
    refine wpQuiet_take (v := ?_) (some 22) rfl (by kernel_rfl) (fun wr hw => ?_) ?_
    rotate_left
    · (have e0 := hw.a0; have e1 := hw.a1; have e2 := hw.b0; have e3 := hw.b1; have e4 := hw.c0; have e5 := hw.c1; have e6 := hw.d0; have e7 := hw.d1; have e8 := hw.size; dsimp only at e0 e1 e2 e3 e4 e5); go_simp; (try with_reducible rfl)
    try simp only [Act.put, List.setIfInBounds_toArray, List.set_cons_zero, List.set_cons_succ]
    refine wpQuiet_take (v := ?_) (some 23) rfl (by kernel_rfl) (fun wr hw => ?_) ?_
    rotate_left
    · (have e0 := hw.a0; have e1 := hw.a1; have e2 := hw.b0; have e3 := hw.b1; have e4 := hw.c0; have e5 := hw.c1; have e6 := hw.d0; have e7 := hw.d1; have e8 := hw.size; dsimp only at e0 e1 e2 e3 e4 e5); go_simp; (try with_reducible rfl)
    try simp only [Act.put, List.setIfInBounds_toArray, List.set_cons_zero, List.set_cons_succ]
    refine wpQuiet_call (v := ?_) (f := ?_) (args := ?_) (some 24) rfl (by kernel_rfl) (fun wr hw => ?_) (fun wr hw => ?_) ?_
    rotate_left 3
    · (have e0 := hw.a0; have e1 := hw.a1; have e2 := hw.b0; have e3 := hw.b1; have e4 := hw.c0; have e5 := hw.c1; have e6 := hw.d0; have e7 := hw.d1; have e8 := hw.size; dsimp only at e0 e1 e2 e3 e4 e5); go_simp; refine ⟨?_, ?_⟩ <;> with_reducible rfl
    · refine (C6.out wr).mono ?_; rintro e w' ⟨rfl, rfl⟩; refine ⟨?_, hw⟩; with_reducible rfl
    try simp only [Act.put, List.setIfInBounds_toArray, List.set_cons_zero, List.set_cons_succ]
    refine wpQuiet_call (v := ?_) (f := ?_) (args := ?_) (some 25) rfl (by kernel_rfl) (fun wr hw => ?_) (fun wr hw => ?_) ?_
    rotate_left 3
    · (have e0 := hw.a0; have e1 := hw.a1; have e2 := hw.b0; have e3 := hw.b1; have e4 := hw.c0; have e5 := hw.c1; have e6 := hw.d0; have e7 := hw.d1; have e8 := hw.size; dsimp only at e0 e1 e2 e3 e4 e5); go_simp; refine ⟨?_, ?_⟩ <;> with_reducible rfl
    · refine (C7.out wr).mono ?_; rintro e w' ⟨rfl, rfl⟩; refine ⟨?_, hw⟩; with_reducible rfl
    try simp only [Act.put, List.setIfInBounds_toArray, List.set_cons_zero, List.set_cons_succ]
    refine wpQuiet_take (v := ?_) (some 5) rfl (by kernel_rfl) (fun wr hw => ?_) ?_
    rotate_left
    · (have e0 := hw.a0; have e1 := hw.a1; have e2 := hw.b0; have e3 := hw.b1; have e4 := hw.c0; have e5 := hw.c1; have e6 := hw.d0; have e7 := hw.d1; have e8 := hw.size; dsimp only at e0 e1 e2 e3 e4 e5); go_simp; (try with_reducible rfl)
    try simp only [Act.put, List.setIfInBounds_toArray, List.set_cons_zero, List.set_cons_succ]
    refine wpQuiet_nil ?_
    intro wq hq
    have HD := hide hq
    clear HC hq
    go_wp2_with fail
    refine wp_region_T (Box3 w w.heap.size ⟨⟨a1, a2⟩, ar⟩ ⟨⟨b1, b2⟩, br⟩ ⟨⟨0, 0⟩, 0⟩) 19 (by kernel_rfl) (by kernel_rfl) ?_ ?_
    · exact HD.out.on (kept_drew _)
    dsimp only [List.take]
    refine wpQuiet_take (v := ?_) (some 26) rfl (by kernel_rfl) (fun wr hw => ?_) ?_
    rotate_left
    · (have e0 := hw.a0; have e1 := hw.a1; have e2 := hw.b0; have e3 := hw.b1; have e4 := hw.c0; have e5 := hw.c1; have e6 := hw.d0; have e7 := hw.d1; have e8 := hw.size; dsimp only at e0 e1 e2 e3 e4 e5); go_simp; (try with_reducible rfl)
    try simp only [Act.put, List.setIfInBounds_toArray, List.set_cons_zero, List.set_cons_succ]
    refine wpQuiet_take (v := ?_) (some 27) rfl (by kernel_rfl) (fun wr hw => ?_) ?_
    rotate_left
    · (have e0 := hw.a0; have e1 := hw.a1; have e2 := hw.b0; have e3 := hw.b1; have e4 := hw.c0; have e5 := hw.c1; have e6 := hw.d0; have e7 := hw.d1; have e8 := hw.size; dsimp only at e0 e1 e2 e3 e4 e5); go_simp; (try with_reducible rfl)
    try simp only [Act.put, List.setIfInBounds_toArray, List.set_cons_zero, List.set_cons_succ]
    refine wpQuiet_take (v := ?_) (some 28) rfl (by kernel_rfl) (fun wr hw => ?_) ?_
    rotate_left
    · (have e0 := hw.a0; have e1 := hw.a1; have e2 := hw.b0; have e3 := hw.b1; have e4 := hw.c0; have e5 := hw.c1; have e6 := hw.d0; have e7 := hw.d1; have e8 := hw.size; dsimp only at e0 e1 e2 e3 e4 e5); go_simp; (try with_reducible rfl)
    try simp only [Act.put, List.setIfInBounds_toArray, List.set_cons_zero, List.set_cons_succ]
    refine wpQuiet_take (v := ?_) (some 29) rfl (by kernel_rfl) (fun wr hw => ?_) ?_
    rotate_left
    · (have e0 := hw.a0; have e1 := hw.a1; have e2 := hw.b0; have e3 := hw.b1; have e4 := hw.c0; have e5 := hw.c1; have e6 := hw.d0; have e7 := hw.d1; have e8 := hw.size; dsimp only at e0 e1 e2 e3 e4 e5); go_simp; (try with_reducible rfl)
    try simp only [Act.put, List.setIfInBounds_toArray, List.set_cons_zero, List.set_cons_succ]
    refine wpQuiet_call (v := ?_) (f := ?_) (args := ?_) (some 30) rfl (by kernel_rfl) (fun wr hw => ?_) (fun wr hw => ?_) ?_
    rotate_left 3
    · (have e0 := hw.a0; have e1 := hw.a1; have e2 := hw.b0; have e3 := hw.b1; have e4 := hw.c0; have e5 := hw.c1; have e6 := hw.d0; have e7 := hw.d1; have e8 := hw.size; dsimp only at e0 e1 e2 e3 e4 e5); go_simp; refine ⟨?_, ?_⟩ <;> with_reducible rfl
    · refine (C8.out wr).mono ?_; rintro e w' ⟨rfl, rfl⟩; refine ⟨?_, hw⟩; with_reducible rfl
    try simp only [Act.put, List.setIfInBounds_toArray, List.set_cons_zero, List.set_cons_succ]
    refine wpQuiet_take (v := ?_) (some 31) rfl (by kernel_rfl) (fun wr hw => ?_) ?_
    rotate_left
    · (have e0 := hw.a0; have e1 := hw.a1; have e2 := hw.b0; have e3 := hw.b1; have e4 := hw.c0; have e5 := hw.c1; have e6 := hw.d0; have e7 := hw.d1; have e8 := hw.size; dsimp only at e0 e1 e2 e3 e4 e5); go_simp; (try with_reducible rfl)
    try simp only [Act.put, List.setIfInBounds_toArray, List.set_cons_zero, List.set_cons_succ]
    refine wpQuiet_take (v := ?_) (some 32) rfl (by kernel_rfl) (fun wr hw => ?_) ?_
    rotate_left
    · (have e0 := hw.a0; have e1 := hw.a1; have e2 := hw.b0; have e3 := hw.b1; have e4 := hw.c0; have e5 := hw.c1; have e6 := hw.d0; have e7 := hw.d1; have e8 := hw.size; dsimp only at e0 e1 e2 e3 e4 e5); go_simp; (try with_reducible rfl)
    try simp only [Act.put, List.setIfInBounds_toArray, List.set_cons_zero, List.set_cons_succ]
    refine wpQuiet_take (v := ?_) (some 33) rfl (by kernel_rfl) (fun wr hw => ?_) ?_
    rotate_left
    · (have e0 := hw.a0; have e1 := hw.a1; have e2 := hw.b0; have e3 := hw.b1; have e4 := hw.c0; have e5 := hw.c1; have e6 := hw.d0; have e7 := hw.d1; have e8 := hw.size; dsimp only at e0 e1 e2 e3 e4 e5); go_simp; (try with_reducible rfl)
    try simp only [Act.put, List.setIfInBounds_toArray, List.set_cons_zero, List.set_cons_succ]
    refine wpQuiet_take (v := ?_) (some 34) rfl (by kernel_rfl) (fun wr hw => ?_) ?_
    rotate_left
    · (have e0 := hw.a0; have e1 := hw.a1; have e2 := hw.b0; have e3 := hw.b1; have e4 := hw.c0; have e5 := hw.c1; have e6 := hw.d0; have e7 := hw.d1; have e8 := hw.size; dsimp only at e0 e1 e2 e3 e4 e5); go_simp; (try with_reducible rfl)
    try simp only [Act.put, List.setIfInBounds_toArray, List.set_cons_zero, List.set_cons_succ]
    refine wpQuiet_take (v := ?_) (some 35) rfl (by kernel_rfl) (fun wr hw => ?_) ?_
    rotate_left
    · (have e0 := hw.a0; have e1 := hw.a1; have e2 := hw.b0; have e3 := hw.b1; have e4 := hw.c0; have e5 := hw.c1; have e6 := hw.d0; have e7 := hw.d1; have e8 := hw.size; dsimp only at e0 e1 e2 e3 e4 e5); go_simp; (try with_reducible rfl)
    try simp only [Act.put, List.setIfInBounds_toArray, List.set_cons_zero, List.set_cons_succ]
    refine wpQuiet_call (v := ?_) (f := ?_) (args := ?_) (some 36) rfl (by kernel_rfl) (fun wr hw => ?_) (fun wr hw => ?_) ?_
    rotate_left 3
    · (have e0 := hw.a0; have e1 := hw.a1; have e2 := hw.b0; have e3 := hw.b1; have e4 := hw.c0; have e5 := hw.c1; have e6 := hw.d0; have e7 := hw.d1; have e8 := hw.size; dsimp only at e0 e1 e2 e3 e4 e5); go_simp; refine ⟨?_, ?_⟩ <;> with_reducible rfl
    · refine (C9.out wr).mono ?_; rintro e w' ⟨rfl, rfl⟩; refine ⟨?_, hw⟩; with_reducible rfl
    try simp only [Act.put, List.setIfInBounds_toArray, List.set_cons_zero, List.set_cons_succ]
    refine wpQuiet_take (v := ?_) (some 37) rfl (by kernel_rfl) (fun wr hw => ?_) ?_
    rotate_left
    · (have e0 := hw.a0; have e1 := hw.a1; have e2 := hw.b0; have e3 := hw.b1; have e4 := hw.c0; have e5 := hw.c1; have e6 := hw.d0; have e7 := hw.d1; have e8 := hw.size; dsimp only at e0 e1 e2 e3 e4 e5); go_simp; (try with_reducible rfl)
    try simp only [Act.put, List.setIfInBounds_toArray, List.set_cons_zero, List.set_cons_succ]
    refine wpQuiet_take (v := ?_) (some 38) rfl (by kernel_rfl) (fun wr hw => ?_) ?_
    rotate_left
    · (have e0 := hw.a0; have e1 := hw.a1; have e2 := hw.b0; have e3 := hw.b1; have e4 := hw.c0; have e5 := hw.c1; have e6 := hw.d0; have e7 := hw.d1; have e8 := hw.size; dsimp only at e0 e1 e2 e3 e4 e5); go_simp; (try with_reducible rfl)
    try simp only [Act.put, List.setIfInBounds_toArray, List.set_cons_zero, List.set_cons_succ]
    refine wpQuiet_take (v := ?_) (some 39) rfl (by kernel_rfl) (fun wr hw => ?_) ?_
    rotate_left
    · (have e0 := hw.a0; have e1 := hw.a1; have e2 := hw.b0; have e3 := hw.b1; have e4 := hw.c0; have e5 := hw.c1; have e6 := hw.d0; have e7 := hw.d1; have e8 := hw.size; dsimp only at e0 e1 e2 e3 e4 e5); go_simp; (try with_reducible rfl)
    try simp only [Act.put, List.setIfInBounds_toArray, List.set_cons_zero, List.set_cons_succ]
    refine wpQuiet_take (v := ?_) (some 40) rfl (by kernel_rfl) (fun wr hw => ?_) ?_
    rotate_left
    · (have e0 := hw.a0; have e1 := hw.a1; have e2 := hw.b0; have e3 := hw.b1; have e4 := hw.c0; have e5 := hw.c1; have e6 := hw.d0; have e7 := hw.d1; have e8 := hw.size; dsimp only at e0 e1 e2 e3 e4 e5); go_simp; (try with_reducible rfl)
    try simp only [Act.put, List.setIfInBounds_toArray, List.set_cons_zero, List.set_cons_succ]
    refine wpQuiet_call (v := ?_) (f := ?_) (args := ?_) (some 41) rfl (by kernel_rfl) (fun wr hw => ?_) (fun wr hw => ?_) ?_
    rotate_left 3
    · (have e0 := hw.a0; have e1 := hw.a1; have e2 := hw.b0; have e3 := hw.b1; have e4 := hw.c0; have e5 := hw.c1; have e6 := hw.d0; have e7 := hw.d1; have e8 := hw.size; dsimp only at e0 e1 e2 e3 e4 e5); go_simp; refine ⟨?_, ?_⟩ <;> with_reducible rfl
    · refine (C10.out wr).mono ?_; rintro e w' ⟨rfl, rfl⟩; refine ⟨?_, hw⟩; with_reducible rfl
    try simp only [Act.put, List.setIfInBounds_toArray, List.set_cons_zero, List.set_cons_succ]
    refine wpQuiet_call (v := ?_) (f := ?_) (args := ?_) (some 42) rfl (by kernel_rfl) (fun wr hw => ?_) (fun wr hw => ?_) ?_
    rotate_left 3
    · (have e0 := hw.a0; have e1 := hw.a1; have e2 := hw.b0; have e3 := hw.b1; have e4 := hw.c0; have e5 := hw.c1; have e6 := hw.d0; have e7 := hw.d1; have e8 := hw.size; dsimp only at e0 e1 e2 e3 e4 e5); go_simp; refine ⟨?_, ?_⟩ <;> with_reducible rfl
    · refine (C11.out wr).mono ?_; rintro e w' ⟨rfl, rfl⟩; refine ⟨?_, hw⟩; with_reducible rfl
    try simp only [Act.put, List.setIfInBounds_toArray, List.set_cons_zero, List.set_cons_succ]
    refine wpQuiet_call (v := ?_) (f := ?_) (args := ?_) (some 43) rfl (by kernel_rfl) (fun wr hw => ?_) (fun wr hw => ?_) ?_
    rotate_left 3
    · (have e0 := hw.a0; have e1 := hw.a1; have e2 := hw.b0; have e3 := hw.b1; have e4 := hw.c0; have e5 := hw.c1; have e6 := hw.d0; have e7 := hw.d1; have e8 := hw.size; dsimp only at e0 e1 e2 e3 e4 e5); go_simp; refine ⟨?_, ?_⟩ <;> with_reducible rfl
    · refine (C12.out wr).mono ?_; rintro e w' ⟨rfl, rfl⟩; refine ⟨?_, hw⟩; with_reducible rfl
    try simp only [Act.put, List.setIfInBounds_toArray, List.set_cons_zero, List.set_cons_succ]
    refine wpQuiet_call (v := ?_) (f := ?_) (args := ?_) (some 44) rfl (by kernel_rfl) (fun wr hw => ?_) (fun wr hw => ?_) ?_
    rotate_left 3
    · (have e0 := hw.a0; have e1 := hw.a1; have e2 := hw.b0; have e3 := hw.b1; have e4 := hw.c0; have e5 := hw.c1; have e6 := hw.d0; have e7 := hw.d1; have e8 := hw.size; dsimp only at e0 e1 e2 e3 e4 e5); go_simp; refine ⟨?_, ?_⟩ <;> with_reducible rfl
    · refine (C13.out wr).mono ?_; rintro e w' ⟨rfl, hk⟩; refine ⟨?_, hw.on hk⟩; with_reducible rfl
    try simp only [Act.put, List.setIfInBounds_toArray, List.set_cons_zero, List.set_cons_succ]
    refine wpQuiet_nil ?_
    intro wq hq
    refine wpOp_last rfl (fun K hK => ?_)
    (have e0 := hq.a0; have e1 := hq.a1; have e2 := hq.b0; have e3 := hq.b1; have e4 := hq.c0; have e5 := hq.c1; have e6 := hq.d0; have e7 := hq.d1; have e8 := hq.size; dsimp only at e0 e1 e2 e3 e4 e5)
    go_simp
    refine hK.out _ _ ?_
    clear hK K
    try simp only [Act.put, List.setIfInBounds_toArray, List.set_cons_zero, List.set_cons_succ]
    go_wp2_with fail
    refine bodyPost_ret (v := .agg #[.complex .f64 p q, .float .f64 t]) (by simp [results, Tryz.results248, go_sem, e4, e5, e8]) rfl ⟨rfl, (hq.kept.setCell ?_ _).setCell ?_ _⟩
    · dsimp only; omega
    · dsimp only; omega
  · cases h
end Go.Proofs.YtneakieigiafpaaGreatDoor
