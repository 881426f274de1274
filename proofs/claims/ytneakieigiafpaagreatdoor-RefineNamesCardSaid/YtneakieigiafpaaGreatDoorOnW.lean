/- poly.on's two functions, walked. -/
import Derived.Test.YtneakieigiafpaaGreatDoorPtsW
namespace Go.Proofs.YtneakieigiafpaaGreatDoor
open Go.RowKit
attribute [local go_sem] run_float_arith run_f64bits run_f64from run_neg_float run_store_float run_store_complex

set_option maxRecDepth 100000 in
set_option maxHeartbeats 400000 in
theorem on1_any (a : Ba) (w : World) : Calls Tryz.prog 293 #[a.v] w fun e w' => e = .returned a.v ∧ Kept w w' := by
  obtain ⟨⟨a1, a2⟩, ar⟩ := a
  unfold Ba.v
  dsimp only
  go_enter Tryz.func293, Tryz.ntmps293
  go_wp2
  refine bodyPost_ret (v := .agg #[.complex .f64 a1 a2, .float .f64 ar]) (by simp [results, Tryz.results293, go_sem]) rfl ⟨rfl, ?_⟩
  exact ((Below.refl _ w).alloc (Nat.le_refl _) _).alloc (by simp) _
/-- A ball in two cells. -/
structure BallAt (W : World) (b : Nat) (z : Ba) : Prop where
  c0 : W.cell? ⟨b, 0, none⟩ = some (.complex .f64 z.c.re z.c.im)
  c1 : W.cell? ⟨b, 1, none⟩ = some (.float .f64 z.r)
theorem BallAt.kept {W W' : World} {b : Nat} {z : Ba} (h : BallAt W b z) (k : Kept W W') : BallAt W' b z :=
  ⟨(k.cells _ _ (lt_of_cell h.c0)).trans h.c0, (k.cells _ _ (lt_of_cell h.c1)).trans h.c1⟩
structure OnC (w0 : World) (n cb : Nat) (s a b d : Ba) (W : World) : Prop where
  box : Box3 w0 n s a d W
  at_ : BallAt W cb b
theorem OnC.on {w0 W W' : World} {n cb : Nat} {s a b d : Ba} (h : OnC w0 n cb s a b d W) (k : Kept W W') : OnC w0 n cb s a b d W' := ⟨h.box.on k, h.at_.kept k⟩
set_option maxRecDepth 100000 in
set_option maxHeartbeats 1600000 in
theorem on2_any (s c b m r : Ba) (cb : Nat) (hm : bmulO s b = some m) (hr : baddO m c = some r) (w : World) (hb : BallAt w cb b) :
    Calls Tryz.prog 294 #[s.v, c.v, .pointer (some ⟨cb, 0, none⟩)] w fun e w' => e = .returned r.v ∧ Kept w w' := by
  have C1 := hide (fun W => bmul_any s b m hm W)
  have C2 := hide (fun W => badd_any m c r hr W)
  have HB : Hid (OnC w w.heap.size cb s c b ⟨⟨0, 0⟩, 0⟩ (((w.alloc (.cells #[.complex .f64 s.c.re s.c.im, .float .f64 s.r] 109)).alloc (.cells #[.complex .f64 c.c.re c.c.im, .float .f64 c.r] 109)).alloc (.cells #[.complex .f64 0 0, .float .f64 0] 109))) :=
    ⟨Box3.mk3 w s c ⟨⟨0, 0⟩, 0⟩ 109, hb.kept ((((Below.refl _ w).alloc (Nat.le_refl _) _).alloc (by simp) _).alloc (by simp; omega) _)⟩
  clear hm hr hb
  obtain ⟨⟨s1, s2⟩, sr⟩ := s
  obtain ⟨⟨c1, c2⟩, cr⟩ := c
  obtain ⟨⟨b1, b2⟩, br⟩ := b
  obtain ⟨⟨r1, r2⟩, rr⟩ := r
  obtain ⟨⟨m1, m2⟩, mr⟩ := m
  unfold Ba.v at *
  dsimp only at C1 C2 HB ⊢
  go_enter Tryz.func294, Tryz.ntmps294
  go_wp2_with fail
  refine wp_region_T (OnC w w.heap.size cb ⟨⟨s1, s2⟩, sr⟩ ⟨⟨c1, c2⟩, cr⟩ ⟨⟨b1, b2⟩, br⟩ ⟨⟨0, 0⟩, 0⟩) 5 (by kernel_rfl) (by kernel_rfl) ?_ ?_
  · exact HB.out.on (kept_drew _)
  dsimp only [List.take]
  refine wpQuiet_take (v := ?_) (some 6) rfl (by kernel_rfl) (fun wr hw => ?_) ?_
  rotate_left
  · (have e0 := hw.box.a0; have e1 := hw.box.a1; have e2 := hw.box.b0; have e3 := hw.box.b1; have e4 := hw.box.c0; have e5 := hw.box.c1; have e6 := hw.box.d0; have e7 := hw.box.d1; have e8 := hw.box.size; have e9 := hw.at_.c0; have e10 := hw.at_.c1; dsimp only at e0 e1 e2 e3 e4 e5 e9 e10); go_simp; (try with_reducible rfl)
  try simp only [Act.put, List.setIfInBounds_toArray, List.set_cons_zero, List.set_cons_succ]
  refine wpQuiet_take (v := ?_) (some 7) rfl (by kernel_rfl) (fun wr hw => ?_) ?_
  rotate_left
  · (have e0 := hw.box.a0; have e1 := hw.box.a1; have e2 := hw.box.b0; have e3 := hw.box.b1; have e4 := hw.box.c0; have e5 := hw.box.c1; have e6 := hw.box.d0; have e7 := hw.box.d1; have e8 := hw.box.size; have e9 := hw.at_.c0; have e10 := hw.at_.c1; dsimp only at e0 e1 e2 e3 e4 e5 e9 e10); go_simp; (try with_reducible rfl)
  try simp only [Act.put, List.setIfInBounds_toArray, List.set_cons_zero, List.set_cons_succ]
  refine wpQuiet_call (v := ?_) (f := ?_) (args := ?_) (some 8) rfl (by kernel_rfl) (fun wr hw => ?_) (fun wr hw => ?_) ?_
  rotate_left 3
  · (have e0 := hw.box.a0; have e1 := hw.box.a1; have e2 := hw.box.b0; have e3 := hw.box.b1; have e4 := hw.box.c0; have e5 := hw.box.c1; have e6 := hw.box.d0; have e7 := hw.box.d1; have e8 := hw.box.size; have e9 := hw.at_.c0; have e10 := hw.at_.c1; dsimp only at e0 e1 e2 e3 e4 e5 e9 e10); go_simp; refine ⟨?_, ?_⟩ <;> with_reducible rfl
  · refine (C1.out wr).mono ?_; rintro e w' ⟨rfl, hk⟩; refine ⟨?_, hw.on hk⟩; with_reducible rfl
  try simp only [Act.put, List.setIfInBounds_toArray, List.set_cons_zero, List.set_cons_succ]
  refine wpQuiet_take (v := ?_) (some 9) rfl (by kernel_rfl) (fun wr hw => ?_) ?_
  rotate_left
  · (have e0 := hw.box.a0; have e1 := hw.box.a1; have e2 := hw.box.b0; have e3 := hw.box.b1; have e4 := hw.box.c0; have e5 := hw.box.c1; have e6 := hw.box.d0; have e7 := hw.box.d1; have e8 := hw.box.size; have e9 := hw.at_.c0; have e10 := hw.at_.c1; dsimp only at e0 e1 e2 e3 e4 e5 e9 e10); go_simp; (try with_reducible rfl)
  try simp only [Act.put, List.setIfInBounds_toArray, List.set_cons_zero, List.set_cons_succ]
  refine wpQuiet_call (v := ?_) (f := ?_) (args := ?_) (some 10) rfl (by kernel_rfl) (fun wr hw => ?_) (fun wr hw => ?_) ?_
  rotate_left 3
  · (have e0 := hw.box.a0; have e1 := hw.box.a1; have e2 := hw.box.b0; have e3 := hw.box.b1; have e4 := hw.box.c0; have e5 := hw.box.c1; have e6 := hw.box.d0; have e7 := hw.box.d1; have e8 := hw.box.size; have e9 := hw.at_.c0; have e10 := hw.at_.c1; dsimp only at e0 e1 e2 e3 e4 e5 e9 e10); go_simp; refine ⟨?_, ?_⟩ <;> with_reducible rfl
  · refine (C2.out wr).mono ?_; rintro e w' ⟨rfl, hk⟩; refine ⟨?_, hw.on hk⟩; with_reducible rfl
  try simp only [Act.put, List.setIfInBounds_toArray, List.set_cons_zero, List.set_cons_succ]
  refine wpQuiet_nil ?_
  intro wq hq
  refine wpOp_last rfl (fun K hK => ?_)
  (have e0 := hq.box.a0; have e1 := hq.box.a1; have e2 := hq.box.b0; have e3 := hq.box.b1; have e4 := hq.box.c0; have e5 := hq.box.c1; have e6 := hq.box.d0; have e7 := hq.box.d1; have e8 := hq.box.size; have e9 := hq.at_.c0; have e10 := hq.at_.c1; dsimp only at e0 e1 e2 e3 e4 e5 e9 e10)
  go_simp
  refine hK.out _ _ ?_
  clear hK K
  try simp only [Act.put, List.setIfInBounds_toArray, List.set_cons_zero, List.set_cons_succ]
  go_wp2_with fail
  refine bodyPost_ret (v := .agg #[.complex .f64 r1 r2, .float .f64 rr]) (by simp [results, Tryz.results294, go_sem, e4, e5, e8]) rfl ⟨rfl, (hq.box.kept.setCell ?_ _).setCell ?_ _⟩
  · dsimp only; omega
  · dsimp only; omega
end Go.Proofs.YtneakieigiafpaaGreatDoor
