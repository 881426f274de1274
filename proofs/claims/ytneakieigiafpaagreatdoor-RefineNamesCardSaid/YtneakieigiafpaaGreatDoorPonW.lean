/- poly.on, walked. -/
import Derived.Test.YtneakieigiafpaaGreatDoorWlkW
namespace Go.Proofs.YtneakieigiafpaaGreatDoor
open Go.RowKit
attribute [local go_sem] run_float_arith run_f64bits run_f64from run_neg_float run_store_float run_store_complex

theorem ballsV_at : ∀ (l : List Ba) (k : Nat) (c : Ba), l[k]? = some c → (ballsV l)[k * 2]? = some (.complex .f64 c.c.re c.c.im) ∧ (ballsV l)[k * 2 + 1]? = some (.float .f64 c.r)
  | [], k, c, h => by simp at h
  | b :: l, 0, c, h => by
    simp at h
    subst h
    exact ⟨rfl, rfl⟩
  | b :: l, k + 1, c, h => by
    obtain ⟨h1, h2⟩ := ballsV_at l k c (by simpa using h)
    have e : ballsV (b :: l) = .complex .f64 b.c.re b.c.im :: .float .f64 b.r :: ballsV l := rfl
    rw [e, show (k + 1) * 2 = k * 2 + 1 + 1 by omega]
    exact ⟨by simpa using h1, by simpa using h2⟩
theorem BallsAt.of_row {W : World} {A : Option Addr} {l : List Ba} (h : Row W A (ballsV l)) (hl : 0 < l.length) : ∃ lb lo, A = some ⟨lb, lo, none⟩ ∧ BallsAt W lb lo l := by
  rcases h with h | ⟨b, off, hA, hc⟩
  · have := ballsV_len l
    rw [h] at this
    simp at this
    omega
  · exact ⟨b, off, hA, fun k c hk => ⟨hc _ _ (ballsV_at l k c hk).1, hc _ _ (ballsV_at l k c hk).2⟩⟩

set_option maxRecDepth 100000 in
set_option maxHeartbeats 800000 in
theorem walk_nil (A : Option Addr) (c cb : Nat) (z : Ba) (w : World) :
    Calls Tryz.prog 292 #[.slice A 0 c, z.v, .func (.func 293) #[] #[], .func (.func 294) #[] #[.pointer (some ⟨cb, 0, none⟩)]] w fun e w' => e = .returned z.v ∧ Kept w w' := by
  obtain ⟨⟨z1, z2⟩, zr⟩ := z
  unfold Ba.v
  dsimp only
  go_enter Tryz.func292, Tryz.ntmps292
  go_wp2
  refine bodyPost_ret (v := .agg #[.complex .f64 z1 z2, .float .f64 zr]) (by simp [results, Tryz.results292, go_sem]) rfl ⟨rfl, ?_⟩
  exact ((Below.refl _ w).alloc (Nat.le_refl _) _).alloc (by simp) _

/-- The walk of a row of balls. -/
theorem walk_row (l : List Ba) (b r : Ba) (h : onO l b = some r) (hl : l.length ≤ 17) (A : Option Addr) (c cb : Nat) (z : Ba) (hz : pointO ⟨0, 0⟩ = some z) (w : World) (hrow : Row w A (ballsV l)) (hb : BallAt w cb b) :
    Calls Tryz.prog 292 #[.slice A l.length c, z.v, .func (.func 293) #[] #[], .func (.func 294) #[] #[.pointer (some ⟨cb, 0, none⟩)]] w fun e w' => e = .returned r.v ∧ Kept w w' := by
  unfold onO at h
  cases l with
  | nil =>
    rw [List.isEmpty_nil, if_pos rfl, hz] at h
    injection h with h
    subst h
    exact walk_nil A c cb z w
  | cons x l =>
    rw [List.isEmpty_cons, if_neg (by decide)] at h
    obtain ⟨lb, lo, rfl, hB⟩ := BallsAt.of_row hrow (by simp)
    exact walk_any (x :: l) b r h hl lb lo c cb z w hB hb

set_option maxRecDepth 100000 in
set_option maxHeartbeats 800000 in
theorem pon_any (l : List Ba) (b r : Ba) (h : onO l b = some r) (hl : l.length ≤ 17) (A : Option Addr) (c : Nat) (w : World) (hrow : Row w A (ballsV l)) :
    Calls Tryz.prog 282 #[.slice A l.length c, b.v] w fun e w' => e = .returned r.v ∧ Kept w w' := by
  obtain ⟨z, hz⟩ : ∃ z, pointO ⟨0, 0⟩ = some z := ⟨⟨⟨0, 0⟩, 0⟩, by kernel_rfl⟩
  have C1 := hide (fun W => point_any ⟨0, 0⟩ z hz W)
  have C2 := hide (fun (cb : Nat) (W : World) (h1 : Row W A (ballsV l)) (h2 : BallAt W cb b) => walk_row l b r h hl A c cb z hz W h1 h2)
  have HR := hide hrow
  clear h hz hrow
  generalize l.length = n at C2 hl ⊢
  have HB : Hid (∀ W, Kept ((w.alloc (.cells #[.complex .f64 b.c.re b.c.im, .float .f64 b.r] 109)).alloc (.cells #[.complex .f64 0 0, .float .f64 0] 109)) W → BallAt W w.heap.size b ∧
      (W.cell? ⟨w.heap.size + 1, 0, none⟩ = some (.complex .f64 0 0) ∧ W.cell? ⟨w.heap.size + 1, 1, none⟩ = some (.float .f64 0) ∧ W.frozen? ⟨w.heap.size + 1, 0, none⟩ = false ∧ W.frozen? ⟨w.heap.size + 1, 1, none⟩ = false) ∧ Kept w W) := fun W hk =>
    ⟨⟨(hk.cells _ _ (by simp; omega)).trans (by go_simp), (hk.cells _ _ (by simp; omega)).trans (by go_simp)⟩,
      ⟨(hk.cells _ _ (by simp)).trans (by go_simp), (hk.cells _ _ (by simp)).trans (by go_simp), (hk.thaw _ _ (by simp)).trans (by go_simp), (hk.thaw _ _ (by simp)).trans (by go_simp)⟩,
      (((Below.refl _ w).alloc (Nat.le_refl _) _).alloc (by simp) _).trans (hk.mono (by simp; omega))⟩
  obtain ⟨⟨b1, b2⟩, br⟩ := b
  obtain ⟨⟨z1, z2⟩, zr⟩ := z
  obtain ⟨⟨r1, r2⟩, rr⟩ := r
  unfold Ba.v at *
  dsimp only at C1 C2 HB ⊢
  go_enter Tryz.func282, Tryz.ntmps282
  go_wp2_with fail
  refine (C1.out _).mono ?_
  rintro e w1 ⟨rfl, hk1⟩
  obtain ⟨hb1, -, hk⟩ := HB.out w1 hk1
  have CW := hide (C2.out _ w1 (HR.out.kept hk) hb1)
  have H1 := hide hk1
  clear hk1 hb1 hk C1 C2
  go_wp2_with fail
  refine CW.out.mono ?_
  rintro e w2 ⟨rfl, hk2⟩
  obtain ⟨-, ⟨e0, e1, e2, e3⟩, hk⟩ := HB.out w2 (H1.out.trans' hk2)
  have e6 := lt_of_cell e0
  have HK := hide hk
  clear hk hk2 H1 HB CW
  go_wp2_with fail
  refine bodyPost_ret (v := .agg #[.complex .f64 r1 r2, .float .f64 rr]) (by simp [results, Tryz.results282, go_sem, e0, e1, e6]) rfl ⟨rfl, Below.setCell (Below.setCell HK.out (by dsimp only; omega) _) (by dsimp only; omega) _⟩
end Go.Proofs.YtneakieigiafpaaGreatDoor
