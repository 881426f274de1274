/- poly.all of one polynomial, poly.On, walked. -/
import Derived.Test.YtneakieigiafpaaGreatDoorPonW
namespace Go.Proofs.YtneakieigiafpaaGreatDoor
open Go.RowKit
attribute [local go_sem] run_float_arith run_f64bits run_f64from run_neg_float run_store_float run_store_complex

set_option maxRecDepth 100000 in
set_option maxHeartbeats 800000 in
theorem all_any (p : List Co) (hp : OkP p) (A : Option Addr) (c b : Nat) (w : World) (hr : Row w A (p.map Co.v)) (hc : w.cell? ⟨b, 0, none⟩ = some (.slice A p.length c)) :
    Calls Tryz.prog 281 #[.slice (some ⟨b, 0, none⟩) 1 1] w fun e w' => e = .returned (.bool true) ∧ w = w' := by
  have C1 := hide (pcheck_any p hp A c w hr)
  clear hr
  generalize p.length = n at C1 hc
  go_enter Tryz.func281, Tryz.ntmps281
  go_wp2
  go_loopg [4, 7] 1 (fun gh s4 ix wr => ∃ k : Nat, k + gh = 1 ∧ ix = .int .i64 k ∧ wr = w)
  case atStart => exact ⟨0, by omega, rfl, rfl⟩
  case round =>
    obtain ⟨k, hkg, rfl, rfl⟩ := hrel
    cases gk with
    | zero =>
      obtain rfl : k = 1 := by omega
      go_wp2
      go_ret
      exact ⟨rfl, rfl⟩
    | succ gh =>
      obtain rfl : k = 0 := by omega
      go_wp2_with (go_at_call 137; refine C1.out.mono ?_; rintro e w1 ⟨rfl, rfl⟩)
      go_roundg gh
      case measure => omega
      case rel => exact ⟨1, by omega, by go_num, rfl⟩

set_option maxRecDepth 100000 in
set_option maxHeartbeats 1600000 in
theorem ponc_any (p : List Co) (b r : Ba) (hp : OkP p) (hb : b.ok = true) (h : polyOnO p b = some r) (A : Option Addr) (c : Nat) (w : World) (hr : Row w A (p.map Co.v)) :
    Calls Tryz.prog 260 #[.slice A p.length c, b.v] w fun e w' => e = .returned (.tuple #[r.v, .int .i64 0]) ∧ Kept w w' := by
  obtain ⟨l, hl, h⟩ := Option.bind_eq_some_iff.1 h
  have hlen := (mapM_spec _ _ _ hl).1
  have C1 := hide (fun (k : Nat) (W : World) (h1 : Row W A (p.map Co.v)) (h2 : W.cell? ⟨k, 0, none⟩ = some (.slice A p.length c)) => all_any p hp A c k W h1 h2)
  have C2 := hide (fun W => may_any b hb W)
  have C3 := hide (fun (W : World) (h1 : Row W A (p.map Co.v)) => points_any p l hl hp.len A c W h1)
  have C4 := hide (fun (A' : Option Addr) (c' : Nat) (W : World) (h1 : Row W A' (ballsV l)) => pon_any l b r h (by rw [hlen]; exact hp.len) A' c' W h1)
  rw [hlen] at C4
  have HR := hide hr
  clear h hl hr hp hb
  generalize p.length = n at C1 C3 C4 ⊢
  generalize p.map Co.v = xs at C1 C3 HR
  clear hlen
  obtain ⟨⟨b1, b2⟩, br⟩ := b
  obtain ⟨⟨r1, r2⟩, rr⟩ := r
  unfold Ba.v at *
  dsimp only at C2 C4 ⊢
  go_enter Tryz.func260, Tryz.ntmps260
  go_wp2_with fail
  refine (C1.out _ _ (((HR.out.alloc _).alloc _).alloc _) (by go_simp)).mono ?_
  rintro e w1 ⟨rfl, rfl⟩
  go_wp2_with fail
  refine (C2.out _).mono ?_
  rintro e w2 ⟨rfl, hk2⟩
  go_wp2_with fail
  have HN : Hid (∀ W, Kept w2 W → (W.cell? ⟨w.heap.size, 0, none⟩ = some (.complex .f64 b1 b2) ∧ W.cell? ⟨w.heap.size, 1, none⟩ = some (.float .f64 br)) ∧ (W.cell? ⟨w.heap.size + 1, 0, none⟩ = some (.complex .f64 0 0) ∧
      W.cell? ⟨w.heap.size + 1, 1, none⟩ = some (.float .f64 0) ∧ W.frozen? ⟨w.heap.size + 1, 0, none⟩ = false ∧ W.frozen? ⟨w.heap.size + 1, 1, none⟩ = false) ∧ Kept w W) := fun W hk => by
    have hk := hk2.trans' hk
    exact ⟨⟨(hk.cells _ _ (by simp; omega)).trans (by go_simp), (hk.cells _ _ (by simp; omega)).trans (by go_simp)⟩,
      ⟨(hk.cells _ _ (by simp)).trans (by go_simp), (hk.cells _ _ (by simp)).trans (by go_simp), (hk.thaw _ _ (by simp)).trans (by go_simp), (hk.thaw _ _ (by simp)).trans (by go_simp)⟩,
      ((((Below.refl _ w).alloc (Nat.le_refl _) _).alloc (by simp) _).alloc (by simp; omega) _).trans (hk.mono (by simp; omega))⟩
  clear hk2 C1 C2
  obtain ⟨⟨e0, e1⟩, -, hk0⟩ := HN.out _ (kept_drew w2)
  have HR2 := hide (HR.out.kept hk0)
  clear hk0
  refine wp_region_L (fun W => W.cell? ⟨w.heap.size, 0, none⟩ = some (.complex .f64 b1 b2) ∧ W.cell? ⟨w.heap.size, 1, none⟩ = some (.float .f64 br)) 5 (by kernel_rfl) ?_ (fun hHeld => ?_)
  · exact ⟨by go_simp, by go_simp⟩
  refine wpAnyL_take (i := 0) (v := ?_) (some 16) rfl rfl (by kernel_rfl) (by kernel_rfl) (by kernel_rfl) (by kernel_rfl) (fun _ _ _ h => h) (Or.inl ⟨by rfl, ?_⟩) (by assumption) ?_
  rotate_left
  · intro w hSw; (try dsimp only at hSw); go_simp; (try with_reducible rfl)
  try simp only [Act.put, List.setIfInBounds_toArray, List.set_cons_zero, List.set_cons_succ]
  refine wpAnyL_take (i := 2) (v := ?_) (some 18) rfl rfl (by kernel_rfl) (by kernel_rfl) (by kernel_rfl) (by kernel_rfl) (fun _ _ _ h => h) (Or.inl ⟨by rfl, ?_⟩) (by assumption) ?_
  rotate_left
  · intro w hSw; (try dsimp only at hSw); go_simp; (try with_reducible rfl)
  try simp only [Act.put, List.setIfInBounds_toArray, List.set_cons_zero, List.set_cons_succ]
  refine wpAnyL_one (i := 1) (by kernel_rfl) rfl (fun K hK => ?_)
  go_simp
  (refine (C3.out _ HR2.out).mono ?_; rintro e w3 ⟨v, rfl, hown, hk3⟩; obtain ⟨A', c', rfl, -, -, hrow, -⟩ := hown.form; have HRW := hide hrow; have HK3 := hide ((kept_drew w2).trans' hk3); obtain ⟨⟨e0, e1⟩, -, -⟩ := HN.out _ HK3.out; clear hown hrow hk3)
  refine hK.out _ _ ?_ (fun hHeld => ?_)
  · exact ⟨by go_simp, by go_simp⟩
  clear hK K
  try simp only [Act.put, List.setIfInBounds_toArray, List.set_cons_zero, List.set_cons_succ]
  refine wpAnyL_one (i := 3) (by kernel_rfl) rfl (fun K hK => ?_)
  go_simp
  (refine (C4.out _ _ _ HRW.out).mono ?_; rintro e w4 ⟨rfl, hk4⟩; have HK4 := hide (HK3.out.trans' hk4); obtain ⟨⟨e0, e1⟩, ⟨r0, q1, f0, f1⟩, hkw⟩ := HN.out _ HK4.out; have HKW := hide hkw; have hz := lt_of_cell r0; clear hk4 hkw)
  refine hK.out _ _ ?_ (fun hHeld => ?_)
  · exact ⟨by go_simp, by go_simp⟩
  clear hK K
  try simp only [Act.put, List.setIfInBounds_toArray, List.set_cons_zero, List.set_cons_succ]
  refine wpAnyL_one (i := 4) (by kernel_rfl) rfl (fun K hK => ?_)
  go_simp
  refine hK.out _ _ ?_ (fun hHeld => ?_)
  · exact ⟨by go_simp, by go_simp⟩
  clear hK K
  try simp only [Act.put, List.setIfInBounds_toArray, List.set_cons_zero, List.set_cons_succ]
  refine wpAnyL_end (by kernel_rfl) rfl (fun K hK => ?_)
  go_simp
  refine hK.out _ _ ?_
  clear hK K
  try simp only [Act.put, List.setIfInBounds_toArray, List.set_cons_zero, List.set_cons_succ]
  refine wpAnyL_done (by kernel_rfl) ?_ _
  clear hHeld
  go_wp2_with fail
  refine bodyPost_ret (v := .tuple #[.agg #[.complex .f64 r1 r2, .float .f64 rr], .int .i64 0]) (by simp [results, Tryz.results260, go_sem, r0, q1, hz]) rfl ⟨rfl, Below.setCell (Below.setCell HKW.out (by dsimp only; omega) _) (by dsimp only; omega) _⟩
end Go.Proofs.YtneakieigiafpaaGreatDoor
