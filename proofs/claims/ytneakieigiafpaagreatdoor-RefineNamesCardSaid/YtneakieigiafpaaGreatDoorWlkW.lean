/- poly.walk over balls, walked. -/
import Derived.Test.YtneakieigiafpaaGreatDoorOnW
namespace Go.Proofs.YtneakieigiafpaaGreatDoor
open Go.RowKit
attribute [local go_sem] run_float_arith run_f64bits run_f64from run_neg_float run_store_float run_store_complex

/-- Balls one behind the other from cell lo of block lb on. -/
def BallsAt (W : World) (lb lo : Nat) (l : List Ba) : Prop := ∀ k c, l[k]? = some c → W.cell? ⟨lb, lo + k * 2, none⟩ = some (.complex .f64 c.c.re c.c.im) ∧ W.cell? ⟨lb, lo + k * 2 + 1, none⟩ = some (.float .f64 c.r)
theorem BallsAt.kept {W W' : World} {lb lo : Nat} {l : List Ba} (h : BallsAt W lb lo l) (k : Kept W W') : BallsAt W' lb lo l := fun j c hc =>
  ⟨(k.cells _ _ (lt_of_cell (h j c hc).1)).trans (h j c hc).1, (k.cells _ _ (lt_of_cell (h j c hc).2)).trans (h j c hc).2⟩
/-- In the loop: the sum s in its box n9, the result's box n8 as it was laid. -/
structure WalkC (w0 : World) (n8 n9 cb lb lo : Nat) (l : List Ba) (b s : Ba) (W : World) : Prop where
  s0 : W.cell? ⟨n9, 0, none⟩ = some (.complex .f64 s.c.re s.c.im)
  s1 : W.cell? ⟨n9, 1, none⟩ = some (.float .f64 s.r)
  f0 : W.frozen? ⟨n9, 0, none⟩ = false
  f1 : W.frozen? ⟨n9, 1, none⟩ = false
  z0 : W.cell? ⟨n8, 0, none⟩ = some (.complex .f64 0 0)
  z1 : W.cell? ⟨n8, 1, none⟩ = some (.float .f64 0)
  g0 : W.frozen? ⟨n8, 0, none⟩ = false
  g1 : W.frozen? ⟨n8, 1, none⟩ = false
  row : BallsAt W lb lo l
  at_ : BallAt W cb b
  ord : w0.heap.size ≤ n8 ∧ n8 < n9 ∧ lb < w0.heap.size ∧ cb < w0.heap.size
  kept : Kept w0 W
theorem WalkC.on {w0 W W' : World} {n8 n9 cb lb lo : Nat} {l : List Ba} {b s : Ba} (h : WalkC w0 n8 n9 cb lb lo l b s W) (k : Kept W W') : WalkC w0 n8 n9 cb lb lo l b s W' := by
  have h9 := lt_of_cell h.s0
  have h8 := lt_of_cell h.z0
  exact ⟨(k.cells _ _ h9).trans h.s0, (k.cells _ _ h9).trans h.s1, (k.thaw _ _ h9).trans h.f0, (k.thaw _ _ h9).trans h.f1, (k.cells _ _ h8).trans h.z0, (k.cells _ _ h8).trans h.z1,
    (k.thaw _ _ h8).trans h.g0, (k.thaw _ _ h8).trans h.g1, h.row.kept k, h.at_.kept k, h.ord, h.kept.trans' k⟩
/-- A new sum is stored. -/
theorem WalkC.put {w0 W : World} {n8 n9 cb lb lo : Nat} {l : List Ba} {b s : Ba} (h : WalkC w0 n8 n9 cb lb lo l b s W) (t : Ba) :
    WalkC w0 n8 n9 cb lb lo l b t ((W.setCell ⟨n9, 0, none⟩ (.complex .f64 t.c.re t.c.im)).setCell ⟨n9, 1, none⟩ (.float .f64 t.r)) := by
  obtain ⟨o1, o2, o3, o4⟩ := h.ord
  have far : ∀ (bb o : Nat), bb ≠ n9 → ((W.setCell ⟨n9, 0, none⟩ (.complex .f64 t.c.re t.c.im)).setCell ⟨n9, 1, none⟩ (.float .f64 t.r)).cell? ⟨bb, o, none⟩ = W.cell? ⟨bb, o, none⟩ := fun bb o hb => by
    rw [World.cell?_setCell_other _ _ _ _ (fun e => hb (by injection e with e1; exact e1.symm)), World.cell?_setCell_other _ _ _ _ (fun e => hb (by injection e with e1; exact e1.symm))]
  have fz : ∀ (p : Addr), ((W.setCell ⟨n9, 0, none⟩ (.complex .f64 t.c.re t.c.im)).setCell ⟨n9, 1, none⟩ (.float .f64 t.r)).frozen? p = W.frozen? p := fun p => by simp
  have c0 := h.s0
  have c1 := h.s1
  refine ⟨?_, ?_, (fz _).trans h.f0, (fz _).trans h.f1, (far _ _ (by omega)).trans h.z0, (far _ _ (by omega)).trans h.z1, (fz _).trans h.g0, (fz _).trans h.g1, fun k c hc => ⟨(far _ _ (by omega)).trans (h.row k c hc).1, (far _ _ (by omega)).trans (h.row k c hc).2⟩,
    ⟨(far _ _ (by omega)).trans h.at_.c0, (far _ _ (by omega)).trans h.at_.c1⟩, h.ord, (Below.setCell (Below.setCell h.kept (by dsimp only; omega) _) (by dsimp only; omega) _)⟩
  · go_simp
  · go_simp
theorem WalkC.start {w w1 : World} {n8 cb lb lo : Nat} {l : List Ba} {b s : Ba} {t : TypeId} (hrow : BallsAt w lb lo l) (hl : 0 < l.length) (hb : BallAt w cb b) (hk : Kept w w1) (h8 : w.heap.size ≤ n8)
    (z0 : w1.cell? ⟨n8, 0, none⟩ = some (.complex .f64 0 0)) (z1 : w1.cell? ⟨n8, 1, none⟩ = some (.float .f64 0)) (g0 : w1.frozen? ⟨n8, 0, none⟩ = false) (g1 : w1.frozen? ⟨n8, 1, none⟩ = false) :
    WalkC w n8 w1.heap.size cb lb lo l b s (w1.alloc (.cells #[.complex .f64 s.c.re s.c.im, .float .f64 s.r] t)) := by
  have ka : Kept w1 (w1.alloc (.cells #[.complex .f64 s.c.re s.c.im, .float .f64 s.r] t)) := (Below.refl _ w1).alloc (Nat.le_refl _) _
  have l8 := lt_of_cell z0
  refine ⟨?_, ?_, ?_, ?_, (ka.cells _ _ l8).trans z0, (ka.cells _ _ l8).trans z1, (ka.thaw _ _ l8).trans g0, (ka.thaw _ _ l8).trans g1, (hrow.kept hk).kept ka, (hb.kept hk).kept ka, ⟨h8, l8, ?_, lt_of_cell hb.c0⟩, hk.trans' ka⟩
  · go_simp
  · go_simp
  · go_simp
  · go_simp
  · exact lt_of_cell (hrow 0 l[0] (List.getElem?_eq_getElem hl)).1

set_option maxRecDepth 100000 in
set_option maxHeartbeats 1600000 in
theorem walk_any (l : List Ba) (b r : Ba) (h : hornO b l = some r) (hl : l.length ≤ 17) (lb lo c cb : Nat) (z : Ba) (w : World) (hrow : BallsAt w lb lo l) (hb : BallAt w cb b) :
    Calls Tryz.prog 292 #[.slice (some ⟨lb, lo, none⟩) l.length c, z.v, .func (.func 293) #[] #[], .func (.func 294) #[] #[.pointer (some ⟨cb, 0, none⟩)]] w fun e w' => e = .returned r.v ∧ Kept w w' := by
  obtain ⟨G, hG0, hG1, hG2⟩ := horn_way b l r h
  have hpos : 0 < l.length := by
    cases l with
    | nil => cases h
    | cons x l => simp
  obtain ⟨n, hn⟩ : ∃ n, l.length = n := ⟨_, rfl⟩
  have hlast := hG1 l[l.length - 1] (List.getElem?_eq_getElem (by omega))
  have hcl := hrow (l.length - 1) l[l.length - 1] (List.getElem?_eq_getElem (by omega))
  obtain ⟨s, hs⟩ : ∃ s, l[l.length - 1] = s := ⟨_, rfl⟩
  rw [hs] at hlast hcl
  rw [hn] at hlast hcl hpos hl ⊢
  have C1 := hide (fun W => on1_any s W)
  have HG := hide (fun (j : Nat) (hj : j + 1 < n) => hG2 j (l[j]'(by omega)) (by omega) (List.getElem?_eq_getElem (by omega)))
  obtain ⟨c0, c1⟩ := hcl
  have hlb := lt_of_cell c0
  have HR := hide hrow
  have HB := hide hb
  have HL := hide hlast
  have hne : ((n : Int) == 0) = false := by rw [beq_eq_false_iff_ne]; omega
  have k1 : (0 : Int) ≤ (n : Int) - 1 := by omega
  have k2 : (n : Int) - 1 < n := by omega
  have k3 : ((n : Int) - 1).toNat = n - 1 := by omega
  have k4 : IntKind.i64.wrap ((n : Int) - 1) = (n : Int) - 1 := IntWalk.i64_in _ (by omega)
  have k5 : IntKind.i64.wrap ((n : Int) - 2) = (n : Int) - 2 := IntWalk.i64_in _ (by omega)
  clear hrow hb hG1 hG2 hlast hs h
  obtain ⟨⟨s1, s2⟩, sr⟩ := s
  obtain ⟨⟨z1, z2⟩, zr⟩ := z
  obtain ⟨⟨r1, r2⟩, rr⟩ := r
  unfold Ba.v at *
  dsimp only at C1 c0 c1 ⊢
  go_enter Tryz.func292, Tryz.ntmps292
  go_wp2_with fail
  refine (C1.out _).mono ?_
  rintro e w1 ⟨rfl, hk1⟩
  have z0 : w1.cell? ⟨w.heap.size + 1, 0, none⟩ = some (.complex .f64 0 0) := (hk1.cells _ _ (by simp)).trans (by go_simp)
  have q1 : w1.cell? ⟨w.heap.size + 1, 1, none⟩ = some (.float .f64 0) := (hk1.cells _ _ (by simp)).trans (by go_simp)
  have g0 : w1.frozen? ⟨w.heap.size + 1, 0, none⟩ = false := (hk1.thaw _ _ (by simp)).trans (by go_simp)
  have g1 : w1.frozen? ⟨w.heap.size + 1, 1, none⟩ = false := (hk1.thaw _ _ (by simp)).trans (by go_simp)
  have HS : WalkC w (w.heap.size + 1) w1.heap.size cb lb lo l b ⟨⟨s1, s2⟩, sr⟩ _ := WalkC.start (t := 109) (s := ⟨⟨s1, s2⟩, sr⟩) HR.out (by omega) HB.out ((((Below.refl _ w).alloc (Nat.le_refl _) _).alloc (by simp) _).trans (hk1.mono (by simp; omega))) (Nat.le_succ _) z0 q1 g0 g1
  replace HS := hide HS
  clear z0 q1 g0 g1 hk1 c0 c1 HR HB C1 hlb
  go_wp2_with fail
  obtain ⟨N9, hN9⟩ : ∃ N, w1.heap.size = N := ⟨_, rfl⟩
  rw [hN9] at HS ⊢
  generalize w1.alloc (.cells #[.complex .f64 s1 s2, .float .f64 sr] 109) = w2 at HS ⊢
  rw [← HL.out] at HS
  clear hN9 HL k1 k2 k3 k4 k5
  go_loopg [10] (n - 1) (fun gh ix wr => ix = .int .i64 ((gh : Int) - 1) ∧ gh < n ∧ WalkC w (w.heap.size + 1) N9 cb lb lo l b (G gh) wr)
  case atStart => exact ⟨by congr 1; omega, by omega, HS.out⟩
  case round =>
    obtain ⟨rfl, hgn, hW⟩ := hrel
    cases gk with
    | zero =>
      rw [hG0] at hW
      have e0 := hW.s0
      have e1 := hW.s1
      have e2 := hW.z0
      have e3 := hW.z1
      have e4 := hW.g0
      have e5 := hW.g1
      have e6 := lt_of_cell hW.z0
      have HW := hide hW
      clear hW
      dsimp only at e0 e1
      go_wp2
      refine bodyPost_ret (v := .agg #[.complex .f64 r1 r2, .float .f64 rr]) (by simp [results, Tryz.results292, go_sem, e2, e3, e6]) rfl ⟨rfl, Below.setCell (Below.setCell HW.out.kept (by dsimp only; omega) _) (by dsimp only; omega) _⟩
    | succ gh =>
      have hI : ((gh + 1 : Nat) : Int) - 1 = gh := by omega
      rw [hI]
      have i0 : (0 : Int) ≤ gh := by omega
      have i1 : (gh : Int) < n := by omega
      have i2 : IntKind.i64.wrap ((gh : Int) - 1) = (gh : Int) - 1 := IntWalk.i64_in _ (by omega)
      obtain ⟨m, hm, hr⟩ := HG.out gh (by omega)
      obtain ⟨y, hy⟩ : ∃ y, l[gh]'(by omega) = y := ⟨_, rfl⟩
      rw [hy] at hr
      have hyl : l[gh]? = some y := by rw [List.getElem?_eq_getElem (by omega), hy]
      have CO := hide (fun (W : World) (hb : BallAt W cb b) => on2_any (G (gh + 1)) y b m (G gh) cb hm hr W hb)
      have HY := hide hyl
      clear hy hm hr hI hyl
      have HW := hide hW
      clear hW
      obtain ⟨S, hS⟩ : ∃ S, G (gh + 1) = S := ⟨_, rfl⟩
      obtain ⟨T, hT⟩ : ∃ S, G gh = S := ⟨_, rfl⟩
      rw [hS] at HW CO
      rw [hT] at CO
      unfold Ba.v at CO
      go_wp2_with fail
      refine wp_region_T (WalkC w (w.heap.size + 1) N9 cb lb lo l b S) 7 (by kernel_rfl) (by kernel_rfl) ?_ ?_
      · exact HW.out.on (kept_drew _)
      dsimp only [List.take]
      refine wpQuiet_take (v := ?_) (some 30) rfl (by kernel_rfl) (fun wr hw => ?_) ?_
      rotate_left
      · (have e0 := hw.s0; have e1 := hw.s1; have e2 := hw.f0; have e3 := hw.f1; have e4 := (hw.row gh y HY.out).1; have e5 := (hw.row gh y HY.out).2; have e6 := lt_of_cell hw.s0); go_simp; (try with_reducible rfl)
      try simp only [Act.put, List.setIfInBounds_toArray, List.set_cons_zero, List.set_cons_succ]
      refine wpQuiet_take (v := ?_) (some 31) rfl (by kernel_rfl) (fun wr hw => ?_) ?_
      rotate_left
      · (have e0 := hw.s0; have e1 := hw.s1; have e2 := hw.f0; have e3 := hw.f1; have e4 := (hw.row gh y HY.out).1; have e5 := (hw.row gh y HY.out).2; have e6 := lt_of_cell hw.s0); go_simp; (try with_reducible rfl)
      try simp only [Act.put, List.setIfInBounds_toArray, List.set_cons_zero, List.set_cons_succ]
      refine wpQuiet_take (v := ?_) (some 32) rfl (by kernel_rfl) (fun wr hw => ?_) ?_
      rotate_left
      · (have e0 := hw.s0; have e1 := hw.s1; have e2 := hw.f0; have e3 := hw.f1; have e4 := (hw.row gh y HY.out).1; have e5 := (hw.row gh y HY.out).2; have e6 := lt_of_cell hw.s0); go_simp; (try with_reducible rfl)
      try simp only [Act.put, List.setIfInBounds_toArray, List.set_cons_zero, List.set_cons_succ]
      refine wpQuiet_take (v := ?_) (some 33) rfl (by kernel_rfl) (fun wr hw => ?_) ?_
      rotate_left
      · (have e0 := hw.s0; have e1 := hw.s1; have e2 := hw.f0; have e3 := hw.f1; have e4 := (hw.row gh y HY.out).1; have e5 := (hw.row gh y HY.out).2; have e6 := lt_of_cell hw.s0); go_simp; (try with_reducible rfl)
      try simp only [Act.put, List.setIfInBounds_toArray, List.set_cons_zero, List.set_cons_succ]
      refine wpQuiet_take (v := ?_) (some 34) rfl (by kernel_rfl) (fun wr hw => ?_) ?_
      rotate_left
      · (have e0 := hw.s0; have e1 := hw.s1; have e2 := hw.f0; have e3 := hw.f1; have e4 := (hw.row gh y HY.out).1; have e5 := (hw.row gh y HY.out).2; have e6 := lt_of_cell hw.s0); go_simp; (try with_reducible rfl)
      try simp only [Act.put, List.setIfInBounds_toArray, List.set_cons_zero, List.set_cons_succ]
      refine wpQuiet_take (v := ?_) (some 35) rfl (by kernel_rfl) (fun wr hw => ?_) ?_
      rotate_left
      · (have e0 := hw.s0; have e1 := hw.s1; have e2 := hw.f0; have e3 := hw.f1; have e4 := (hw.row gh y HY.out).1; have e5 := (hw.row gh y HY.out).2; have e6 := lt_of_cell hw.s0); go_simp; (try with_reducible rfl)
      try simp only [Act.put, List.setIfInBounds_toArray, List.set_cons_zero, List.set_cons_succ]
      refine wpQuiet_call (v := ?_) (f := ?_) (args := ?_) (some 36) rfl (by kernel_rfl) (fun wr hw => ?_) (fun wr hw => ?_) ?_
      rotate_left 3
      · (have e0 := hw.s0; have e1 := hw.s1; have e2 := hw.f0; have e3 := hw.f1; have e4 := (hw.row gh y HY.out).1; have e5 := (hw.row gh y HY.out).2; have e6 := lt_of_cell hw.s0); go_simp; refine ⟨?_, ?_⟩ <;> with_reducible rfl
      · refine (CO.out wr hw.at_).mono ?_; rintro e w' ⟨rfl, hk⟩; refine ⟨?_, hw.on hk⟩; with_reducible rfl
      try simp only [Act.put, List.setIfInBounds_toArray, List.set_cons_zero, List.set_cons_succ]
      refine wpQuiet_nil ?_
      intro wq hq
      refine wpOp_last rfl (fun K hK => ?_)
      (have e0 := hq.s0; have e1 := hq.s1; have e2 := hq.f0; have e3 := hq.f1; have e4 := (hq.row gh y HY.out).1; have e5 := (hq.row gh y HY.out).2; have e6 := lt_of_cell hq.s0)
      go_simp
      refine hK.out _ _ ?_
      clear hK K
      try simp only [Act.put, List.setIfInBounds_toArray, List.set_cons_zero, List.set_cons_succ]
      have HQ := hide (hq.put T)
      clear hq HW CO e0 e1 e2 e3 e4 e5 e6
      go_wp2_with fail
      go_roundg gh
      case measure => omega
      case rel => exact ⟨rfl, by omega, hT ▸ HQ.out⟩
end Go.Proofs.YtneakieigiafpaaGreatDoor
