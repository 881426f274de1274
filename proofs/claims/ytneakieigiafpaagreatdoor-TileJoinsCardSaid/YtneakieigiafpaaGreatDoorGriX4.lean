/- Grid, RectW, RectR, AtG: texts of one claim laid together. -/
import Derived.Test.YtneakieigiafpaaGreatDoorMemX
import Derived.Deep.DeepCutAuto
import Derived.IntWalk
/- Windows and grids: view.side, view.count, view.Check, tile.counted, tile.Check, tile.Count, tile.rect, tile.Rect, walked. -/
namespace Go.Proofs.YtneakieigiafpaaGreatDoor
open Go.RowKit

structure GrD where
  re : DyD
  im : DyD
  exp : Int
  across : Int
  down : Int
  wide : Int
  high : Int
def in64 (x : Int) : Prop := -9223372036854775808 ≤ x ∧ x ≤ 9223372036854775807
structure GrD.ok (g : GrD) : Prop where
  re : g.re.ok
  im : g.im.ok
  exp : in64 g.exp
  across : in64 g.across
  down : in64 g.down
  wide : in64 g.wide
  high : in64 g.high
def viewB (g : GrD) : Bool := (dyadB g.re && dyadB g.im) && (decide (-4096 ≤ g.exp ∧ g.exp ≤ 4096) && (decide (1 ≤ g.across ∧ g.across ≤ 65536) && decide (1 ≤ g.down ∧ g.down ≤ 65536)))
def gridA (g : GrD) : Int := (g.across + g.wide - 1) / g.wide
def gridD (g : GrD) : Int := (g.down + g.high - 1) / g.high
def cellsB (g : GrD) : Bool := decide (1 ≤ g.wide ∧ 1 ≤ g.high ∧ g.wide ≤ 65536 ∧ g.high ≤ 65536 ∧ g.wide * g.high ≤ 65536)
def gridI (g : GrD) : Int := if viewB g then (if cellsB g then (if gridA g * gridD g ≤ 65536 then 0 else 2) else 2) else 240

set_option maxHeartbeats 400000 in
theorem side_any (n : Int) (w : World) : Calls Tryz.prog 120 #[.int .i64 n] w fun e w' => e = .returned (.bool (decide (-4096 ≤ n ∧ n ≤ 4096))) ∧ w = w' := by
  by_cases h1 : -4096 ≤ n
  · go_enter Tryz.func120, Tryz.ntmps120
    go_wp2
    go_ret
    exact ⟨by simp [h1], rfl⟩
  · go_enter Tryz.func120, Tryz.ntmps120
    go_wp2
    go_ret
    exact ⟨by simp; omega, rfl⟩
set_option maxHeartbeats 400000 in
theorem vcount_any (n : Int) (w : World) : Calls Tryz.prog 121 #[.int .i64 n] w fun e w' => e = .returned (.bool (decide (1 ≤ n ∧ n ≤ 65536))) ∧ w = w' := by
  by_cases h1 : 1 ≤ n
  · go_enter Tryz.func121, Tryz.ntmps121
    go_wp2
    go_ret
    exact ⟨by simp [h1], rfl⟩
  · go_enter Tryz.func121, Tryz.ntmps121
    go_wp2
    go_ret
    exact ⟨by simp; omega, rfl⟩


set_option maxRecDepth 100000 in
set_option maxHeartbeats 1600000 in
theorem viewcheck_any (g : GrD) (w : World) (hg : g.ok) : Calls Tryz.prog 57 #[.agg #[.bool g.re.neg, .string g.re.n, .int .i64 g.re.e, .bool g.im.neg, .string g.im.n, .int .i64 g.im.e, .int .i64 g.exp, .int .i64 g.across, .int .i64 g.down]] w fun e w' => e = .returned (.int .i64 (if viewB g then 0 else 240)) ∧ Kept w w' := by
  have CG := hide (fun (W : World) => gausscheck_any g.re g.im W hg.re hg.im)
  cases h0 : (dyadB g.re && dyadB g.im) with
  | false =>
    rw [show gaussI g.re g.im = 2 by simp only [gaussI, h0]; rfl] at CG
    rw [show viewB g = false by simp only [viewB, h0, Bool.false_and]]
    clear h0 hg
    go_enter Tryz.func57, Tryz.ntmps57
    go_wp2_with (go_at_call 119; refine (CG.out _).mono ?_; rintro e w1 ⟨rfl, hk1⟩)
    go_ret
    exact ⟨rfl, ((Below.refl _ w).alloc (Nat.le_refl _) _).trans (hk1.mono (by simp))⟩
  | true =>
    rw [show gaussI g.re g.im = 0 by simp only [gaussI, h0]; rfl] at CG
    have CS := hide (fun (W : World) => side_any g.exp W)
    have C1 := hide (fun (W : World) => vcount_any g.across W)
    have C2 := hide (fun (W : World) => vcount_any g.down W)
    obtain ⟨s, hs⟩ : ∃ s, s = decide (-4096 ≤ g.exp ∧ g.exp ≤ 4096) := ⟨_, rfl⟩
    obtain ⟨x, hx⟩ : ∃ s, s = decide (1 ≤ g.across ∧ g.across ≤ 65536) := ⟨_, rfl⟩
    obtain ⟨y, hy⟩ : ∃ s, s = decide (1 ≤ g.down ∧ g.down ≤ 65536) := ⟨_, rfl⟩
    rw [show viewB g = (s && (x && y)) by rw [viewB, h0, hs, hx, hy, Bool.true_and]]
    rw [← hs] at CS
    rw [← hx] at C1
    rw [← hy] at C2
    clear h0 hg hs hx hy
    go_enter Tryz.func57, Tryz.ntmps57
    go_wp2_with fail
    refine (CG.out _).mono ?_
    rintro e w1 ⟨rfl, hk1⟩
    have c6 := (hk1.cells w.heap.size 6 (by simp))
    have c7 := (hk1.cells w.heap.size 7 (by simp))
    have c8 := (hk1.cells w.heap.size 8 (by simp))
    simp at c6 c7 c8
    have hz5 := lt_of_cell c6
    have K1 := hide (((Below.refl _ w).alloc (Nat.le_refl _) (.cells #[.bool g.re.neg, .string g.re.n, .int .i64 g.re.e, .bool g.im.neg, .string g.im.n, .int .i64 g.im.e, .int .i64 g.exp, .int .i64 g.across, .int .i64 g.down] 29)).trans (hk1.mono (by simp)))
    clear hk1
    cases s with
    | false =>
      go_wp2_with (go_at_call 120; refine (CS.out _).mono ?_; rintro e w2 ⟨rfl, rfl⟩)
      go_ret
      exact ⟨rfl, K1.out⟩
    | true =>
      cases x with
      | false =>
        go_wp2_with (first
          | (go_at_call 120; refine (CS.out _).mono ?_; rintro e w2 ⟨rfl, rfl⟩)
          | (go_at_call 121; refine (C1.out _).mono ?_; rintro e w2 ⟨rfl, rfl⟩))
        go_ret
        exact ⟨rfl, K1.out⟩
      | true =>
        cases y with
        | false =>
          go_wp2_with (go_at_call 120; refine (CS.out _).mono ?_; rintro e w2 ⟨rfl, rfl⟩)
          refine (C1.out _).mono ?_
          rintro e w2 ⟨rfl, rfl⟩
          go_wp2_with fail
          refine (C2.out _).mono ?_
          rintro e w2 ⟨rfl, rfl⟩
          go_wp2_with fail
          go_ret
          exact ⟨rfl, K1.out⟩
        | true =>
          go_wp2_with (go_at_call 120; refine (CS.out _).mono ?_; rintro e w2 ⟨rfl, rfl⟩)
          refine (C1.out _).mono ?_
          rintro e w2 ⟨rfl, rfl⟩
          go_wp2_with fail
          refine (C2.out _).mono ?_
          rintro e w2 ⟨rfl, rfl⟩
          go_wp2_with fail
          go_ret
          exact ⟨rfl, K1.out⟩


structure GrBnd (g : GrD) : Prop where
  a0 : 1 ≤ g.across
  a1 : g.across ≤ 65536
  d0 : 1 ≤ g.down
  d1 : g.down ≤ 65536
  w0 : 1 ≤ g.wide
  w1 : g.wide ≤ 65536
  h0 : 1 ≤ g.high
  h1 : g.high ≤ 65536
theorem viewB_bnd {g : GrD} (h : viewB g = true) : 1 ≤ g.across ∧ g.across ≤ 65536 ∧ 1 ≤ g.down ∧ g.down ≤ 65536 := by
  simp only [viewB, Bool.and_eq_true, decide_eq_true_eq] at h
  exact ⟨h.2.2.1.1, h.2.2.1.2, h.2.2.2.1, h.2.2.2.2⟩
theorem grid_bnd {g : GrD} (h : viewB g = true) (hc : cellsB g = true) : GrBnd g := by
  obtain ⟨h1, h2, h3, h4⟩ := viewB_bnd h
  simp only [cellsB, decide_eq_true_eq] at hc
  exact ⟨h1, h2, h3, h4, hc.1, hc.2.2.1, hc.2.1, hc.2.2.2.1⟩
theorem quo_bnd {x y : Int} (h0 : 1 ≤ x) (h1 : x ≤ 65536) (h2 : 1 ≤ y) : 1 ≤ (x + y - 1) / y ∧ (x + y - 1) / y ≤ x := by
  refine ⟨(Int.le_ediv_iff_mul_le (by omega)).2 (by omega), ?_⟩
  have h3 : 0 ≤ (x - 1) * (y - 1) := Int.mul_nonneg (by omega) (by omega)
  rw [Int.sub_mul, Int.mul_sub] at h3
  have h4 : x + y - 1 < (x + 1) * y := by rw [Int.add_mul]; omega
  have := Int.ediv_lt_of_lt_mul (show 0 < y by omega) h4
  omega
theorem GrBnd.gA {g : GrD} (h : GrBnd g) : 1 ≤ gridA g ∧ gridA g ≤ 65536 := by
  have := quo_bnd h.a0 h.a1 h.w0
  have h2 := h.a1
  unfold gridA; omega
theorem GrBnd.gD {g : GrD} (h : GrBnd g) : 1 ≤ gridD g ∧ gridD g ≤ 65536 := by
  have := quo_bnd h.d0 h.d1 h.h0
  have h2 := h.d1
  unfold gridD; omega

set_option maxRecDepth 100000 in
set_option maxHeartbeats 1600000 in
theorem counted_any (g : GrD) (w : World) (hg : GrBnd g) : Calls Tryz.prog 58 #[.agg #[.bool g.re.neg, .string g.re.n, .int .i64 g.re.e, .bool g.im.neg, .string g.im.n, .int .i64 g.im.e, .int .i64 g.exp, .int .i64 g.across, .int .i64 g.down, .int .i64 g.wide, .int .i64 g.high]] w fun e w' => e = .returned (.tuple #[.int .i64 (gridA g), .int .i64 (gridD g)]) ∧ Kept w w' := by
  obtain ⟨a0, a1, d0, d1, w0, w1, h0, h1⟩ := hg
  have e1 : IntKind.i64.wrap (g.across + g.wide) = g.across + g.wide := IntWalk.i64_in _ (by omega)
  have e2 : IntKind.i64.wrap (g.across + g.wide - 1) = g.across + g.wide - 1 := IntWalk.i64_in _ (by omega)
  have e3 : IntKind.i64.wrap (g.down + g.high) = g.down + g.high := IntWalk.i64_in _ (by omega)
  have e4 : IntKind.i64.wrap (g.down + g.high - 1) = g.down + g.high - 1 := IntWalk.i64_in _ (by omega)
  have q1 := quo_bnd a0 a1 w0
  have q2 := quo_bnd d0 d1 h0
  have n1 : (g.wide == 0) = false := by simp; omega
  have n2 : (g.high == 0) = false := by simp; omega
  have n3 : 0 ≤ g.across + g.wide - 1 := by omega
  have n4 : 0 ≤ g.down + g.high - 1 := by omega
  have t1 : Int.tdiv (g.across + g.wide - 1) g.wide = gridA g := Int.tdiv_eq_ediv_of_nonneg n3
  have t2 : Int.tdiv (g.down + g.high - 1) g.high = gridD g := Int.tdiv_eq_ediv_of_nonneg n4
  have t3 : IntKind.i64.wrap (gridA g) = gridA g := IntWalk.i64_in _ (by unfold gridA; omega)
  have t4 : IntKind.i64.wrap (gridD g) = gridD g := IntWalk.i64_in _ (by unfold gridD; omega)
  clear q1 q2
  go_enter Tryz.func58, Tryz.ntmps58
  go_wp2_with fail
  go_quiet (fail)
  go_wp2_with fail
  go_ret2
  exact ⟨rfl, drewN_below ((Below.refl _ _).alloc (Nat.le_refl _) _) _⟩

set_option maxRecDepth 100000 in
set_option maxHeartbeats 3200000 in
theorem tcheck_any (g : GrD) (w : World) (hg : g.ok) : Calls Tryz.prog 18 #[.agg #[.bool g.re.neg, .string g.re.n, .int .i64 g.re.e, .bool g.im.neg, .string g.im.n, .int .i64 g.im.e, .int .i64 g.exp, .int .i64 g.across, .int .i64 g.down, .int .i64 g.wide, .int .i64 g.high]] w fun e w' => e = .returned (.int .i64 (gridI g)) ∧ Kept w w' := by
  have CV := hide (fun (W : World) => viewcheck_any g W hg)
  cases hv : viewB g with
  | false =>
    rw [hv] at CV
    rw [show gridI g = 240 by simp [gridI, hv]]
    clear hv hg
    go_enter Tryz.func18, Tryz.ntmps18
    go_wp2_with (go_at_call 57; refine (CV.out _).mono ?_; rintro e w1 ⟨rfl, hk1⟩)
    go_ret
    exact ⟨rfl, ((Below.refl _ w).alloc (Nat.le_refl _) _).trans (hk1.mono (by simp))⟩
  | true =>
    rw [hv] at CV
    have hb := viewB_bnd hv
    obtain ⟨w0, w1⟩ := hg.wide
    obtain ⟨h0, h1⟩ := hg.high
    have BX : Hid (∀ W, Kept (w.alloc (.cells #[.bool g.re.neg, .string g.re.n, .int .i64 g.re.e, .bool g.im.neg, .string g.im.n, .int .i64 g.im.e, .int .i64 g.exp, .int .i64 g.across, .int .i64 g.down, .int .i64 g.wide, .int .i64 g.high] 31)) W → W.cell? ⟨w.heap.size, 9, none⟩ = some (.int .i64 g.wide) ∧ W.cell? ⟨w.heap.size, 10, none⟩ = some (.int .i64 g.high)) := fun W hW => ⟨(hW.cells w.heap.size 9 (by simp)).trans (by simp), (hW.cells w.heap.size 10 (by simp)).trans (by simp)⟩
    by_cases hc : 1 ≤ g.wide ∧ 1 ≤ g.high ∧ g.wide ≤ 65536 ∧ g.high ≤ 65536
    · obtain ⟨c1, c2, c3, c4⟩ := hc
      have m1 : 0 ≤ g.wide * g.high := Int.mul_nonneg (by omega) (by omega)
      have m2 : g.wide * g.high ≤ 65536 * 65536 := Int.mul_le_mul c3 c4 (by omega) (by omega)
      have s1 : ¬ g.wide < 1 := by omega
      have s2 : ¬ g.high < 1 := by omega
      have s3 : ¬ 65536 < g.wide := by omega
      have s4 : ¬ 65536 < g.high := by omega
      by_cases hm : g.wide * g.high ≤ 65536
      · have hB : cellsB g = true := by simp only [cellsB, decide_eq_true_eq]; exact ⟨c1, c2, c3, c4, hm⟩
        have hG := grid_bnd hv hB
        have s5 : ¬ 65536 < g.wide * g.high := by omega
        have CC := hide (fun (W : World) => counted_any g W hG)
        obtain ⟨ga0, ga1⟩ := hG.gA
        obtain ⟨gd0, gd1⟩ := hG.gD
        have p1 : 0 ≤ gridA g * gridD g := Int.mul_nonneg (by omega) (by omega)
        have p2 : gridA g * gridD g ≤ 65536 * 65536 := Int.mul_le_mul ga1 gd1 (by omega) (by omega)
        have HI : Hid (gridI g = if gridA g * gridD g ≤ 65536 then 0 else 2) := by show _ = _; simp [gridI, hv, hB]
        have BA : Hid (∀ W, Kept (w.alloc (.cells #[.bool g.re.neg, .string g.re.n, .int .i64 g.re.e, .bool g.im.neg, .string g.im.n, .int .i64 g.im.e, .int .i64 g.exp, .int .i64 g.across, .int .i64 g.down, .int .i64 g.wide, .int .i64 g.high] 31)) W → W.cell? ⟨w.heap.size, 0, none⟩ = some (.bool g.re.neg) ∧ W.cell? ⟨w.heap.size, 1, none⟩ = some (.string g.re.n) ∧ W.cell? ⟨w.heap.size, 2, none⟩ = some (.int .i64 g.re.e) ∧ W.cell? ⟨w.heap.size, 3, none⟩ = some (.bool g.im.neg) ∧ W.cell? ⟨w.heap.size, 4, none⟩ = some (.string g.im.n) ∧ W.cell? ⟨w.heap.size, 5, none⟩ = some (.int .i64 g.im.e) ∧ W.cell? ⟨w.heap.size, 6, none⟩ = some (.int .i64 g.exp) ∧ W.cell? ⟨w.heap.size, 7, none⟩ = some (.int .i64 g.across) ∧ W.cell? ⟨w.heap.size, 8, none⟩ = some (.int .i64 g.down) ∧ W.cell? ⟨w.heap.size, 9, none⟩ = some (.int .i64 g.wide) ∧ W.cell? ⟨w.heap.size, 10, none⟩ = some (.int .i64 g.high)) := fun W hW => ⟨(hW.cells w.heap.size 0 (by simp)).trans (by simp), (hW.cells w.heap.size 1 (by simp)).trans (by simp), (hW.cells w.heap.size 2 (by simp)).trans (by simp), (hW.cells w.heap.size 3 (by simp)).trans (by simp), (hW.cells w.heap.size 4 (by simp)).trans (by simp), (hW.cells w.heap.size 5 (by simp)).trans (by simp), (hW.cells w.heap.size 6 (by simp)).trans (by simp), (hW.cells w.heap.size 7 (by simp)).trans (by simp), (hW.cells w.heap.size 8 (by simp)).trans (by simp), (hW.cells w.heap.size 9 (by simp)).trans (by simp), (hW.cells w.heap.size 10 (by simp)).trans (by simp)⟩
        generalize gridA g = ga at *
        generalize gridD g = gd at *
        clear hv hg hB hG hb BX
        go_enter Tryz.func18, Tryz.ntmps18
        go_wp2_with fail
        refine (CV.out _).mono ?_
        rintro e w1 ⟨rfl, hk1⟩
        obtain ⟨q0, q1, q2, q3, q4, q5, q6, q7, q8, q9, q10⟩ := BA.out w1 hk1
        have hz1 := lt_of_cell q0
        have K1 := hide (((Below.refl _ w).alloc (Nat.le_refl _) (.cells #[.bool g.re.neg, .string g.re.n, .int .i64 g.re.e, .bool g.im.neg, .string g.im.n, .int .i64 g.im.e, .int .i64 g.exp, .int .i64 g.across, .int .i64 g.down, .int .i64 g.wide, .int .i64 g.high] 31)).trans (hk1.mono (by simp)))
        clear hk1
        go_wp2_with fail
        refine (CC.out _).mono ?_
        rintro e w2 ⟨rfl, hk2⟩
        have K2 := hide (K1.out.trans (hk2.mono K1.out.size))
        clear hk2 q0 q1 q2 q3 q4 q5 q6 q7 q8 q9 q10
        go_wp2_with fail
        all_goals
          go_ret
          refine ⟨int_ret ?_, K2.out⟩
          rw [HI.out]
          split <;> first | rfl | omega
      · have s5 : 65536 < g.wide * g.high := by omega
        have HI : Hid (gridI g = 2) := by
          show _ = _
          rw [gridI, hv, if_pos rfl, if_neg]
          intro h; simp only [cellsB, decide_eq_true_eq] at h; exact hm h.2.2.2.2
        clear hv hg hm hb
        go_enter Tryz.func18, Tryz.ntmps18
        go_wp2_with (go_at_call 57; refine (CV.out _).mono ?_; rintro e w1 ⟨rfl, hk1⟩; obtain ⟨q9, q10⟩ := BX.out w1 hk1; have K1 := hide (((Below.refl _ w).alloc (Nat.le_refl _) (.cells #[.bool g.re.neg, .string g.re.n, .int .i64 g.re.e, .bool g.im.neg, .string g.im.n, .int .i64 g.im.e, .int .i64 g.exp, .int .i64 g.across, .int .i64 g.down, .int .i64 g.wide, .int .i64 g.high] 31)).trans (hk1.mono (by simp))); clear hk1)
        go_ret
        exact ⟨int_ret HI.out.symm, K1.out⟩
    · have HC := hide hc
      have HI : Hid (gridI g = 2) := by
        show _ = _
        rw [gridI, hv, if_pos rfl, if_neg]
        intro h; simp only [cellsB, decide_eq_true_eq] at h; exact hc ⟨h.1, h.2.1, h.2.2.1, h.2.2.2.1⟩
      clear hv hg hc hb
      go_enter Tryz.func18, Tryz.ntmps18
      go_wp2_with (go_at_call 57; refine (CV.out _).mono ?_; rintro e w1 ⟨rfl, hk1⟩; obtain ⟨q9, q10⟩ := BX.out w1 hk1; have K1 := hide (((Below.refl _ w).alloc (Nat.le_refl _) (.cells #[.bool g.re.neg, .string g.re.n, .int .i64 g.re.e, .bool g.im.neg, .string g.im.n, .int .i64 g.im.e, .int .i64 g.exp, .int .i64 g.across, .int .i64 g.down, .int .i64 g.wide, .int .i64 g.high] 31)).trans (hk1.mono (by simp))); clear hk1)
      all_goals first
        | (exfalso; have := HC.out; omega)
        | (go_ret; exact ⟨int_ret HI.out.symm, K1.out⟩)


def cntA (g : GrD) : Int := if gridI g = 0 then gridA g else 0
def cntD (g : GrD) : Int := if gridI g = 0 then gridD g else 0
theorem gridI_ok {g : GrD} (h : gridI g = 0) : GrBnd g ∧ gridA g * gridD g ≤ 65536 := by
  cases hv : viewB g with
  | false => simp [gridI, hv] at h
  | true =>
    cases hc : cellsB g with
    | false => simp [gridI, hv, hc] at h
    | true =>
      refine ⟨grid_bnd hv hc, ?_⟩
      simp only [gridI, hv, hc, if_true] at h
      split at h
      · assumption
      · omega

set_option maxRecDepth 100000 in
set_option maxHeartbeats 1600000 in
theorem tcount_any (g : GrD) (w : World) (hg : g.ok) : Calls Tryz.prog 19 #[.agg #[.bool g.re.neg, .string g.re.n, .int .i64 g.re.e, .bool g.im.neg, .string g.im.n, .int .i64 g.im.e, .int .i64 g.exp, .int .i64 g.across, .int .i64 g.down, .int .i64 g.wide, .int .i64 g.high]] w fun e w' => e = .returned (.tuple #[.int .i64 (cntA g), .int .i64 (cntD g), .int .i64 (gridI g)]) ∧ Kept w w' := by
  have CV := hide (fun (W : World) => tcheck_any g W hg)
  by_cases hI : gridI g = 0
  · obtain ⟨hB, hm⟩ := gridI_ok hI
    have CC := hide (fun (W : World) => counted_any g W hB)
    rw [show cntA g = gridA g by simp [cntA, hI], show cntD g = gridD g by simp [cntD, hI], hI]
    rw [hI] at CV
    have BA : Hid (∀ W, Kept (w.alloc (.cells #[.bool g.re.neg, .string g.re.n, .int .i64 g.re.e, .bool g.im.neg, .string g.im.n, .int .i64 g.im.e, .int .i64 g.exp, .int .i64 g.across, .int .i64 g.down, .int .i64 g.wide, .int .i64 g.high] 31)) W → W.cell? ⟨w.heap.size, 0, none⟩ = some (.bool g.re.neg) ∧ W.cell? ⟨w.heap.size, 1, none⟩ = some (.string g.re.n) ∧ W.cell? ⟨w.heap.size, 2, none⟩ = some (.int .i64 g.re.e) ∧ W.cell? ⟨w.heap.size, 3, none⟩ = some (.bool g.im.neg) ∧ W.cell? ⟨w.heap.size, 4, none⟩ = some (.string g.im.n) ∧ W.cell? ⟨w.heap.size, 5, none⟩ = some (.int .i64 g.im.e) ∧ W.cell? ⟨w.heap.size, 6, none⟩ = some (.int .i64 g.exp) ∧ W.cell? ⟨w.heap.size, 7, none⟩ = some (.int .i64 g.across) ∧ W.cell? ⟨w.heap.size, 8, none⟩ = some (.int .i64 g.down) ∧ W.cell? ⟨w.heap.size, 9, none⟩ = some (.int .i64 g.wide) ∧ W.cell? ⟨w.heap.size, 10, none⟩ = some (.int .i64 g.high)) := fun W hW => ⟨(hW.cells w.heap.size 0 (by simp)).trans (by simp), (hW.cells w.heap.size 1 (by simp)).trans (by simp), (hW.cells w.heap.size 2 (by simp)).trans (by simp), (hW.cells w.heap.size 3 (by simp)).trans (by simp), (hW.cells w.heap.size 4 (by simp)).trans (by simp), (hW.cells w.heap.size 5 (by simp)).trans (by simp), (hW.cells w.heap.size 6 (by simp)).trans (by simp), (hW.cells w.heap.size 7 (by simp)).trans (by simp), (hW.cells w.heap.size 8 (by simp)).trans (by simp), (hW.cells w.heap.size 9 (by simp)).trans (by simp), (hW.cells w.heap.size 10 (by simp)).trans (by simp)⟩
    clear hI hB hm hg
    go_enter Tryz.func19, Tryz.ntmps19
    go_wp2_with fail
    refine (CV.out _).mono ?_
    rintro e w1 ⟨rfl, hk1⟩
    obtain ⟨q0, q1, q2, q3, q4, q5, q6, q7, q8, q9, q10⟩ := BA.out w1 hk1
    have hz1 := lt_of_cell q0
    have K1 := hide (((Below.refl _ w).alloc (Nat.le_refl _) (.cells #[.bool g.re.neg, .string g.re.n, .int .i64 g.re.e, .bool g.im.neg, .string g.im.n, .int .i64 g.im.e, .int .i64 g.exp, .int .i64 g.across, .int .i64 g.down, .int .i64 g.wide, .int .i64 g.high] 31)).trans (hk1.mono (by simp)))
    clear hk1
    go_wp2_with fail
    refine (CC.out _).mono ?_
    rintro e w2 ⟨rfl, hk2⟩
    go_wp2_with fail
    go_ret3
    exact ⟨rfl, K1.out.trans (hk2.mono K1.out.size)⟩
  · rw [show cntA g = 0 by simp [cntA, hI], show cntD g = 0 by simp [cntD, hI]]
    have hne : (gridI g != 0) = true := by simp [hI]
    obtain ⟨E, hE⟩ : ∃ E, E = gridI g := ⟨_, rfl⟩
    rw [← hE] at CV hne ⊢
    clear hI hE hg
    go_enter Tryz.func19, Tryz.ntmps19
    go_wp2_with (go_at_call 18; refine (CV.out _).mono ?_; rintro e w1 ⟨rfl, hk1⟩)
    go_ret3
    exact ⟨rfl, ((Below.refl _ w).alloc (Nat.le_refl _) _).trans (hk1.mono (by simp))⟩


end Go.Proofs.YtneakieigiafpaaGreatDoor

/- tile.rect, walked. -/
namespace Go.Proofs.YtneakieigiafpaaGreatDoor
open Go.RowKit

theorem fresh_frozen (w : World) (cs : Array Value) (t : TypeId) (o : Nat) : (w.alloc (.cells cs t)).frozen? ⟨w.heap.size, o, none⟩ = false := by
  have hh : (w.alloc (.cells cs t)).heap[w.heap.size]? = some (.cells cs t (0, 0)) := by
    show (w.heap.push _)[w.heap.size]? = _
    simp
  simp only [World.frozen?, hh]; rfl
theorem rect_kept {w w1 : World} {b : Nat} {o : Obj} {x0 x1 x2 x3 : Value} (h : Kept w w1) (hb : w.heap.size ≤ b) : Kept w (((((w1.setCell ⟨b, 0, none⟩ x0).setCell ⟨b, 1, none⟩ x1).setCell ⟨b, 2, none⟩ x2).setCell ⟨b, 3, none⟩ x3).alloc o).drew :=
  (((((h.setCell hb x0).setCell hb x1).setCell hb x2).setCell hb x3).alloc (by simpa [World.setCell] using h.size) o).drew
def rectX (g : GrD) (n : Int) : Int := n % gridA g * g.wide
def rectY (g : GrD) (n : Int) : Int := n / gridA g * g.high
def rectW (g : GrD) (n : Int) : Int := min g.wide (g.across - rectX g n)
def rectH (g : GrD) (n : Int) : Int := min g.high (g.down - rectY g n)


set_option maxRecDepth 100000 in
set_option maxHeartbeats 1600000 in
theorem rect_aa (g : GrD) (n : Int) (w : World) (hg : GrBnd g) (hn0 : 0 ≤ n) (hn1 : n < 65536) (m1 : g.wide ≤ g.across - rectX g n) (m2 : g.high ≤ g.down - rectY g n) :
    Calls Tryz.prog 59 #[.agg #[.bool g.re.neg, .string g.re.n, .int .i64 g.re.e, .bool g.im.neg, .string g.im.n, .int .i64 g.im.e, .int .i64 g.exp, .int .i64 g.across, .int .i64 g.down, .int .i64 g.wide, .int .i64 g.high], .int .i64 n] w fun e w' => e = .returned (.agg #[.int .i64 (rectX g n), .int .i64 (rectY g n), .int .i64 (rectW g n), .int .i64 (rectH g n)]) ∧ Kept w w' := by
  have CC := hide (fun (W : World) => counted_any g W hg)
  obtain ⟨ga0, ga1⟩ := hg.gA
  obtain ⟨a0, a1, d0, d1, w0, w1', h0, h1⟩ := hg
  have r1 := Int.emod_nonneg n (show gridA g ≠ 0 by omega)
  have r2 := Int.emod_lt_of_pos n (show 0 < gridA g by omega)
  have r3 : 0 ≤ n / gridA g := Int.ediv_nonneg hn0 (by omega)
  have r4 : n / gridA g ≤ n := Int.ediv_le_self _ hn0
  obtain ⟨R, hR⟩ : ∃ R, R = n % gridA g := ⟨_, rfl⟩
  obtain ⟨Q, hQ⟩ : ∃ R, R = n / gridA g := ⟨_, rfl⟩
  unfold rectX at m1
  unfold rectY at m2
  rw [← hR] at m1
  rw [← hQ] at m2
  have M1 : Hid (min g.wide (g.across - R * g.wide) = g.wide) := by show _ = _; omega
  have M2 : Hid (min g.high (g.down - Q * g.high) = g.high) := by show _ = _; omega
  have x0 : 0 ≤ R * g.wide := Int.mul_nonneg (by omega) (by omega)
  have x1 : R * g.wide ≤ 65536 * 65536 := Int.mul_le_mul (by omega) w1' (by omega) (by omega)
  have y0 : 0 ≤ Q * g.high := Int.mul_nonneg (by omega) (by omega)
  have y1 : Q * g.high ≤ 65536 * 65536 := Int.mul_le_mul (by omega) h1 (by omega) (by omega)
  have HX : Hid (rectX g n = R * g.wide) := by show _ = _; rw [rectX, hR]
  have HY : Hid (rectY g n = Q * g.high) := by show _ = _; rw [rectY, hQ]
  have HW : Hid (rectW g n = min g.wide (g.across - R * g.wide)) := by show _ = _; rw [rectW, rectX, hR]
  have HH : Hid (rectH g n = min g.high (g.down - Q * g.high)) := by show _ = _; rw [rectH, rectY, hQ]
  have t1 : Int.tmod n (gridA g) = R := by rw [hR]; exact Int.tmod_eq_emod_of_nonneg hn0
  have t2 : Int.tdiv n (gridA g) = Q := by rw [hQ]; exact Int.tdiv_eq_ediv_of_nonneg hn0
  have t3 : ¬ gridA g = 0 := by omega
  have t4 : IntKind.i64.wrap (R * g.wide) = R * g.wide := IntWalk.i64_in _ (by omega)
  have t5 : IntKind.i64.wrap (Q * g.high) = Q * g.high := IntWalk.i64_in _ (by omega)
  have t6 : IntKind.i64.wrap Q = Q := IntWalk.i64_in _ (by omega)
  have BA : Hid (∀ W, Kept ((w.alloc (.cells #[.bool g.re.neg, .string g.re.n, .int .i64 g.re.e, .bool g.im.neg, .string g.im.n, .int .i64 g.im.e, .int .i64 g.exp, .int .i64 g.across, .int .i64 g.down, .int .i64 g.wide, .int .i64 g.high] 31)).alloc (.cells #[.int .i64 0, .int .i64 0, .int .i64 0, .int .i64 0] 38)) W → W.cell? ⟨w.heap.size, 7, none⟩ = some (.int .i64 g.across) ∧ W.cell? ⟨w.heap.size, 8, none⟩ = some (.int .i64 g.down) ∧ W.cell? ⟨w.heap.size, 9, none⟩ = some (.int .i64 g.wide) ∧ W.cell? ⟨w.heap.size, 10, none⟩ = some (.int .i64 g.high)) := fun W hW => ⟨(hW.cells w.heap.size 7 (by simp; omega)).trans (by simp), (hW.cells w.heap.size 8 (by simp; omega)).trans (by simp), (hW.cells w.heap.size 9 (by simp; omega)).trans (by simp), (hW.cells w.heap.size 10 (by simp; omega)).trans (by simp)⟩
  obtain ⟨A, hA⟩ : ∃ A, A = gridA g := ⟨_, rfl⟩
  obtain ⟨D, hD⟩ : ∃ A, A = gridD g := ⟨_, rfl⟩
  rw [← hA] at t1 t2 t3 CC ga0 ga1
  rw [← hD] at CC
  clear hR hQ r1 r2 r3 r4 hA hD
  go_enter Tryz.func59, Tryz.ntmps59
  go_wp2_with fail
  refine (CC.out _).mono ?_
  rintro e w1 ⟨rfl, hk1⟩
  obtain ⟨q7, q8, q9, q10⟩ := BA.out w1 hk1
  have hz1 := lt_of_cell q7
  have RB := hide (fun (o : Nat) (v : Value) (h : ((w.alloc (.cells #[.bool g.re.neg, .string g.re.n, .int .i64 g.re.e, .bool g.im.neg, .string g.im.n, .int .i64 g.im.e, .int .i64 g.exp, .int .i64 g.across, .int .i64 g.down, .int .i64 g.wide, .int .i64 g.high] 31)).alloc (.cells #[.int .i64 0, .int .i64 0, .int .i64 0, .int .i64 0] 38)).cell? ⟨w.heap.size + 1, o, none⟩ = some v) => (hk1.cells (w.heap.size + 1) o (by simp)).trans h)
  have K1 := hide ((((Below.refl _ w).alloc (Nat.le_refl _) (.cells #[.bool g.re.neg, .string g.re.n, .int .i64 g.re.e, .bool g.im.neg, .string g.im.n, .int .i64 g.im.e, .int .i64 g.exp, .int .i64 g.across, .int .i64 g.down, .int .i64 g.wide, .int .i64 g.high] 31)).alloc (by simp) (.cells #[.int .i64 0, .int .i64 0, .int .i64 0, .int .i64 0] 38)).trans (hk1.mono (by simp; omega)))
  have HS := hide (And.intro q9 q10)
  have HQ := hide (And.intro q7 (And.intro q8 (And.intro q9 q10)))
  have HKA : Hid (∀ o, (w1.alloc o).cell? ⟨w.heap.size, 9, none⟩ = some (.int .i64 g.wide) ∧ (w1.alloc o).cell? ⟨w.heap.size, 10, none⟩ = some (.int .i64 g.high)) := fun o => ⟨(World.cell?_alloc_lt w1 _ ⟨w.heap.size, 9, none⟩ hz1).trans q9, (World.cell?_alloc_lt w1 _ ⟨w.heap.size, 10, none⟩ hz1).trans q10⟩
  have RC : Hid (w1.cell? ⟨w.heap.size + 1, 0, none⟩ = some (.int .i64 0) ∧ w1.cell? ⟨w.heap.size + 1, 1, none⟩ = some (.int .i64 0) ∧ w1.cell? ⟨w.heap.size + 1, 2, none⟩ = some (.int .i64 0) ∧ w1.cell? ⟨w.heap.size + 1, 3, none⟩ = some (.int .i64 0)) := ⟨(hk1.cells (w.heap.size + 1) 0 (by simp)).trans (by simp), (hk1.cells (w.heap.size + 1) 1 (by simp)).trans (by simp), (hk1.cells (w.heap.size + 1) 2 (by simp)).trans (by simp), (hk1.cells (w.heap.size + 1) 3 (by simp)).trans (by simp)⟩
  have hff : ∀ o, w1.frozen? ⟨w.heap.size + 1, o, none⟩ = false := fun o => (hk1.thaw (w.heap.size + 1) o (by simp)).trans (by have h9 := fresh_frozen (w.alloc (.cells #[.bool g.re.neg, .string g.re.n, .int .i64 g.re.e, .bool g.im.neg, .string g.im.n, .int .i64 g.im.e, .int .i64 g.exp, .int .i64 g.across, .int .i64 g.down, .int .i64 g.wide, .int .i64 g.high] 31)) #[.int .i64 0, .int .i64 0, .int .i64 0, .int .i64 0] 38 o; rw [World.size_alloc] at h9; exact h9)
  have RF : Hid (w1.frozen? ⟨w.heap.size + 1, 0, none⟩ = false ∧ w1.frozen? ⟨w.heap.size + 1, 1, none⟩ = false ∧ w1.frozen? ⟨w.heap.size + 1, 2, none⟩ = false ∧ w1.frozen? ⟨w.heap.size + 1, 3, none⟩ = false) := ⟨hff 0, hff 1, hff 2, hff 3⟩
  clear hk1 hff
  go_wp2_with fail
  clear q7 q8 q9 q10
  refine wp_region_L (fun X => X.cell? ⟨w.heap.size, 9, none⟩ = some (.int .i64 g.wide) ∧ X.cell? ⟨w.heap.size, 10, none⟩ = some (.int .i64 g.high)) 14 (by kernel_rfl) ?_ (fun hHeld => ?_)
  · first | exact HS.out | assumption | exact HKA.out _
  refine wpAnyL_take (i := 0) (v := ?_) (some 13) rfl rfl (by kernel_rfl) (by kernel_rfl) (by kernel_rfl) (by kernel_rfl) (fun _ _ _ h => h) (Or.inl ⟨by rfl, ?_⟩) (by assumption) ?_
  rotate_left
  · intro w hSw; (try dsimp only at hSw); go_simp; (try with_reducible rfl)
  try simp only [Act.put, List.setIfInBounds_toArray, List.set_cons_zero, List.set_cons_succ]
  refine wpAnyL_take (i := 1) (v := ?_) (some 14) rfl rfl (by kernel_rfl) (by kernel_rfl) (by kernel_rfl) (by kernel_rfl) (fun _ _ _ h => h) (Or.inl ⟨by rfl, ?_⟩) (by assumption) ?_
  rotate_left
  · intro w hSw; (try dsimp only at hSw); go_simp; (try with_reducible rfl)
  try simp only [Act.put, List.setIfInBounds_toArray, List.set_cons_zero, List.set_cons_succ]
  refine wpAnyL_take (i := 2) (v := ?_) (some 15) rfl rfl (by kernel_rfl) (by kernel_rfl) (by kernel_rfl) (by kernel_rfl) (fun _ _ _ h => h) (Or.inl ⟨by rfl, ?_⟩) (by assumption) ?_
  rotate_left
  · intro w hSw; (try dsimp only at hSw); go_simp; (try with_reducible rfl)
  try simp only [Act.put, List.setIfInBounds_toArray, List.set_cons_zero, List.set_cons_succ]
  refine wpAnyL_take (i := 3) (v := ?_) (some 16) rfl rfl (by kernel_rfl) (by kernel_rfl) (by kernel_rfl) (by kernel_rfl) (fun _ _ _ h => h) (Or.inl ⟨by rfl, ?_⟩) (by assumption) ?_
  rotate_left
  · intro w hSw; (try dsimp only at hSw); go_simp; (try with_reducible rfl)
  try simp only [Act.put, List.setIfInBounds_toArray, List.set_cons_zero, List.set_cons_succ]
  refine wpAnyL_take (i := 4) (v := ?_) (some 17) rfl rfl (by kernel_rfl) (by kernel_rfl) (by kernel_rfl) (by kernel_rfl) (fun _ _ _ h => h) (Or.inl ⟨by rfl, ?_⟩) (by assumption) ?_
  rotate_left
  · intro w hSw; (try dsimp only at hSw); go_simp; (try with_reducible rfl)
  try simp only [Act.put, List.setIfInBounds_toArray, List.set_cons_zero, List.set_cons_succ]
  refine wpAnyL_take (i := 5) (v := ?_) (some 18) rfl rfl (by kernel_rfl) (by kernel_rfl) (by kernel_rfl) (by kernel_rfl) (fun _ _ _ h => h) (Or.inl ⟨by rfl, ?_⟩) (by assumption) ?_
  rotate_left
  · intro w hSw; (try dsimp only at hSw); go_simp; (try with_reducible rfl)
  try simp only [Act.put, List.setIfInBounds_toArray, List.set_cons_zero, List.set_cons_succ]
  refine wpAnyL_take (i := 6) (v := ?_) (some 19) rfl rfl (by kernel_rfl) (by kernel_rfl) (by kernel_rfl) (by kernel_rfl) (fun _ _ _ h => h) (Or.inl ⟨by rfl, ?_⟩) (by assumption) ?_
  rotate_left
  · intro w hSw; (try dsimp only at hSw); go_simp; (try with_reducible rfl)
  try simp only [Act.put, List.setIfInBounds_toArray, List.set_cons_zero, List.set_cons_succ]
  refine wpAnyL_take (i := 7) (v := ?_) (some 20) rfl rfl (by kernel_rfl) (by kernel_rfl) (by kernel_rfl) (by kernel_rfl) (fun _ _ _ h => h) (Or.inl ⟨by rfl, ?_⟩) (by assumption) ?_
  rotate_left
  · intro w hSw; (try dsimp only at hSw); go_simp; (try with_reducible rfl)
  try simp only [Act.put, List.setIfInBounds_toArray, List.set_cons_zero, List.set_cons_succ]
  refine wpAnyL_take (i := 8) (v := ?_) (some 21) rfl rfl (by kernel_rfl) (by kernel_rfl) (by kernel_rfl) (by kernel_rfl) (fun _ _ _ h => h) (Or.inl ⟨by rfl, ?_⟩) (by assumption) ?_
  rotate_left
  · intro w hSw; (try dsimp only at hSw); go_simp; (try with_reducible rfl)
  try simp only [Act.put, List.setIfInBounds_toArray, List.set_cons_zero, List.set_cons_succ]
  refine wpAnyL_take (i := 9) (v := ?_) (some 22) rfl rfl (by kernel_rfl) (by kernel_rfl) (by kernel_rfl) (by kernel_rfl) (fun _ _ _ h => h) (Or.inl ⟨by rfl, ?_⟩) (by assumption) ?_
  rotate_left
  · intro w hSw; (try dsimp only at hSw); go_simp; (try with_reducible rfl)
  try simp only [Act.put, List.setIfInBounds_toArray, List.set_cons_zero, List.set_cons_succ]
  refine wpAnyL_take (i := 10) (v := ?_) (some 23) rfl rfl (by kernel_rfl) (by kernel_rfl) (by kernel_rfl) (by kernel_rfl) (fun _ _ _ h => h) (Or.inl ⟨by rfl, ?_⟩) (by assumption) ?_
  rotate_left
  · intro w hSw; (try dsimp only at hSw); go_simp; (try with_reducible rfl)
  try simp only [Act.put, List.setIfInBounds_toArray, List.set_cons_zero, List.set_cons_succ]
  refine wpAnyL_take (i := 11) (v := ?_) (some 24) rfl rfl (by kernel_rfl) (by kernel_rfl) (by kernel_rfl) (by kernel_rfl) (fun _ _ _ h => h) (Or.inl ⟨by rfl, ?_⟩) (by assumption) ?_
  rotate_left
  · intro w hSw; (try dsimp only at hSw); go_simp; (try with_reducible rfl)
  try simp only [Act.put, List.setIfInBounds_toArray, List.set_cons_zero, List.set_cons_succ]
  refine wpAnyL_take (i := 12) (v := ?_) (some 25) rfl rfl (by kernel_rfl) (by kernel_rfl) (by kernel_rfl) (by kernel_rfl) (fun _ _ _ h => h) (Or.inl ⟨by rfl, ?_⟩) (by assumption) ?_
  rotate_left
  · intro w hSw; (try dsimp only at hSw); go_simp; (try with_reducible rfl)
  try simp only [Act.put, List.setIfInBounds_toArray, List.set_cons_zero, List.set_cons_succ]
  refine wpAnyL_one (i := 13) (by kernel_rfl) rfl (fun K hK => ?_)
  go_simp
  refine hK.out _ _ ?_ (fun hHeld => ?_)
  · first | exact HS.out | assumption | exact HKA.out _
  clear hK K
  try simp only [Act.put, List.setIfInBounds_toArray, List.set_cons_zero, List.set_cons_succ]
  refine wpAnyL_end (by kernel_rfl) rfl (fun K hK => ?_)
  go_simp
  refine hK.out _ _ ?_
  clear hK K
  try simp only [Act.put, List.setIfInBounds_toArray, List.set_cons_zero, List.set_cons_succ]
  refine wpAnyL_done (by kernel_rfl) ?_ _
  obtain ⟨q7, q8, q9, q10⟩ := HQ.out
  obtain ⟨r0, r1, r2, r3⟩ := RC.out
  obtain ⟨f0, f1, f2, f3⟩ := RF.out
  have hz2 := lt_of_cell r0
  clear t1 t2 t3 t4 t5 t6
  go_wp2_with fail
  exact bodyPost_ret (v := .agg #[.int .i64 (R * g.wide), .int .i64 (Q * g.high), .int .i64 (g.wide), .int .i64 (g.high)]) (by simp [results, Tryz.results59, go_sem, r0, r1, r2, r3, hz2]) rfl ⟨by rw [HX.out, HY.out, HW.out, HH.out, M1.out, M2.out], rect_kept K1.out (by omega)⟩

set_option maxRecDepth 100000 in
set_option maxHeartbeats 1600000 in
theorem rect_ab (g : GrD) (n : Int) (w : World) (hg : GrBnd g) (hn0 : 0 ≤ n) (hn1 : n < 65536) (m1 : g.wide ≤ g.across - rectX g n) (m2 : ¬ g.high ≤ g.down - rectY g n) :
    Calls Tryz.prog 59 #[.agg #[.bool g.re.neg, .string g.re.n, .int .i64 g.re.e, .bool g.im.neg, .string g.im.n, .int .i64 g.im.e, .int .i64 g.exp, .int .i64 g.across, .int .i64 g.down, .int .i64 g.wide, .int .i64 g.high], .int .i64 n] w fun e w' => e = .returned (.agg #[.int .i64 (rectX g n), .int .i64 (rectY g n), .int .i64 (rectW g n), .int .i64 (rectH g n)]) ∧ Kept w w' := by
  have CC := hide (fun (W : World) => counted_any g W hg)
  obtain ⟨ga0, ga1⟩ := hg.gA
  obtain ⟨a0, a1, d0, d1, w0, w1', h0, h1⟩ := hg
  have r1 := Int.emod_nonneg n (show gridA g ≠ 0 by omega)
  have r2 := Int.emod_lt_of_pos n (show 0 < gridA g by omega)
  have r3 : 0 ≤ n / gridA g := Int.ediv_nonneg hn0 (by omega)
  have r4 : n / gridA g ≤ n := Int.ediv_le_self _ hn0
  obtain ⟨R, hR⟩ : ∃ R, R = n % gridA g := ⟨_, rfl⟩
  obtain ⟨Q, hQ⟩ : ∃ R, R = n / gridA g := ⟨_, rfl⟩
  unfold rectX at m1
  unfold rectY at m2
  rw [← hR] at m1
  rw [← hQ] at m2
  have M1 : Hid (min g.wide (g.across - R * g.wide) = g.wide) := by show _ = _; omega
  have M2 : Hid (min g.high (g.down - Q * g.high) = g.down - Q * g.high) := by show _ = _; omega
  have x0 : 0 ≤ R * g.wide := Int.mul_nonneg (by omega) (by omega)
  have x1 : R * g.wide ≤ 65536 * 65536 := Int.mul_le_mul (by omega) w1' (by omega) (by omega)
  have y0 : 0 ≤ Q * g.high := Int.mul_nonneg (by omega) (by omega)
  have y1 : Q * g.high ≤ 65536 * 65536 := Int.mul_le_mul (by omega) h1 (by omega) (by omega)
  have HX : Hid (rectX g n = R * g.wide) := by show _ = _; rw [rectX, hR]
  have HY : Hid (rectY g n = Q * g.high) := by show _ = _; rw [rectY, hQ]
  have HW : Hid (rectW g n = min g.wide (g.across - R * g.wide)) := by show _ = _; rw [rectW, rectX, hR]
  have HH : Hid (rectH g n = min g.high (g.down - Q * g.high)) := by show _ = _; rw [rectH, rectY, hQ]
  have t1 : Int.tmod n (gridA g) = R := by rw [hR]; exact Int.tmod_eq_emod_of_nonneg hn0
  have t2 : Int.tdiv n (gridA g) = Q := by rw [hQ]; exact Int.tdiv_eq_ediv_of_nonneg hn0
  have t3 : ¬ gridA g = 0 := by omega
  have t4 : IntKind.i64.wrap (R * g.wide) = R * g.wide := IntWalk.i64_in _ (by omega)
  have t5 : IntKind.i64.wrap (Q * g.high) = Q * g.high := IntWalk.i64_in _ (by omega)
  have t6 : IntKind.i64.wrap Q = Q := IntWalk.i64_in _ (by omega)
  have BA : Hid (∀ W, Kept ((w.alloc (.cells #[.bool g.re.neg, .string g.re.n, .int .i64 g.re.e, .bool g.im.neg, .string g.im.n, .int .i64 g.im.e, .int .i64 g.exp, .int .i64 g.across, .int .i64 g.down, .int .i64 g.wide, .int .i64 g.high] 31)).alloc (.cells #[.int .i64 0, .int .i64 0, .int .i64 0, .int .i64 0] 38)) W → W.cell? ⟨w.heap.size, 7, none⟩ = some (.int .i64 g.across) ∧ W.cell? ⟨w.heap.size, 8, none⟩ = some (.int .i64 g.down) ∧ W.cell? ⟨w.heap.size, 9, none⟩ = some (.int .i64 g.wide) ∧ W.cell? ⟨w.heap.size, 10, none⟩ = some (.int .i64 g.high)) := fun W hW => ⟨(hW.cells w.heap.size 7 (by simp; omega)).trans (by simp), (hW.cells w.heap.size 8 (by simp; omega)).trans (by simp), (hW.cells w.heap.size 9 (by simp; omega)).trans (by simp), (hW.cells w.heap.size 10 (by simp; omega)).trans (by simp)⟩
  obtain ⟨A, hA⟩ : ∃ A, A = gridA g := ⟨_, rfl⟩
  obtain ⟨D, hD⟩ : ∃ A, A = gridD g := ⟨_, rfl⟩
  rw [← hA] at t1 t2 t3 CC ga0 ga1
  rw [← hD] at CC
  clear hR hQ r1 r2 r3 r4 hA hD
  go_enter Tryz.func59, Tryz.ntmps59
  go_wp2_with fail
  refine (CC.out _).mono ?_
  rintro e w1 ⟨rfl, hk1⟩
  obtain ⟨q7, q8, q9, q10⟩ := BA.out w1 hk1
  have hz1 := lt_of_cell q7
  have RB := hide (fun (o : Nat) (v : Value) (h : ((w.alloc (.cells #[.bool g.re.neg, .string g.re.n, .int .i64 g.re.e, .bool g.im.neg, .string g.im.n, .int .i64 g.im.e, .int .i64 g.exp, .int .i64 g.across, .int .i64 g.down, .int .i64 g.wide, .int .i64 g.high] 31)).alloc (.cells #[.int .i64 0, .int .i64 0, .int .i64 0, .int .i64 0] 38)).cell? ⟨w.heap.size + 1, o, none⟩ = some v) => (hk1.cells (w.heap.size + 1) o (by simp)).trans h)
  have K1 := hide ((((Below.refl _ w).alloc (Nat.le_refl _) (.cells #[.bool g.re.neg, .string g.re.n, .int .i64 g.re.e, .bool g.im.neg, .string g.im.n, .int .i64 g.im.e, .int .i64 g.exp, .int .i64 g.across, .int .i64 g.down, .int .i64 g.wide, .int .i64 g.high] 31)).alloc (by simp) (.cells #[.int .i64 0, .int .i64 0, .int .i64 0, .int .i64 0] 38)).trans (hk1.mono (by simp; omega)))
  have HS := hide (And.intro q9 q10)
  have HQ := hide (And.intro q7 (And.intro q8 (And.intro q9 q10)))
  have HKA : Hid (∀ o, (w1.alloc o).cell? ⟨w.heap.size, 9, none⟩ = some (.int .i64 g.wide) ∧ (w1.alloc o).cell? ⟨w.heap.size, 10, none⟩ = some (.int .i64 g.high)) := fun o => ⟨(World.cell?_alloc_lt w1 _ ⟨w.heap.size, 9, none⟩ hz1).trans q9, (World.cell?_alloc_lt w1 _ ⟨w.heap.size, 10, none⟩ hz1).trans q10⟩
  have RC : Hid (w1.cell? ⟨w.heap.size + 1, 0, none⟩ = some (.int .i64 0) ∧ w1.cell? ⟨w.heap.size + 1, 1, none⟩ = some (.int .i64 0) ∧ w1.cell? ⟨w.heap.size + 1, 2, none⟩ = some (.int .i64 0) ∧ w1.cell? ⟨w.heap.size + 1, 3, none⟩ = some (.int .i64 0)) := ⟨(hk1.cells (w.heap.size + 1) 0 (by simp)).trans (by simp), (hk1.cells (w.heap.size + 1) 1 (by simp)).trans (by simp), (hk1.cells (w.heap.size + 1) 2 (by simp)).trans (by simp), (hk1.cells (w.heap.size + 1) 3 (by simp)).trans (by simp)⟩
  have hff : ∀ o, w1.frozen? ⟨w.heap.size + 1, o, none⟩ = false := fun o => (hk1.thaw (w.heap.size + 1) o (by simp)).trans (by have h9 := fresh_frozen (w.alloc (.cells #[.bool g.re.neg, .string g.re.n, .int .i64 g.re.e, .bool g.im.neg, .string g.im.n, .int .i64 g.im.e, .int .i64 g.exp, .int .i64 g.across, .int .i64 g.down, .int .i64 g.wide, .int .i64 g.high] 31)) #[.int .i64 0, .int .i64 0, .int .i64 0, .int .i64 0] 38 o; rw [World.size_alloc] at h9; exact h9)
  have RF : Hid (w1.frozen? ⟨w.heap.size + 1, 0, none⟩ = false ∧ w1.frozen? ⟨w.heap.size + 1, 1, none⟩ = false ∧ w1.frozen? ⟨w.heap.size + 1, 2, none⟩ = false ∧ w1.frozen? ⟨w.heap.size + 1, 3, none⟩ = false) := ⟨hff 0, hff 1, hff 2, hff 3⟩
  clear hk1 hff
  go_wp2_with fail
  clear q7 q8 q9 q10
  refine wp_region_L (fun X => X.cell? ⟨w.heap.size, 9, none⟩ = some (.int .i64 g.wide) ∧ X.cell? ⟨w.heap.size, 10, none⟩ = some (.int .i64 g.high)) 14 (by kernel_rfl) ?_ (fun hHeld => ?_)
  · first | exact HS.out | assumption | exact HKA.out _
  refine wpAnyL_take (i := 0) (v := ?_) (some 13) rfl rfl (by kernel_rfl) (by kernel_rfl) (by kernel_rfl) (by kernel_rfl) (fun _ _ _ h => h) (Or.inl ⟨by rfl, ?_⟩) (by assumption) ?_
  rotate_left
  · intro w hSw; (try dsimp only at hSw); go_simp; (try with_reducible rfl)
  try simp only [Act.put, List.setIfInBounds_toArray, List.set_cons_zero, List.set_cons_succ]
  refine wpAnyL_take (i := 1) (v := ?_) (some 14) rfl rfl (by kernel_rfl) (by kernel_rfl) (by kernel_rfl) (by kernel_rfl) (fun _ _ _ h => h) (Or.inl ⟨by rfl, ?_⟩) (by assumption) ?_
  rotate_left
  · intro w hSw; (try dsimp only at hSw); go_simp; (try with_reducible rfl)
  try simp only [Act.put, List.setIfInBounds_toArray, List.set_cons_zero, List.set_cons_succ]
  refine wpAnyL_take (i := 2) (v := ?_) (some 15) rfl rfl (by kernel_rfl) (by kernel_rfl) (by kernel_rfl) (by kernel_rfl) (fun _ _ _ h => h) (Or.inl ⟨by rfl, ?_⟩) (by assumption) ?_
  rotate_left
  · intro w hSw; (try dsimp only at hSw); go_simp; (try with_reducible rfl)
  try simp only [Act.put, List.setIfInBounds_toArray, List.set_cons_zero, List.set_cons_succ]
  refine wpAnyL_take (i := 3) (v := ?_) (some 16) rfl rfl (by kernel_rfl) (by kernel_rfl) (by kernel_rfl) (by kernel_rfl) (fun _ _ _ h => h) (Or.inl ⟨by rfl, ?_⟩) (by assumption) ?_
  rotate_left
  · intro w hSw; (try dsimp only at hSw); go_simp; (try with_reducible rfl)
  try simp only [Act.put, List.setIfInBounds_toArray, List.set_cons_zero, List.set_cons_succ]
  refine wpAnyL_take (i := 4) (v := ?_) (some 17) rfl rfl (by kernel_rfl) (by kernel_rfl) (by kernel_rfl) (by kernel_rfl) (fun _ _ _ h => h) (Or.inl ⟨by rfl, ?_⟩) (by assumption) ?_
  rotate_left
  · intro w hSw; (try dsimp only at hSw); go_simp; (try with_reducible rfl)
  try simp only [Act.put, List.setIfInBounds_toArray, List.set_cons_zero, List.set_cons_succ]
  refine wpAnyL_take (i := 5) (v := ?_) (some 18) rfl rfl (by kernel_rfl) (by kernel_rfl) (by kernel_rfl) (by kernel_rfl) (fun _ _ _ h => h) (Or.inl ⟨by rfl, ?_⟩) (by assumption) ?_
  rotate_left
  · intro w hSw; (try dsimp only at hSw); go_simp; (try with_reducible rfl)
  try simp only [Act.put, List.setIfInBounds_toArray, List.set_cons_zero, List.set_cons_succ]
  refine wpAnyL_take (i := 6) (v := ?_) (some 19) rfl rfl (by kernel_rfl) (by kernel_rfl) (by kernel_rfl) (by kernel_rfl) (fun _ _ _ h => h) (Or.inl ⟨by rfl, ?_⟩) (by assumption) ?_
  rotate_left
  · intro w hSw; (try dsimp only at hSw); go_simp; (try with_reducible rfl)
  try simp only [Act.put, List.setIfInBounds_toArray, List.set_cons_zero, List.set_cons_succ]
  refine wpAnyL_take (i := 7) (v := ?_) (some 20) rfl rfl (by kernel_rfl) (by kernel_rfl) (by kernel_rfl) (by kernel_rfl) (fun _ _ _ h => h) (Or.inl ⟨by rfl, ?_⟩) (by assumption) ?_
  rotate_left
  · intro w hSw; (try dsimp only at hSw); go_simp; (try with_reducible rfl)
  try simp only [Act.put, List.setIfInBounds_toArray, List.set_cons_zero, List.set_cons_succ]
  refine wpAnyL_take (i := 8) (v := ?_) (some 21) rfl rfl (by kernel_rfl) (by kernel_rfl) (by kernel_rfl) (by kernel_rfl) (fun _ _ _ h => h) (Or.inl ⟨by rfl, ?_⟩) (by assumption) ?_
  rotate_left
  · intro w hSw; (try dsimp only at hSw); go_simp; (try with_reducible rfl)
  try simp only [Act.put, List.setIfInBounds_toArray, List.set_cons_zero, List.set_cons_succ]
  refine wpAnyL_take (i := 9) (v := ?_) (some 22) rfl rfl (by kernel_rfl) (by kernel_rfl) (by kernel_rfl) (by kernel_rfl) (fun _ _ _ h => h) (Or.inl ⟨by rfl, ?_⟩) (by assumption) ?_
  rotate_left
  · intro w hSw; (try dsimp only at hSw); go_simp; (try with_reducible rfl)
  try simp only [Act.put, List.setIfInBounds_toArray, List.set_cons_zero, List.set_cons_succ]
  refine wpAnyL_take (i := 10) (v := ?_) (some 23) rfl rfl (by kernel_rfl) (by kernel_rfl) (by kernel_rfl) (by kernel_rfl) (fun _ _ _ h => h) (Or.inl ⟨by rfl, ?_⟩) (by assumption) ?_
  rotate_left
  · intro w hSw; (try dsimp only at hSw); go_simp; (try with_reducible rfl)
  try simp only [Act.put, List.setIfInBounds_toArray, List.set_cons_zero, List.set_cons_succ]
  refine wpAnyL_take (i := 11) (v := ?_) (some 24) rfl rfl (by kernel_rfl) (by kernel_rfl) (by kernel_rfl) (by kernel_rfl) (fun _ _ _ h => h) (Or.inl ⟨by rfl, ?_⟩) (by assumption) ?_
  rotate_left
  · intro w hSw; (try dsimp only at hSw); go_simp; (try with_reducible rfl)
  try simp only [Act.put, List.setIfInBounds_toArray, List.set_cons_zero, List.set_cons_succ]
  refine wpAnyL_take (i := 12) (v := ?_) (some 25) rfl rfl (by kernel_rfl) (by kernel_rfl) (by kernel_rfl) (by kernel_rfl) (fun _ _ _ h => h) (Or.inl ⟨by rfl, ?_⟩) (by assumption) ?_
  rotate_left
  · intro w hSw; (try dsimp only at hSw); go_simp; (try with_reducible rfl)
  try simp only [Act.put, List.setIfInBounds_toArray, List.set_cons_zero, List.set_cons_succ]
  refine wpAnyL_one (i := 13) (by kernel_rfl) rfl (fun K hK => ?_)
  go_simp
  refine hK.out _ _ ?_ (fun hHeld => ?_)
  · first | exact HS.out | assumption | exact HKA.out _
  clear hK K
  try simp only [Act.put, List.setIfInBounds_toArray, List.set_cons_zero, List.set_cons_succ]
  refine wpAnyL_end (by kernel_rfl) rfl (fun K hK => ?_)
  go_simp
  refine hK.out _ _ ?_
  clear hK K
  try simp only [Act.put, List.setIfInBounds_toArray, List.set_cons_zero, List.set_cons_succ]
  refine wpAnyL_done (by kernel_rfl) ?_ _
  obtain ⟨q7, q8, q9, q10⟩ := HQ.out
  obtain ⟨r0, r1, r2, r3⟩ := RC.out
  obtain ⟨f0, f1, f2, f3⟩ := RF.out
  have hz2 := lt_of_cell r0
  clear t1 t2 t3 t4 t5 t6
  go_wp2_with fail
  exact bodyPost_ret (v := .agg #[.int .i64 (R * g.wide), .int .i64 (Q * g.high), .int .i64 (g.wide), .int .i64 (g.down - Q * g.high)]) (by simp [results, Tryz.results59, go_sem, r0, r1, r2, r3, hz2]) rfl ⟨by rw [HX.out, HY.out, HW.out, HH.out, M1.out, M2.out], rect_kept K1.out (by omega)⟩

set_option maxRecDepth 100000 in
set_option maxHeartbeats 1600000 in
theorem rect_ba (g : GrD) (n : Int) (w : World) (hg : GrBnd g) (hn0 : 0 ≤ n) (hn1 : n < 65536) (m1 : ¬ g.wide ≤ g.across - rectX g n) (m2 : g.high ≤ g.down - rectY g n) :
    Calls Tryz.prog 59 #[.agg #[.bool g.re.neg, .string g.re.n, .int .i64 g.re.e, .bool g.im.neg, .string g.im.n, .int .i64 g.im.e, .int .i64 g.exp, .int .i64 g.across, .int .i64 g.down, .int .i64 g.wide, .int .i64 g.high], .int .i64 n] w fun e w' => e = .returned (.agg #[.int .i64 (rectX g n), .int .i64 (rectY g n), .int .i64 (rectW g n), .int .i64 (rectH g n)]) ∧ Kept w w' := by
  have CC := hide (fun (W : World) => counted_any g W hg)
  obtain ⟨ga0, ga1⟩ := hg.gA
  obtain ⟨a0, a1, d0, d1, w0, w1', h0, h1⟩ := hg
  have r1 := Int.emod_nonneg n (show gridA g ≠ 0 by omega)
  have r2 := Int.emod_lt_of_pos n (show 0 < gridA g by omega)
  have r3 : 0 ≤ n / gridA g := Int.ediv_nonneg hn0 (by omega)
  have r4 : n / gridA g ≤ n := Int.ediv_le_self _ hn0
  obtain ⟨R, hR⟩ : ∃ R, R = n % gridA g := ⟨_, rfl⟩
  obtain ⟨Q, hQ⟩ : ∃ R, R = n / gridA g := ⟨_, rfl⟩
  unfold rectX at m1
  unfold rectY at m2
  rw [← hR] at m1
  rw [← hQ] at m2
  have M1 : Hid (min g.wide (g.across - R * g.wide) = g.across - R * g.wide) := by show _ = _; omega
  have M2 : Hid (min g.high (g.down - Q * g.high) = g.high) := by show _ = _; omega
  have x0 : 0 ≤ R * g.wide := Int.mul_nonneg (by omega) (by omega)
  have x1 : R * g.wide ≤ 65536 * 65536 := Int.mul_le_mul (by omega) w1' (by omega) (by omega)
  have y0 : 0 ≤ Q * g.high := Int.mul_nonneg (by omega) (by omega)
  have y1 : Q * g.high ≤ 65536 * 65536 := Int.mul_le_mul (by omega) h1 (by omega) (by omega)
  have HX : Hid (rectX g n = R * g.wide) := by show _ = _; rw [rectX, hR]
  have HY : Hid (rectY g n = Q * g.high) := by show _ = _; rw [rectY, hQ]
  have HW : Hid (rectW g n = min g.wide (g.across - R * g.wide)) := by show _ = _; rw [rectW, rectX, hR]
  have HH : Hid (rectH g n = min g.high (g.down - Q * g.high)) := by show _ = _; rw [rectH, rectY, hQ]
  have t1 : Int.tmod n (gridA g) = R := by rw [hR]; exact Int.tmod_eq_emod_of_nonneg hn0
  have t2 : Int.tdiv n (gridA g) = Q := by rw [hQ]; exact Int.tdiv_eq_ediv_of_nonneg hn0
  have t3 : ¬ gridA g = 0 := by omega
  have t4 : IntKind.i64.wrap (R * g.wide) = R * g.wide := IntWalk.i64_in _ (by omega)
  have t5 : IntKind.i64.wrap (Q * g.high) = Q * g.high := IntWalk.i64_in _ (by omega)
  have t6 : IntKind.i64.wrap Q = Q := IntWalk.i64_in _ (by omega)
  have BA : Hid (∀ W, Kept ((w.alloc (.cells #[.bool g.re.neg, .string g.re.n, .int .i64 g.re.e, .bool g.im.neg, .string g.im.n, .int .i64 g.im.e, .int .i64 g.exp, .int .i64 g.across, .int .i64 g.down, .int .i64 g.wide, .int .i64 g.high] 31)).alloc (.cells #[.int .i64 0, .int .i64 0, .int .i64 0, .int .i64 0] 38)) W → W.cell? ⟨w.heap.size, 7, none⟩ = some (.int .i64 g.across) ∧ W.cell? ⟨w.heap.size, 8, none⟩ = some (.int .i64 g.down) ∧ W.cell? ⟨w.heap.size, 9, none⟩ = some (.int .i64 g.wide) ∧ W.cell? ⟨w.heap.size, 10, none⟩ = some (.int .i64 g.high)) := fun W hW => ⟨(hW.cells w.heap.size 7 (by simp; omega)).trans (by simp), (hW.cells w.heap.size 8 (by simp; omega)).trans (by simp), (hW.cells w.heap.size 9 (by simp; omega)).trans (by simp), (hW.cells w.heap.size 10 (by simp; omega)).trans (by simp)⟩
  obtain ⟨A, hA⟩ : ∃ A, A = gridA g := ⟨_, rfl⟩
  obtain ⟨D, hD⟩ : ∃ A, A = gridD g := ⟨_, rfl⟩
  rw [← hA] at t1 t2 t3 CC ga0 ga1
  rw [← hD] at CC
  clear hR hQ r1 r2 r3 r4 hA hD
  go_enter Tryz.func59, Tryz.ntmps59
  go_wp2_with fail
  refine (CC.out _).mono ?_
  rintro e w1 ⟨rfl, hk1⟩
  obtain ⟨q7, q8, q9, q10⟩ := BA.out w1 hk1
  have hz1 := lt_of_cell q7
  have RB := hide (fun (o : Nat) (v : Value) (h : ((w.alloc (.cells #[.bool g.re.neg, .string g.re.n, .int .i64 g.re.e, .bool g.im.neg, .string g.im.n, .int .i64 g.im.e, .int .i64 g.exp, .int .i64 g.across, .int .i64 g.down, .int .i64 g.wide, .int .i64 g.high] 31)).alloc (.cells #[.int .i64 0, .int .i64 0, .int .i64 0, .int .i64 0] 38)).cell? ⟨w.heap.size + 1, o, none⟩ = some v) => (hk1.cells (w.heap.size + 1) o (by simp)).trans h)
  have K1 := hide ((((Below.refl _ w).alloc (Nat.le_refl _) (.cells #[.bool g.re.neg, .string g.re.n, .int .i64 g.re.e, .bool g.im.neg, .string g.im.n, .int .i64 g.im.e, .int .i64 g.exp, .int .i64 g.across, .int .i64 g.down, .int .i64 g.wide, .int .i64 g.high] 31)).alloc (by simp) (.cells #[.int .i64 0, .int .i64 0, .int .i64 0, .int .i64 0] 38)).trans (hk1.mono (by simp; omega)))
  have HS := hide (And.intro q9 q10)
  have HQ := hide (And.intro q7 (And.intro q8 (And.intro q9 q10)))
  have HKA : Hid (∀ o, (w1.alloc o).cell? ⟨w.heap.size, 9, none⟩ = some (.int .i64 g.wide) ∧ (w1.alloc o).cell? ⟨w.heap.size, 10, none⟩ = some (.int .i64 g.high)) := fun o => ⟨(World.cell?_alloc_lt w1 _ ⟨w.heap.size, 9, none⟩ hz1).trans q9, (World.cell?_alloc_lt w1 _ ⟨w.heap.size, 10, none⟩ hz1).trans q10⟩
  have RC : Hid (w1.cell? ⟨w.heap.size + 1, 0, none⟩ = some (.int .i64 0) ∧ w1.cell? ⟨w.heap.size + 1, 1, none⟩ = some (.int .i64 0) ∧ w1.cell? ⟨w.heap.size + 1, 2, none⟩ = some (.int .i64 0) ∧ w1.cell? ⟨w.heap.size + 1, 3, none⟩ = some (.int .i64 0)) := ⟨(hk1.cells (w.heap.size + 1) 0 (by simp)).trans (by simp), (hk1.cells (w.heap.size + 1) 1 (by simp)).trans (by simp), (hk1.cells (w.heap.size + 1) 2 (by simp)).trans (by simp), (hk1.cells (w.heap.size + 1) 3 (by simp)).trans (by simp)⟩
  have hff : ∀ o, w1.frozen? ⟨w.heap.size + 1, o, none⟩ = false := fun o => (hk1.thaw (w.heap.size + 1) o (by simp)).trans (by have h9 := fresh_frozen (w.alloc (.cells #[.bool g.re.neg, .string g.re.n, .int .i64 g.re.e, .bool g.im.neg, .string g.im.n, .int .i64 g.im.e, .int .i64 g.exp, .int .i64 g.across, .int .i64 g.down, .int .i64 g.wide, .int .i64 g.high] 31)) #[.int .i64 0, .int .i64 0, .int .i64 0, .int .i64 0] 38 o; rw [World.size_alloc] at h9; exact h9)
  have RF : Hid (w1.frozen? ⟨w.heap.size + 1, 0, none⟩ = false ∧ w1.frozen? ⟨w.heap.size + 1, 1, none⟩ = false ∧ w1.frozen? ⟨w.heap.size + 1, 2, none⟩ = false ∧ w1.frozen? ⟨w.heap.size + 1, 3, none⟩ = false) := ⟨hff 0, hff 1, hff 2, hff 3⟩
  clear hk1 hff
  go_wp2_with fail
  clear q7 q8 q9 q10
  refine wp_region_L (fun X => X.cell? ⟨w.heap.size, 9, none⟩ = some (.int .i64 g.wide) ∧ X.cell? ⟨w.heap.size, 10, none⟩ = some (.int .i64 g.high)) 14 (by kernel_rfl) ?_ (fun hHeld => ?_)
  · first | exact HS.out | assumption | exact HKA.out _
  refine wpAnyL_take (i := 0) (v := ?_) (some 13) rfl rfl (by kernel_rfl) (by kernel_rfl) (by kernel_rfl) (by kernel_rfl) (fun _ _ _ h => h) (Or.inl ⟨by rfl, ?_⟩) (by assumption) ?_
  rotate_left
  · intro w hSw; (try dsimp only at hSw); go_simp; (try with_reducible rfl)
  try simp only [Act.put, List.setIfInBounds_toArray, List.set_cons_zero, List.set_cons_succ]
  refine wpAnyL_take (i := 1) (v := ?_) (some 14) rfl rfl (by kernel_rfl) (by kernel_rfl) (by kernel_rfl) (by kernel_rfl) (fun _ _ _ h => h) (Or.inl ⟨by rfl, ?_⟩) (by assumption) ?_
  rotate_left
  · intro w hSw; (try dsimp only at hSw); go_simp; (try with_reducible rfl)
  try simp only [Act.put, List.setIfInBounds_toArray, List.set_cons_zero, List.set_cons_succ]
  refine wpAnyL_take (i := 2) (v := ?_) (some 15) rfl rfl (by kernel_rfl) (by kernel_rfl) (by kernel_rfl) (by kernel_rfl) (fun _ _ _ h => h) (Or.inl ⟨by rfl, ?_⟩) (by assumption) ?_
  rotate_left
  · intro w hSw; (try dsimp only at hSw); go_simp; (try with_reducible rfl)
  try simp only [Act.put, List.setIfInBounds_toArray, List.set_cons_zero, List.set_cons_succ]
  refine wpAnyL_take (i := 3) (v := ?_) (some 16) rfl rfl (by kernel_rfl) (by kernel_rfl) (by kernel_rfl) (by kernel_rfl) (fun _ _ _ h => h) (Or.inl ⟨by rfl, ?_⟩) (by assumption) ?_
  rotate_left
  · intro w hSw; (try dsimp only at hSw); go_simp; (try with_reducible rfl)
  try simp only [Act.put, List.setIfInBounds_toArray, List.set_cons_zero, List.set_cons_succ]
  refine wpAnyL_take (i := 4) (v := ?_) (some 17) rfl rfl (by kernel_rfl) (by kernel_rfl) (by kernel_rfl) (by kernel_rfl) (fun _ _ _ h => h) (Or.inl ⟨by rfl, ?_⟩) (by assumption) ?_
  rotate_left
  · intro w hSw; (try dsimp only at hSw); go_simp; (try with_reducible rfl)
  try simp only [Act.put, List.setIfInBounds_toArray, List.set_cons_zero, List.set_cons_succ]
  refine wpAnyL_take (i := 5) (v := ?_) (some 18) rfl rfl (by kernel_rfl) (by kernel_rfl) (by kernel_rfl) (by kernel_rfl) (fun _ _ _ h => h) (Or.inl ⟨by rfl, ?_⟩) (by assumption) ?_
  rotate_left
  · intro w hSw; (try dsimp only at hSw); go_simp; (try with_reducible rfl)
  try simp only [Act.put, List.setIfInBounds_toArray, List.set_cons_zero, List.set_cons_succ]
  refine wpAnyL_take (i := 6) (v := ?_) (some 19) rfl rfl (by kernel_rfl) (by kernel_rfl) (by kernel_rfl) (by kernel_rfl) (fun _ _ _ h => h) (Or.inl ⟨by rfl, ?_⟩) (by assumption) ?_
  rotate_left
  · intro w hSw; (try dsimp only at hSw); go_simp; (try with_reducible rfl)
  try simp only [Act.put, List.setIfInBounds_toArray, List.set_cons_zero, List.set_cons_succ]
  refine wpAnyL_take (i := 7) (v := ?_) (some 20) rfl rfl (by kernel_rfl) (by kernel_rfl) (by kernel_rfl) (by kernel_rfl) (fun _ _ _ h => h) (Or.inl ⟨by rfl, ?_⟩) (by assumption) ?_
  rotate_left
  · intro w hSw; (try dsimp only at hSw); go_simp; (try with_reducible rfl)
  try simp only [Act.put, List.setIfInBounds_toArray, List.set_cons_zero, List.set_cons_succ]
  refine wpAnyL_take (i := 8) (v := ?_) (some 21) rfl rfl (by kernel_rfl) (by kernel_rfl) (by kernel_rfl) (by kernel_rfl) (fun _ _ _ h => h) (Or.inl ⟨by rfl, ?_⟩) (by assumption) ?_
  rotate_left
  · intro w hSw; (try dsimp only at hSw); go_simp; (try with_reducible rfl)
  try simp only [Act.put, List.setIfInBounds_toArray, List.set_cons_zero, List.set_cons_succ]
  refine wpAnyL_take (i := 9) (v := ?_) (some 22) rfl rfl (by kernel_rfl) (by kernel_rfl) (by kernel_rfl) (by kernel_rfl) (fun _ _ _ h => h) (Or.inl ⟨by rfl, ?_⟩) (by assumption) ?_
  rotate_left
  · intro w hSw; (try dsimp only at hSw); go_simp; (try with_reducible rfl)
  try simp only [Act.put, List.setIfInBounds_toArray, List.set_cons_zero, List.set_cons_succ]
  refine wpAnyL_take (i := 10) (v := ?_) (some 23) rfl rfl (by kernel_rfl) (by kernel_rfl) (by kernel_rfl) (by kernel_rfl) (fun _ _ _ h => h) (Or.inl ⟨by rfl, ?_⟩) (by assumption) ?_
  rotate_left
  · intro w hSw; (try dsimp only at hSw); go_simp; (try with_reducible rfl)
  try simp only [Act.put, List.setIfInBounds_toArray, List.set_cons_zero, List.set_cons_succ]
  refine wpAnyL_take (i := 11) (v := ?_) (some 24) rfl rfl (by kernel_rfl) (by kernel_rfl) (by kernel_rfl) (by kernel_rfl) (fun _ _ _ h => h) (Or.inl ⟨by rfl, ?_⟩) (by assumption) ?_
  rotate_left
  · intro w hSw; (try dsimp only at hSw); go_simp; (try with_reducible rfl)
  try simp only [Act.put, List.setIfInBounds_toArray, List.set_cons_zero, List.set_cons_succ]
  refine wpAnyL_take (i := 12) (v := ?_) (some 25) rfl rfl (by kernel_rfl) (by kernel_rfl) (by kernel_rfl) (by kernel_rfl) (fun _ _ _ h => h) (Or.inl ⟨by rfl, ?_⟩) (by assumption) ?_
  rotate_left
  · intro w hSw; (try dsimp only at hSw); go_simp; (try with_reducible rfl)
  try simp only [Act.put, List.setIfInBounds_toArray, List.set_cons_zero, List.set_cons_succ]
  refine wpAnyL_one (i := 13) (by kernel_rfl) rfl (fun K hK => ?_)
  go_simp
  refine hK.out _ _ ?_ (fun hHeld => ?_)
  · first | exact HS.out | assumption | exact HKA.out _
  clear hK K
  try simp only [Act.put, List.setIfInBounds_toArray, List.set_cons_zero, List.set_cons_succ]
  refine wpAnyL_end (by kernel_rfl) rfl (fun K hK => ?_)
  go_simp
  refine hK.out _ _ ?_
  clear hK K
  try simp only [Act.put, List.setIfInBounds_toArray, List.set_cons_zero, List.set_cons_succ]
  refine wpAnyL_done (by kernel_rfl) ?_ _
  obtain ⟨q7, q8, q9, q10⟩ := HQ.out
  obtain ⟨r0, r1, r2, r3⟩ := RC.out
  obtain ⟨f0, f1, f2, f3⟩ := RF.out
  have hz2 := lt_of_cell r0
  clear t1 t2 t3 t4 t5 t6
  go_wp2_with fail
  exact bodyPost_ret (v := .agg #[.int .i64 (R * g.wide), .int .i64 (Q * g.high), .int .i64 (g.across - R * g.wide), .int .i64 (g.high)]) (by simp [results, Tryz.results59, go_sem, r0, r1, r2, r3, hz2]) rfl ⟨by rw [HX.out, HY.out, HW.out, HH.out, M1.out, M2.out], rect_kept K1.out (by omega)⟩

set_option maxRecDepth 100000 in
set_option maxHeartbeats 1600000 in
theorem rect_bb (g : GrD) (n : Int) (w : World) (hg : GrBnd g) (hn0 : 0 ≤ n) (hn1 : n < 65536) (m1 : ¬ g.wide ≤ g.across - rectX g n) (m2 : ¬ g.high ≤ g.down - rectY g n) :
    Calls Tryz.prog 59 #[.agg #[.bool g.re.neg, .string g.re.n, .int .i64 g.re.e, .bool g.im.neg, .string g.im.n, .int .i64 g.im.e, .int .i64 g.exp, .int .i64 g.across, .int .i64 g.down, .int .i64 g.wide, .int .i64 g.high], .int .i64 n] w fun e w' => e = .returned (.agg #[.int .i64 (rectX g n), .int .i64 (rectY g n), .int .i64 (rectW g n), .int .i64 (rectH g n)]) ∧ Kept w w' := by
  have CC := hide (fun (W : World) => counted_any g W hg)
  obtain ⟨ga0, ga1⟩ := hg.gA
  obtain ⟨a0, a1, d0, d1, w0, w1', h0, h1⟩ := hg
  have r1 := Int.emod_nonneg n (show gridA g ≠ 0 by omega)
  have r2 := Int.emod_lt_of_pos n (show 0 < gridA g by omega)
  have r3 : 0 ≤ n / gridA g := Int.ediv_nonneg hn0 (by omega)
  have r4 : n / gridA g ≤ n := Int.ediv_le_self _ hn0
  obtain ⟨R, hR⟩ : ∃ R, R = n % gridA g := ⟨_, rfl⟩
  obtain ⟨Q, hQ⟩ : ∃ R, R = n / gridA g := ⟨_, rfl⟩
  unfold rectX at m1
  unfold rectY at m2
  rw [← hR] at m1
  rw [← hQ] at m2
  have M1 : Hid (min g.wide (g.across - R * g.wide) = g.across - R * g.wide) := by show _ = _; omega
  have M2 : Hid (min g.high (g.down - Q * g.high) = g.down - Q * g.high) := by show _ = _; omega
  have x0 : 0 ≤ R * g.wide := Int.mul_nonneg (by omega) (by omega)
  have x1 : R * g.wide ≤ 65536 * 65536 := Int.mul_le_mul (by omega) w1' (by omega) (by omega)
  have y0 : 0 ≤ Q * g.high := Int.mul_nonneg (by omega) (by omega)
  have y1 : Q * g.high ≤ 65536 * 65536 := Int.mul_le_mul (by omega) h1 (by omega) (by omega)
  have HX : Hid (rectX g n = R * g.wide) := by show _ = _; rw [rectX, hR]
  have HY : Hid (rectY g n = Q * g.high) := by show _ = _; rw [rectY, hQ]
  have HW : Hid (rectW g n = min g.wide (g.across - R * g.wide)) := by show _ = _; rw [rectW, rectX, hR]
  have HH : Hid (rectH g n = min g.high (g.down - Q * g.high)) := by show _ = _; rw [rectH, rectY, hQ]
  have t1 : Int.tmod n (gridA g) = R := by rw [hR]; exact Int.tmod_eq_emod_of_nonneg hn0
  have t2 : Int.tdiv n (gridA g) = Q := by rw [hQ]; exact Int.tdiv_eq_ediv_of_nonneg hn0
  have t3 : ¬ gridA g = 0 := by omega
  have t4 : IntKind.i64.wrap (R * g.wide) = R * g.wide := IntWalk.i64_in _ (by omega)
  have t5 : IntKind.i64.wrap (Q * g.high) = Q * g.high := IntWalk.i64_in _ (by omega)
  have t6 : IntKind.i64.wrap Q = Q := IntWalk.i64_in _ (by omega)
  have BA : Hid (∀ W, Kept ((w.alloc (.cells #[.bool g.re.neg, .string g.re.n, .int .i64 g.re.e, .bool g.im.neg, .string g.im.n, .int .i64 g.im.e, .int .i64 g.exp, .int .i64 g.across, .int .i64 g.down, .int .i64 g.wide, .int .i64 g.high] 31)).alloc (.cells #[.int .i64 0, .int .i64 0, .int .i64 0, .int .i64 0] 38)) W → W.cell? ⟨w.heap.size, 7, none⟩ = some (.int .i64 g.across) ∧ W.cell? ⟨w.heap.size, 8, none⟩ = some (.int .i64 g.down) ∧ W.cell? ⟨w.heap.size, 9, none⟩ = some (.int .i64 g.wide) ∧ W.cell? ⟨w.heap.size, 10, none⟩ = some (.int .i64 g.high)) := fun W hW => ⟨(hW.cells w.heap.size 7 (by simp; omega)).trans (by simp), (hW.cells w.heap.size 8 (by simp; omega)).trans (by simp), (hW.cells w.heap.size 9 (by simp; omega)).trans (by simp), (hW.cells w.heap.size 10 (by simp; omega)).trans (by simp)⟩
  obtain ⟨A, hA⟩ : ∃ A, A = gridA g := ⟨_, rfl⟩
  obtain ⟨D, hD⟩ : ∃ A, A = gridD g := ⟨_, rfl⟩
  rw [← hA] at t1 t2 t3 CC ga0 ga1
  rw [← hD] at CC
  clear hR hQ r1 r2 r3 r4 hA hD
  go_enter Tryz.func59, Tryz.ntmps59
  go_wp2_with fail
  refine (CC.out _).mono ?_
  rintro e w1 ⟨rfl, hk1⟩
  obtain ⟨q7, q8, q9, q10⟩ := BA.out w1 hk1
  have hz1 := lt_of_cell q7
  have RB := hide (fun (o : Nat) (v : Value) (h : ((w.alloc (.cells #[.bool g.re.neg, .string g.re.n, .int .i64 g.re.e, .bool g.im.neg, .string g.im.n, .int .i64 g.im.e, .int .i64 g.exp, .int .i64 g.across, .int .i64 g.down, .int .i64 g.wide, .int .i64 g.high] 31)).alloc (.cells #[.int .i64 0, .int .i64 0, .int .i64 0, .int .i64 0] 38)).cell? ⟨w.heap.size + 1, o, none⟩ = some v) => (hk1.cells (w.heap.size + 1) o (by simp)).trans h)
  have K1 := hide ((((Below.refl _ w).alloc (Nat.le_refl _) (.cells #[.bool g.re.neg, .string g.re.n, .int .i64 g.re.e, .bool g.im.neg, .string g.im.n, .int .i64 g.im.e, .int .i64 g.exp, .int .i64 g.across, .int .i64 g.down, .int .i64 g.wide, .int .i64 g.high] 31)).alloc (by simp) (.cells #[.int .i64 0, .int .i64 0, .int .i64 0, .int .i64 0] 38)).trans (hk1.mono (by simp; omega)))
  have HS := hide (And.intro q9 q10)
  have HQ := hide (And.intro q7 (And.intro q8 (And.intro q9 q10)))
  have HKA : Hid (∀ o, (w1.alloc o).cell? ⟨w.heap.size, 9, none⟩ = some (.int .i64 g.wide) ∧ (w1.alloc o).cell? ⟨w.heap.size, 10, none⟩ = some (.int .i64 g.high)) := fun o => ⟨(World.cell?_alloc_lt w1 _ ⟨w.heap.size, 9, none⟩ hz1).trans q9, (World.cell?_alloc_lt w1 _ ⟨w.heap.size, 10, none⟩ hz1).trans q10⟩
  have RC : Hid (w1.cell? ⟨w.heap.size + 1, 0, none⟩ = some (.int .i64 0) ∧ w1.cell? ⟨w.heap.size + 1, 1, none⟩ = some (.int .i64 0) ∧ w1.cell? ⟨w.heap.size + 1, 2, none⟩ = some (.int .i64 0) ∧ w1.cell? ⟨w.heap.size + 1, 3, none⟩ = some (.int .i64 0)) := ⟨(hk1.cells (w.heap.size + 1) 0 (by simp)).trans (by simp), (hk1.cells (w.heap.size + 1) 1 (by simp)).trans (by simp), (hk1.cells (w.heap.size + 1) 2 (by simp)).trans (by simp), (hk1.cells (w.heap.size + 1) 3 (by simp)).trans (by simp)⟩
  have hff : ∀ o, w1.frozen? ⟨w.heap.size + 1, o, none⟩ = false := fun o => (hk1.thaw (w.heap.size + 1) o (by simp)).trans (by have h9 := fresh_frozen (w.alloc (.cells #[.bool g.re.neg, .string g.re.n, .int .i64 g.re.e, .bool g.im.neg, .string g.im.n, .int .i64 g.im.e, .int .i64 g.exp, .int .i64 g.across, .int .i64 g.down, .int .i64 g.wide, .int .i64 g.high] 31)) #[.int .i64 0, .int .i64 0, .int .i64 0, .int .i64 0] 38 o; rw [World.size_alloc] at h9; exact h9)
  have RF : Hid (w1.frozen? ⟨w.heap.size + 1, 0, none⟩ = false ∧ w1.frozen? ⟨w.heap.size + 1, 1, none⟩ = false ∧ w1.frozen? ⟨w.heap.size + 1, 2, none⟩ = false ∧ w1.frozen? ⟨w.heap.size + 1, 3, none⟩ = false) := ⟨hff 0, hff 1, hff 2, hff 3⟩
  clear hk1 hff
  go_wp2_with fail
  clear q7 q8 q9 q10
  refine wp_region_L (fun X => X.cell? ⟨w.heap.size, 9, none⟩ = some (.int .i64 g.wide) ∧ X.cell? ⟨w.heap.size, 10, none⟩ = some (.int .i64 g.high)) 14 (by kernel_rfl) ?_ (fun hHeld => ?_)
  · first | exact HS.out | assumption | exact HKA.out _
  refine wpAnyL_take (i := 0) (v := ?_) (some 13) rfl rfl (by kernel_rfl) (by kernel_rfl) (by kernel_rfl) (by kernel_rfl) (fun _ _ _ h => h) (Or.inl ⟨by rfl, ?_⟩) (by assumption) ?_
  rotate_left
  · intro w hSw; (try dsimp only at hSw); go_simp; (try with_reducible rfl)
  try simp only [Act.put, List.setIfInBounds_toArray, List.set_cons_zero, List.set_cons_succ]
  refine wpAnyL_take (i := 1) (v := ?_) (some 14) rfl rfl (by kernel_rfl) (by kernel_rfl) (by kernel_rfl) (by kernel_rfl) (fun _ _ _ h => h) (Or.inl ⟨by rfl, ?_⟩) (by assumption) ?_
  rotate_left
  · intro w hSw; (try dsimp only at hSw); go_simp; (try with_reducible rfl)
  try simp only [Act.put, List.setIfInBounds_toArray, List.set_cons_zero, List.set_cons_succ]
  refine wpAnyL_take (i := 2) (v := ?_) (some 15) rfl rfl (by kernel_rfl) (by kernel_rfl) (by kernel_rfl) (by kernel_rfl) (fun _ _ _ h => h) (Or.inl ⟨by rfl, ?_⟩) (by assumption) ?_
  rotate_left
  · intro w hSw; (try dsimp only at hSw); go_simp; (try with_reducible rfl)
  try simp only [Act.put, List.setIfInBounds_toArray, List.set_cons_zero, List.set_cons_succ]
  refine wpAnyL_take (i := 3) (v := ?_) (some 16) rfl rfl (by kernel_rfl) (by kernel_rfl) (by kernel_rfl) (by kernel_rfl) (fun _ _ _ h => h) (Or.inl ⟨by rfl, ?_⟩) (by assumption) ?_
  rotate_left
  · intro w hSw; (try dsimp only at hSw); go_simp; (try with_reducible rfl)
  try simp only [Act.put, List.setIfInBounds_toArray, List.set_cons_zero, List.set_cons_succ]
  refine wpAnyL_take (i := 4) (v := ?_) (some 17) rfl rfl (by kernel_rfl) (by kernel_rfl) (by kernel_rfl) (by kernel_rfl) (fun _ _ _ h => h) (Or.inl ⟨by rfl, ?_⟩) (by assumption) ?_
  rotate_left
  · intro w hSw; (try dsimp only at hSw); go_simp; (try with_reducible rfl)
  try simp only [Act.put, List.setIfInBounds_toArray, List.set_cons_zero, List.set_cons_succ]
  refine wpAnyL_take (i := 5) (v := ?_) (some 18) rfl rfl (by kernel_rfl) (by kernel_rfl) (by kernel_rfl) (by kernel_rfl) (fun _ _ _ h => h) (Or.inl ⟨by rfl, ?_⟩) (by assumption) ?_
  rotate_left
  · intro w hSw; (try dsimp only at hSw); go_simp; (try with_reducible rfl)
  try simp only [Act.put, List.setIfInBounds_toArray, List.set_cons_zero, List.set_cons_succ]
  refine wpAnyL_take (i := 6) (v := ?_) (some 19) rfl rfl (by kernel_rfl) (by kernel_rfl) (by kernel_rfl) (by kernel_rfl) (fun _ _ _ h => h) (Or.inl ⟨by rfl, ?_⟩) (by assumption) ?_
  rotate_left
  · intro w hSw; (try dsimp only at hSw); go_simp; (try with_reducible rfl)
  try simp only [Act.put, List.setIfInBounds_toArray, List.set_cons_zero, List.set_cons_succ]
  refine wpAnyL_take (i := 7) (v := ?_) (some 20) rfl rfl (by kernel_rfl) (by kernel_rfl) (by kernel_rfl) (by kernel_rfl) (fun _ _ _ h => h) (Or.inl ⟨by rfl, ?_⟩) (by assumption) ?_
  rotate_left
  · intro w hSw; (try dsimp only at hSw); go_simp; (try with_reducible rfl)
  try simp only [Act.put, List.setIfInBounds_toArray, List.set_cons_zero, List.set_cons_succ]
  refine wpAnyL_take (i := 8) (v := ?_) (some 21) rfl rfl (by kernel_rfl) (by kernel_rfl) (by kernel_rfl) (by kernel_rfl) (fun _ _ _ h => h) (Or.inl ⟨by rfl, ?_⟩) (by assumption) ?_
  rotate_left
  · intro w hSw; (try dsimp only at hSw); go_simp; (try with_reducible rfl)
  try simp only [Act.put, List.setIfInBounds_toArray, List.set_cons_zero, List.set_cons_succ]
  refine wpAnyL_take (i := 9) (v := ?_) (some 22) rfl rfl (by kernel_rfl) (by kernel_rfl) (by kernel_rfl) (by kernel_rfl) (fun _ _ _ h => h) (Or.inl ⟨by rfl, ?_⟩) (by assumption) ?_
  rotate_left
  · intro w hSw; (try dsimp only at hSw); go_simp; (try with_reducible rfl)
  try simp only [Act.put, List.setIfInBounds_toArray, List.set_cons_zero, List.set_cons_succ]
  refine wpAnyL_take (i := 10) (v := ?_) (some 23) rfl rfl (by kernel_rfl) (by kernel_rfl) (by kernel_rfl) (by kernel_rfl) (fun _ _ _ h => h) (Or.inl ⟨by rfl, ?_⟩) (by assumption) ?_
  rotate_left
  · intro w hSw; (try dsimp only at hSw); go_simp; (try with_reducible rfl)
  try simp only [Act.put, List.setIfInBounds_toArray, List.set_cons_zero, List.set_cons_succ]
  refine wpAnyL_take (i := 11) (v := ?_) (some 24) rfl rfl (by kernel_rfl) (by kernel_rfl) (by kernel_rfl) (by kernel_rfl) (fun _ _ _ h => h) (Or.inl ⟨by rfl, ?_⟩) (by assumption) ?_
  rotate_left
  · intro w hSw; (try dsimp only at hSw); go_simp; (try with_reducible rfl)
  try simp only [Act.put, List.setIfInBounds_toArray, List.set_cons_zero, List.set_cons_succ]
  refine wpAnyL_take (i := 12) (v := ?_) (some 25) rfl rfl (by kernel_rfl) (by kernel_rfl) (by kernel_rfl) (by kernel_rfl) (fun _ _ _ h => h) (Or.inl ⟨by rfl, ?_⟩) (by assumption) ?_
  rotate_left
  · intro w hSw; (try dsimp only at hSw); go_simp; (try with_reducible rfl)
  try simp only [Act.put, List.setIfInBounds_toArray, List.set_cons_zero, List.set_cons_succ]
  refine wpAnyL_one (i := 13) (by kernel_rfl) rfl (fun K hK => ?_)
  go_simp
  refine hK.out _ _ ?_ (fun hHeld => ?_)
  · first | exact HS.out | assumption | exact HKA.out _
  clear hK K
  try simp only [Act.put, List.setIfInBounds_toArray, List.set_cons_zero, List.set_cons_succ]
  refine wpAnyL_end (by kernel_rfl) rfl (fun K hK => ?_)
  go_simp
  refine hK.out _ _ ?_
  clear hK K
  try simp only [Act.put, List.setIfInBounds_toArray, List.set_cons_zero, List.set_cons_succ]
  refine wpAnyL_done (by kernel_rfl) ?_ _
  obtain ⟨q7, q8, q9, q10⟩ := HQ.out
  obtain ⟨r0, r1, r2, r3⟩ := RC.out
  obtain ⟨f0, f1, f2, f3⟩ := RF.out
  have hz2 := lt_of_cell r0
  clear t1 t2 t3 t4 t5 t6
  go_wp2_with fail
  exact bodyPost_ret (v := .agg #[.int .i64 (R * g.wide), .int .i64 (Q * g.high), .int .i64 (g.across - R * g.wide), .int .i64 (g.down - Q * g.high)]) (by simp [results, Tryz.results59, go_sem, r0, r1, r2, r3, hz2]) rfl ⟨by rw [HX.out, HY.out, HW.out, HH.out, M1.out, M2.out], rect_kept K1.out (by omega)⟩

theorem rect_any (g : GrD) (n : Int) (w : World) (hg : GrBnd g) (hn0 : 0 ≤ n) (hn1 : n < 65536) :
    Calls Tryz.prog 59 #[.agg #[.bool g.re.neg, .string g.re.n, .int .i64 g.re.e, .bool g.im.neg, .string g.im.n, .int .i64 g.im.e, .int .i64 g.exp, .int .i64 g.across, .int .i64 g.down, .int .i64 g.wide, .int .i64 g.high], .int .i64 n] w fun e w' => e = .returned (.agg #[.int .i64 (rectX g n), .int .i64 (rectY g n), .int .i64 (rectW g n), .int .i64 (rectH g n)]) ∧ Kept w w' := by
  by_cases m1 : g.wide ≤ g.across - rectX g n
  · by_cases m2 : g.high ≤ g.down - rectY g n
    · exact rect_aa g n w hg hn0 hn1 m1 m2
    · exact rect_ab g n w hg hn0 hn1 m1 m2
  · by_cases m2 : g.high ≤ g.down - rectY g n
    · exact rect_ba g n w hg hn0 hn1 m1 m2
    · exact rect_bb g n w hg hn0 hn1 m1 m2

end Go.Proofs.YtneakieigiafpaaGreatDoor

/- tile.Rect, walked. -/
namespace Go.Proofs.YtneakieigiafpaaGreatDoor
open Go.RowKit

def RectPost (g : GrD) (n : Int) (w : World) (e : Ending) (w' : World) : Prop :=
  (if gridI g = 0 then
    if 0 ≤ n ∧ n < gridA g * gridD g then e = .returned (.tuple #[.agg #[.int .i64 (rectX g n), .int .i64 (rectY g n), .int .i64 (rectW g n), .int .i64 (rectH g n)], .int .i64 0])
    else e = .returned (.tuple #[.agg #[.int .i64 0, .int .i64 0, .int .i64 0, .int .i64 0], .int .i64 2])
  else e = .returned (.tuple #[.agg #[.int .i64 0, .int .i64 0, .int .i64 0, .int .i64 0], .int .i64 (gridI g)])) ∧ Kept w w'
/-- A block of a rectangle that is still nothing. -/
structure Rec0 (w W : World) (b : Nat) : Prop where
  r0 : W.cell? ⟨b, 0, none⟩ = some (.int .i64 0)
  r1 : W.cell? ⟨b, 1, none⟩ = some (.int .i64 0)
  r2 : W.cell? ⟨b, 2, none⟩ = some (.int .i64 0)
  r3 : W.cell? ⟨b, 3, none⟩ = some (.int .i64 0)
  f0 : W.frozen? ⟨b, 0, none⟩ = false
  f1 : W.frozen? ⟨b, 1, none⟩ = false
  f2 : W.frozen? ⟨b, 2, none⟩ = false
  f3 : W.frozen? ⟨b, 3, none⟩ = false
  le : w.heap.size ≤ b
  kept : Kept w W
theorem Rec0.lt {w W : World} {b : Nat} (h : Rec0 w W b) : b < W.heap.size := lt_of_cell h.r0
theorem Rec0.keep {w W W' : World} {b : Nat} (h : Rec0 w W b) (hk : Kept W W') : Rec0 w W' b :=
  ⟨(hk.cells _ _ h.lt).trans h.r0, (hk.cells _ _ h.lt).trans h.r1, (hk.cells _ _ h.lt).trans h.r2, (hk.cells _ _ h.lt).trans h.r3, (hk.thaw _ _ h.lt).trans h.f0, (hk.thaw _ _ h.lt).trans h.f1, (hk.thaw _ _ h.lt).trans h.f2, (hk.thaw _ _ h.lt).trans h.f3, h.le, h.kept.trans (hk.mono h.kept.size)⟩
theorem Rec0.new (w W : World) (t : TypeId) (b : Nat) (hb : b = W.heap.size) (h : Kept w W) : Rec0 w (W.alloc (.cells #[.int .i64 0, .int .i64 0, .int .i64 0, .int .i64 0] t)) b := by
  subst hb
  exact ⟨by simp, by simp, by simp, by simp, fresh_frozen _ _ _ _, fresh_frozen _ _ _ _, fresh_frozen _ _ _ _, fresh_frozen _ _ _ _, h.size, h.alloc h.size _⟩
theorem Rec0.stored {w W : World} {b : Nat} (h : Rec0 w W b) (x0 x1 x2 x3 : Value) : Kept w ((((W.setCell ⟨b, 0, none⟩ x0).setCell ⟨b, 1, none⟩ x1).setCell ⟨b, 2, none⟩ x2).setCell ⟨b, 3, none⟩ x3) :=
  (((h.kept.setCell h.le x0).setCell h.le x1).setCell h.le x2).setCell h.le x3

set_option maxRecDepth 100000 in
set_option maxHeartbeats 1600000 in
theorem trect_any (g : GrD) (n : Int) (w : World) (hg : g.ok) (hn0 : -9223372036854775808 ≤ n) (hn1 : n ≤ 9223372036854775807) : Calls Tryz.prog 20 #[.agg #[.bool g.re.neg, .string g.re.n, .int .i64 g.re.e, .bool g.im.neg, .string g.im.n, .int .i64 g.im.e, .int .i64 g.exp, .int .i64 g.across, .int .i64 g.down, .int .i64 g.wide, .int .i64 g.high], .int .i64 n] w (RectPost g n w) := by
  have CV := hide (fun (W : World) => tcount_any g W hg)
  have R0 := hide (Rec0.new w (w.alloc (.cells #[.bool g.re.neg, .string g.re.n, .int .i64 g.re.e, .bool g.im.neg, .string g.im.n, .int .i64 g.im.e, .int .i64 g.exp, .int .i64 g.across, .int .i64 g.down, .int .i64 g.wide, .int .i64 g.high] 31)) 38 (w.heap.size + 1) (by simp) ((Below.refl _ _).alloc (Nat.le_refl _) _))
  by_cases hI : gridI g = 0
  · obtain ⟨hB, hm⟩ := gridI_ok hI
    obtain ⟨ga0, ga1⟩ := hB.gA
    obtain ⟨gd0, gd1⟩ := hB.gD
    have p1 : 0 ≤ gridA g * gridD g := Int.mul_nonneg (by omega) (by omega)
    have HI := hide hI
    rw [show cntA g = gridA g by simp [cntA, hI], show cntD g = gridD g by simp [cntD, hI], hI] at CV
    have CRR : Hid (∀ W, 0 ≤ n → n < 65536 → Calls Tryz.prog 59 #[.agg #[.bool g.re.neg, .string g.re.n, .int .i64 g.re.e, .bool g.im.neg, .string g.im.n, .int .i64 g.im.e, .int .i64 g.exp, .int .i64 g.across, .int .i64 g.down, .int .i64 g.wide, .int .i64 g.high], .int .i64 n] W fun e w' => e = .returned (.agg #[.int .i64 (rectX g n), .int .i64 (rectY g n), .int .i64 (rectW g n), .int .i64 (rectH g n)]) ∧ Kept W w') := fun W h0 h1 => rect_any g n W hB h0 h1
    have BA : Hid (∀ W, Kept ((w.alloc (.cells #[.bool g.re.neg, .string g.re.n, .int .i64 g.re.e, .bool g.im.neg, .string g.im.n, .int .i64 g.im.e, .int .i64 g.exp, .int .i64 g.across, .int .i64 g.down, .int .i64 g.wide, .int .i64 g.high] 31)).alloc (.cells #[.int .i64 0, .int .i64 0, .int .i64 0, .int .i64 0] 38)) W → W.cell? ⟨w.heap.size, 0, none⟩ = some (.bool g.re.neg) ∧ W.cell? ⟨w.heap.size, 1, none⟩ = some (.string g.re.n) ∧ W.cell? ⟨w.heap.size, 2, none⟩ = some (.int .i64 g.re.e) ∧ W.cell? ⟨w.heap.size, 3, none⟩ = some (.bool g.im.neg) ∧ W.cell? ⟨w.heap.size, 4, none⟩ = some (.string g.im.n) ∧ W.cell? ⟨w.heap.size, 5, none⟩ = some (.int .i64 g.im.e) ∧ W.cell? ⟨w.heap.size, 6, none⟩ = some (.int .i64 g.exp) ∧ W.cell? ⟨w.heap.size, 7, none⟩ = some (.int .i64 g.across) ∧ W.cell? ⟨w.heap.size, 8, none⟩ = some (.int .i64 g.down) ∧ W.cell? ⟨w.heap.size, 9, none⟩ = some (.int .i64 g.wide) ∧ W.cell? ⟨w.heap.size, 10, none⟩ = some (.int .i64 g.high)) := fun W hW => ⟨(hW.cells w.heap.size 0 (by simp; omega)).trans (by simp), (hW.cells w.heap.size 1 (by simp; omega)).trans (by simp), (hW.cells w.heap.size 2 (by simp; omega)).trans (by simp), (hW.cells w.heap.size 3 (by simp; omega)).trans (by simp), (hW.cells w.heap.size 4 (by simp; omega)).trans (by simp), (hW.cells w.heap.size 5 (by simp; omega)).trans (by simp), (hW.cells w.heap.size 6 (by simp; omega)).trans (by simp), (hW.cells w.heap.size 7 (by simp; omega)).trans (by simp), (hW.cells w.heap.size 8 (by simp; omega)).trans (by simp), (hW.cells w.heap.size 9 (by simp; omega)).trans (by simp), (hW.cells w.heap.size 10 (by simp; omega)).trans (by simp)⟩
    have HP : Hid (∀ e w', (if 0 ≤ n ∧ n < gridA g * gridD g then e = .returned (.tuple #[.agg #[.int .i64 (rectX g n), .int .i64 (rectY g n), .int .i64 (rectW g n), .int .i64 (rectH g n)], .int .i64 0]) else e = .returned (.tuple #[.agg #[.int .i64 0, .int .i64 0, .int .i64 0, .int .i64 0], .int .i64 2])) → Kept w w' → RectPost g n w e w') := fun e w' h1 h2 => ⟨by rw [if_pos hI]; exact h1, h2⟩
    generalize rectX g n = X at *
    generalize rectY g n = Y at *
    generalize rectW g n = U at *
    generalize rectH g n = V at *
    generalize gridA g = A at *
    generalize gridD g = D at *
    clear hI hB hg
    by_cases hn : 0 ≤ n ∧ n < A * D
    · obtain ⟨n0, n1⟩ := hn
      have s1 : ¬ n < 0 := by omega
      have s2 : ¬ A * D ≤ n := by omega
      have C9 := hide (fun (W : World) => CRR.out W n0 (by omega))
      go_enter Tryz.func20, Tryz.ntmps20
      go_wp2_with fail
      refine (CV.out _).mono ?_
      rintro e w1 ⟨rfl, hk1⟩
      obtain ⟨q0, q1, q2, q3, q4, q5, q6, q7, q8, q9, q10⟩ := BA.out w1 hk1
      have hz1 := lt_of_cell q0
      have R1 := hide (R0.out.keep hk1)
      clear hk1
      go_wp2_with fail
      refine (C9.out _).mono ?_
      rintro e w2 ⟨rfl, hk2⟩
      have R2 := hide (R1.out.keep hk2)
      obtain ⟨r0, r1, r2, r3, f0, f1, f2, f3, -, -⟩ := R2.out
      have hz2 := R2.out.lt
      clear hk2 q0 q1 q2 q3 q4 q5 q6 q7 q8 q9 q10
      go_wp2_with fail
      exact bodyPost_ret (v := .tuple #[.agg #[.int .i64 X, .int .i64 Y, .int .i64 U, .int .i64 V], .int .i64 0]) (by simp [results, Tryz.results20, go_sem, r0, r1, r2, r3]) rfl (HP.out _ _ (by rw [if_pos ⟨n0, n1⟩]) (R2.out.stored _ _ _ _))
    · have HN := hide hn
      rcases (show n < 0 ∨ (¬ n < 0 ∧ A * D ≤ n) by omega) with s1 | ⟨s1, s2⟩
      all_goals
        clear hn
        go_enter Tryz.func20, Tryz.ntmps20
        go_wp2_with (go_at_call 19; refine (CV.out _).mono ?_; rintro e w1 ⟨rfl, hk1⟩; have R2 := hide (R0.out.keep hk1); obtain ⟨r0, r1, r2, r3, f0, f1, f2, f3, -, -⟩ := R2.out; have hz2 := R2.out.lt; clear hk1)
        exact bodyPost_ret (v := .tuple #[.agg #[.int .i64 0, .int .i64 0, .int .i64 0, .int .i64 0], .int .i64 2]) (by simp [results, Tryz.results20, go_sem, r0, r1, r2, r3]) rfl (HP.out _ _ (by rw [if_neg HN.out]) (R2.out.stored _ _ _ _))
  · have hne : (gridI g != 0) = true := by simp [hI]
    have HP : Hid (∀ w', Kept w w' → RectPost g n w (.returned (.tuple #[.agg #[.int .i64 0, .int .i64 0, .int .i64 0, .int .i64 0], .int .i64 (gridI g)])) w') := fun w' h => ⟨by rw [if_neg hI], h⟩
    obtain ⟨E, hE⟩ : ∃ E, E = gridI g := ⟨_, rfl⟩
    rw [← hE] at CV hne HP
    clear hI hE hg
    go_enter Tryz.func20, Tryz.ntmps20
    go_wp2_with (go_at_call 19; refine (CV.out _).mono ?_; rintro e w1 ⟨rfl, hk1⟩; have R2 := hide (R0.out.keep hk1); obtain ⟨r0, r1, r2, r3, f0, f1, f2, f3, -, -⟩ := R2.out; have hz2 := R2.out.lt; clear hk1)
    exact bodyPost_ret (v := .tuple #[.agg #[.int .i64 0, .int .i64 0, .int .i64 0, .int .i64 0], .int .i64 E]) (by simp [results, Tryz.results20, go_sem, r0, r1, r2, r3]) rfl (HP.out _ (R2.out.stored _ _ _ _))
end Go.Proofs.YtneakieigiafpaaGreatDoor

/- tile.At, walked. -/
namespace Go.Proofs.YtneakieigiafpaaGreatDoor
open Go.RowKit

def atN (g : GrD) (x y : Int) : Int := y / g.high * gridA g + x / g.wide
def AtPost (g : GrD) (x y : Int) (w : World) (e : Ending) (w' : World) : Prop :=
  (if gridI g = 0 then
    if 0 ≤ x ∧ 0 ≤ y ∧ x < g.across ∧ y < g.down then e = .returned (.tuple #[.int .i64 (atN g x y), .int .i64 0])
    else e = .returned (.tuple #[.int .i64 0, .int .i64 241])
  else e = .returned (.tuple #[.int .i64 0, .int .i64 (gridI g)])) ∧ Kept w w'

set_option maxRecDepth 100000 in
set_option maxHeartbeats 1600000 in
theorem tat_in (g : GrD) (x y : Int) (w : World) (hg : g.ok) (hI : gridI g = 0) (x0 : 0 ≤ x) (y0 : 0 ≤ y) (x1 : x < g.across) (y1 : y < g.down) : Calls Tryz.prog 21 #[.agg #[.bool g.re.neg, .string g.re.n, .int .i64 g.re.e, .bool g.im.neg, .string g.im.n, .int .i64 g.im.e, .int .i64 g.exp, .int .i64 g.across, .int .i64 g.down, .int .i64 g.wide, .int .i64 g.high], .int .i64 x, .int .i64 y] w fun e w' => e = .returned (.tuple #[.int .i64 (atN g x y), .int .i64 0]) ∧ Kept w w' := by
  have CV := hide (fun (W : World) => tcount_any g W hg)
  obtain ⟨hB, hm⟩ := gridI_ok hI
  obtain ⟨ga0, ga1⟩ := hB.gA
  rw [show cntA g = gridA g by simp [cntA, hI], show cntD g = gridD g by simp [cntD, hI], hI] at CV
  obtain ⟨a0, a1, d0, d1, w0, w1, h0, h1⟩ := hB
  have BA : Hid (∀ W, Kept (w.alloc (.cells #[.bool g.re.neg, .string g.re.n, .int .i64 g.re.e, .bool g.im.neg, .string g.im.n, .int .i64 g.im.e, .int .i64 g.exp, .int .i64 g.across, .int .i64 g.down, .int .i64 g.wide, .int .i64 g.high] 31)) W → W.cell? ⟨w.heap.size, 0, none⟩ = some (.bool g.re.neg) ∧ W.cell? ⟨w.heap.size, 1, none⟩ = some (.string g.re.n) ∧ W.cell? ⟨w.heap.size, 2, none⟩ = some (.int .i64 g.re.e) ∧ W.cell? ⟨w.heap.size, 3, none⟩ = some (.bool g.im.neg) ∧ W.cell? ⟨w.heap.size, 4, none⟩ = some (.string g.im.n) ∧ W.cell? ⟨w.heap.size, 5, none⟩ = some (.int .i64 g.im.e) ∧ W.cell? ⟨w.heap.size, 6, none⟩ = some (.int .i64 g.exp) ∧ W.cell? ⟨w.heap.size, 7, none⟩ = some (.int .i64 g.across) ∧ W.cell? ⟨w.heap.size, 8, none⟩ = some (.int .i64 g.down) ∧ W.cell? ⟨w.heap.size, 9, none⟩ = some (.int .i64 g.wide) ∧ W.cell? ⟨w.heap.size, 10, none⟩ = some (.int .i64 g.high)) := fun W hW => ⟨(hW.cells w.heap.size 0 (by simp)).trans (by simp), (hW.cells w.heap.size 1 (by simp)).trans (by simp), (hW.cells w.heap.size 2 (by simp)).trans (by simp), (hW.cells w.heap.size 3 (by simp)).trans (by simp), (hW.cells w.heap.size 4 (by simp)).trans (by simp), (hW.cells w.heap.size 5 (by simp)).trans (by simp), (hW.cells w.heap.size 6 (by simp)).trans (by simp), (hW.cells w.heap.size 7 (by simp)).trans (by simp), (hW.cells w.heap.size 8 (by simp)).trans (by simp), (hW.cells w.heap.size 9 (by simp)).trans (by simp), (hW.cells w.heap.size 10 (by simp)).trans (by simp)⟩
  unfold atN
  have p1 : 0 ≤ y / g.high := Int.ediv_nonneg y0 (by omega)
  have p2 : y / g.high ≤ y := Int.ediv_le_self _ y0
  have p3 : 0 ≤ x / g.wide := Int.ediv_nonneg x0 (by omega)
  have p4 : x / g.wide ≤ x := Int.ediv_le_self _ x0
  have t1 : Int.tdiv y g.high = y / g.high := Int.tdiv_eq_ediv_of_nonneg y0
  have t2 : Int.tdiv x g.wide = x / g.wide := Int.tdiv_eq_ediv_of_nonneg x0
  generalize y / g.high = Q at *
  generalize x / g.wide = R at *
  generalize gridA g = A at *
  generalize gridD g = D at *
  have p5 : 0 ≤ Q * A := Int.mul_nonneg p1 (by omega)
  have p6 : Q * A ≤ 65536 * 65536 := Int.mul_le_mul (by omega) ga1 (by omega) (by omega)
  have e1 : IntKind.i64.wrap Q = Q := IntWalk.i64_in _ (by omega)
  have e2 : IntKind.i64.wrap (Q * A) = Q * A := IntWalk.i64_in _ (by omega)
  have e3 : IntKind.i64.wrap R = R := IntWalk.i64_in _ (by omega)
  have e4 : IntKind.i64.wrap (Q * A + R) = Q * A + R := IntWalk.i64_in _ (by omega)
  have u1 := show g.wide ≠ 0 by omega
  have u2 := show g.high ≠ 0 by omega
  have n1 : (g.wide == 0) = false := by simp; omega
  have n2 : (g.high == 0) = false := by simp; omega
  have s1 : ¬ x < 0 := by omega
  have s2 : ¬ y < 0 := by omega
  have s3 : ¬ g.across ≤ x := by omega
  have s4 : ¬ g.down ≤ y := by omega
  clear hI hm hg p5 p6
  go_enter Tryz.func21, Tryz.ntmps21
  go_wp2_with fail
  refine (CV.out _).mono ?_; rintro e w1 ⟨rfl, hk1⟩; obtain ⟨q0, q1, q2, q3, q4, q5, q6, q7, q8, q9, q10⟩ := BA.out w1 hk1; have hz1 := lt_of_cell q0; have K1 := hide (((Below.refl _ w).alloc (Nat.le_refl _) (.cells #[.bool g.re.neg, .string g.re.n, .int .i64 g.re.e, .bool g.im.neg, .string g.im.n, .int .i64 g.im.e, .int .i64 g.exp, .int .i64 g.across, .int .i64 g.down, .int .i64 g.wide, .int .i64 g.high] 31)).trans (hk1.mono (by simp))); clear hk1
  go_wp2_with fail
  go_quiet (fail)
  go_wp2_with fail
  exact bodyPost_ret (v := .tuple #[.int .i64 (Q * A + R), .int .i64 0]) (by simp [results, Tryz.results21, go_sem]) rfl ⟨rfl, drewN_below K1.out _⟩

set_option maxRecDepth 100000 in
set_option maxHeartbeats 1600000 in
theorem tat_any (g : GrD) (x y : Int) (w : World) (hg : g.ok) (x0 : -9223372036854775808 ≤ x) (x1 : x ≤ 9223372036854775807) (y0 : -9223372036854775808 ≤ y) (y1 : y ≤ 9223372036854775807) : Calls Tryz.prog 21 #[.agg #[.bool g.re.neg, .string g.re.n, .int .i64 g.re.e, .bool g.im.neg, .string g.im.n, .int .i64 g.im.e, .int .i64 g.exp, .int .i64 g.across, .int .i64 g.down, .int .i64 g.wide, .int .i64 g.high], .int .i64 x, .int .i64 y] w (AtPost g x y w) := by
  by_cases hI : gridI g = 0
  · by_cases hn : 0 ≤ x ∧ 0 ≤ y ∧ x < g.across ∧ y < g.down
    · refine (tat_in g x y w hg hI hn.1 hn.2.1 hn.2.2.1 hn.2.2.2).mono ?_
      rintro e w1 ⟨rfl, hk⟩
      exact ⟨by rw [if_pos hI, if_pos hn], hk⟩
    · have CV := hide (fun (W : World) => tcount_any g W hg)
      rw [show cntA g = gridA g by simp [cntA, hI], show cntD g = gridD g by simp [cntD, hI], hI] at CV
      have BA : Hid (∀ W, Kept (w.alloc (.cells #[.bool g.re.neg, .string g.re.n, .int .i64 g.re.e, .bool g.im.neg, .string g.im.n, .int .i64 g.im.e, .int .i64 g.exp, .int .i64 g.across, .int .i64 g.down, .int .i64 g.wide, .int .i64 g.high] 31)) W → W.cell? ⟨w.heap.size, 0, none⟩ = some (.bool g.re.neg) ∧ W.cell? ⟨w.heap.size, 1, none⟩ = some (.string g.re.n) ∧ W.cell? ⟨w.heap.size, 2, none⟩ = some (.int .i64 g.re.e) ∧ W.cell? ⟨w.heap.size, 3, none⟩ = some (.bool g.im.neg) ∧ W.cell? ⟨w.heap.size, 4, none⟩ = some (.string g.im.n) ∧ W.cell? ⟨w.heap.size, 5, none⟩ = some (.int .i64 g.im.e) ∧ W.cell? ⟨w.heap.size, 6, none⟩ = some (.int .i64 g.exp) ∧ W.cell? ⟨w.heap.size, 7, none⟩ = some (.int .i64 g.across) ∧ W.cell? ⟨w.heap.size, 8, none⟩ = some (.int .i64 g.down) ∧ W.cell? ⟨w.heap.size, 9, none⟩ = some (.int .i64 g.wide) ∧ W.cell? ⟨w.heap.size, 10, none⟩ = some (.int .i64 g.high)) := fun W hW => ⟨(hW.cells w.heap.size 0 (by simp)).trans (by simp), (hW.cells w.heap.size 1 (by simp)).trans (by simp), (hW.cells w.heap.size 2 (by simp)).trans (by simp), (hW.cells w.heap.size 3 (by simp)).trans (by simp), (hW.cells w.heap.size 4 (by simp)).trans (by simp), (hW.cells w.heap.size 5 (by simp)).trans (by simp), (hW.cells w.heap.size 6 (by simp)).trans (by simp), (hW.cells w.heap.size 7 (by simp)).trans (by simp), (hW.cells w.heap.size 8 (by simp)).trans (by simp), (hW.cells w.heap.size 9 (by simp)).trans (by simp), (hW.cells w.heap.size 10 (by simp)).trans (by simp)⟩
      have HP : Hid (∀ w', Kept w w' → AtPost g x y w (.returned (.tuple #[.int .i64 0, .int .i64 241])) w') := fun w' h => ⟨by rw [if_pos hI, if_neg hn], h⟩
      generalize gridA g = A at *
      generalize gridD g = D at *
      rcases (show x < 0 ∨ (¬ x < 0 ∧ y < 0) ∨ (¬ x < 0 ∧ ¬ y < 0 ∧ g.across ≤ x) ∨ (¬ x < 0 ∧ ¬ y < 0 ∧ ¬ g.across ≤ x ∧ g.down ≤ y) by omega) with s1 | ⟨s1, s2⟩ | ⟨s1, s2, s3⟩ | ⟨s1, s2, s3, s4⟩
      all_goals
        clear hn hI hg
        go_enter Tryz.func21, Tryz.ntmps21
        go_wp2_with (go_at_call 19; refine (CV.out _).mono ?_; rintro e w1 ⟨rfl, hk1⟩; obtain ⟨q0, q1, q2, q3, q4, q5, q6, q7, q8, q9, q10⟩ := BA.out w1 hk1; have hz1 := lt_of_cell q0; have K1 := hide (((Below.refl _ w).alloc (Nat.le_refl _) (.cells #[.bool g.re.neg, .string g.re.n, .int .i64 g.re.e, .bool g.im.neg, .string g.im.n, .int .i64 g.im.e, .int .i64 g.exp, .int .i64 g.across, .int .i64 g.down, .int .i64 g.wide, .int .i64 g.high] 31)).trans (hk1.mono (by simp))); clear hk1)
        exact bodyPost_ret (v := .tuple #[.int .i64 0, .int .i64 241]) (by simp [results, Tryz.results21, go_sem]) rfl (HP.out _ K1.out)
  · have CV := hide (fun (W : World) => tcount_any g W hg)
    have BA : Hid (∀ W, Kept (w.alloc (.cells #[.bool g.re.neg, .string g.re.n, .int .i64 g.re.e, .bool g.im.neg, .string g.im.n, .int .i64 g.im.e, .int .i64 g.exp, .int .i64 g.across, .int .i64 g.down, .int .i64 g.wide, .int .i64 g.high] 31)) W → W.cell? ⟨w.heap.size, 0, none⟩ = some (.bool g.re.neg) ∧ W.cell? ⟨w.heap.size, 1, none⟩ = some (.string g.re.n) ∧ W.cell? ⟨w.heap.size, 2, none⟩ = some (.int .i64 g.re.e) ∧ W.cell? ⟨w.heap.size, 3, none⟩ = some (.bool g.im.neg) ∧ W.cell? ⟨w.heap.size, 4, none⟩ = some (.string g.im.n) ∧ W.cell? ⟨w.heap.size, 5, none⟩ = some (.int .i64 g.im.e) ∧ W.cell? ⟨w.heap.size, 6, none⟩ = some (.int .i64 g.exp) ∧ W.cell? ⟨w.heap.size, 7, none⟩ = some (.int .i64 g.across) ∧ W.cell? ⟨w.heap.size, 8, none⟩ = some (.int .i64 g.down) ∧ W.cell? ⟨w.heap.size, 9, none⟩ = some (.int .i64 g.wide) ∧ W.cell? ⟨w.heap.size, 10, none⟩ = some (.int .i64 g.high)) := fun W hW => ⟨(hW.cells w.heap.size 0 (by simp)).trans (by simp), (hW.cells w.heap.size 1 (by simp)).trans (by simp), (hW.cells w.heap.size 2 (by simp)).trans (by simp), (hW.cells w.heap.size 3 (by simp)).trans (by simp), (hW.cells w.heap.size 4 (by simp)).trans (by simp), (hW.cells w.heap.size 5 (by simp)).trans (by simp), (hW.cells w.heap.size 6 (by simp)).trans (by simp), (hW.cells w.heap.size 7 (by simp)).trans (by simp), (hW.cells w.heap.size 8 (by simp)).trans (by simp), (hW.cells w.heap.size 9 (by simp)).trans (by simp), (hW.cells w.heap.size 10 (by simp)).trans (by simp)⟩
    have hne : (gridI g != 0) = true := by simp [hI]
    have HP : Hid (∀ w', Kept w w' → AtPost g x y w (.returned (.tuple #[.int .i64 0, .int .i64 (gridI g)])) w') := fun w' h => ⟨by rw [if_neg hI], h⟩
    obtain ⟨E, hE⟩ : ∃ E, E = gridI g := ⟨_, rfl⟩
    rw [← hE] at CV hne HP
    clear hI hE hg
    go_enter Tryz.func21, Tryz.ntmps21
    go_wp2_with (go_at_call 19; refine (CV.out _).mono ?_; rintro e w1 ⟨rfl, hk1⟩; obtain ⟨q0, q1, q2, q3, q4, q5, q6, q7, q8, q9, q10⟩ := BA.out w1 hk1; have hz1 := lt_of_cell q0; have K1 := hide (((Below.refl _ w).alloc (Nat.le_refl _) (.cells #[.bool g.re.neg, .string g.re.n, .int .i64 g.re.e, .bool g.im.neg, .string g.im.n, .int .i64 g.im.e, .int .i64 g.exp, .int .i64 g.across, .int .i64 g.down, .int .i64 g.wide, .int .i64 g.high] 31)).trans (hk1.mono (by simp))); clear hk1)
    exact bodyPost_ret (v := .tuple #[.int .i64 0, .int .i64 E]) (by simp [results, Tryz.results21, go_sem]) rfl (HP.out _ K1.out)
end Go.Proofs.YtneakieigiafpaaGreatDoor
