/- Windows and grids: view.side, view.count, view.Check, tile.counted, tile.Check, tile.Count, tile.rect, tile.Rect, walked. -/
import Derived.Test.YtneakieigiafpaaGreatDoorNatC
import Derived.Test.YtneakieigiafpaaGreatDoorHeld
import Derived.Deep.DeepCutAuto
import Derived.IntWalk
namespace Go.Proofs.YtneakieigiafpaaGreatDoor
open Go.RowKit

structure GrD where
  re : DyD
  im : DyD
  exp : Int
  across : Int
  down : Int
  wide : Int
  high : Int
def in64 (x : Int) : Prop := -9223372036854775808 ≤ x ∧ x ≤ 9223372036854775807
structure GrD.ok (g : GrD) : Prop where
  re : g.re.ok
  im : g.im.ok
  exp : in64 g.exp
  across : in64 g.across
  down : in64 g.down
  wide : in64 g.wide
  high : in64 g.high
def viewB (g : GrD) : Bool := (dyadB g.re && dyadB g.im) && (decide (-4096 ≤ g.exp ∧ g.exp ≤ 4096) && (decide (1 ≤ g.across ∧ g.across ≤ 65536) && decide (1 ≤ g.down ∧ g.down ≤ 65536)))
def gridA (g : GrD) : Int := (g.across + g.wide - 1) / g.wide
def gridD (g : GrD) : Int := (g.down + g.high - 1) / g.high
def cellsB (g : GrD) : Bool := decide (1 ≤ g.wide ∧ 1 ≤ g.high ∧ g.wide ≤ 65536 ∧ g.high ≤ 65536 ∧ g.wide * g.high ≤ 65536)
def gridI (g : GrD) : Int := if viewB g then (if cellsB g then (if gridA g * gridD g ≤ 65536 then 0 else 2) else 2) else 240

set_option maxHeartbeats 400000 in
theorem side_any (n : Int) (w : World) : Calls Tryz.prog 120 #[.int .i64 n] w fun e w' => e = .returned (.bool (decide (-4096 ≤ n ∧ n ≤ 4096))) ∧ w = w' := by
  by_cases h1 : -4096 ≤ n
  · go_enter Tryz.func120, Tryz.ntmps120
    go_wp2
    go_ret
    exact ⟨by simp [h1], rfl⟩
  · go_enter Tryz.func120, Tryz.ntmps120
    go_wp2
    go_ret
    exact ⟨by simp; omega, rfl⟩
set_option maxHeartbeats 400000 in
theorem vcount_any (n : Int) (w : World) : Calls Tryz.prog 121 #[.int .i64 n] w fun e w' => e = .returned (.bool (decide (1 ≤ n ∧ n ≤ 65536))) ∧ w = w' := by
  by_cases h1 : 1 ≤ n
  · go_enter Tryz.func121, Tryz.ntmps121
    go_wp2
    go_ret
    exact ⟨by simp [h1], rfl⟩
  · go_enter Tryz.func121, Tryz.ntmps121
    go_wp2
    go_ret
    exact ⟨by simp; omega, rfl⟩


set_option maxRecDepth 100000 in
set_option maxHeartbeats 1600000 in
theorem viewcheck_any (g : GrD) (w : World) (hg : g.ok) : Calls Tryz.prog 57 #[.agg #[.bool g.re.neg, .string g.re.n, .int .i64 g.re.e, .bool g.im.neg, .string g.im.n, .int .i64 g.im.e, .int .i64 g.exp, .int .i64 g.across, .int .i64 g.down]] w fun e w' => e = .returned (.int .i64 (if viewB g then 0 else 240)) ∧ Kept w w' := by
  have CG := hide (fun (W : World) => gausscheck_any g.re g.im W hg.re hg.im)
  cases h0 : (dyadB g.re && dyadB g.im) with
  | false =>
    rw [show gaussI g.re g.im = 2 by simp only [gaussI, h0]; rfl] at CG
    rw [show viewB g = false by simp only [viewB, h0, Bool.false_and]]
    clear h0 hg
    go_enter Tryz.func57, Tryz.ntmps57
    go_wp2_with (go_at_call 119; refine (CG.out _).mono ?_; rintro e w1 ⟨rfl, hk1⟩)
    go_ret
    exact ⟨rfl, ((Below.refl _ w).alloc (Nat.le_refl _) _).trans (hk1.mono (by simp))⟩
  | true =>
    rw [show gaussI g.re g.im = 0 by simp only [gaussI, h0]; rfl] at CG
    have CS := hide (fun (W : World) => side_any g.exp W)
    have C1 := hide (fun (W : World) => vcount_any g.across W)
    have C2 := hide (fun (W : World) => vcount_any g.down W)
    obtain ⟨s, hs⟩ : ∃ s, s = decide (-4096 ≤ g.exp ∧ g.exp ≤ 4096) := ⟨_, rfl⟩
    obtain ⟨x, hx⟩ : ∃ s, s = decide (1 ≤ g.across ∧ g.across ≤ 65536) := ⟨_, rfl⟩
    obtain ⟨y, hy⟩ : ∃ s, s = decide (1 ≤ g.down ∧ g.down ≤ 65536) := ⟨_, rfl⟩
    rw [show viewB g = (s && (x && y)) by rw [viewB, h0, hs, hx, hy, Bool.true_and]]
    rw [← hs] at CS
    rw [← hx] at C1
    rw [← hy] at C2
    clear h0 hg hs hx hy
    go_enter Tryz.func57, Tryz.ntmps57
    go_wp2_with fail
    refine (CG.out _).mono ?_
    rintro e w1 ⟨rfl, hk1⟩
    have c6 := (hk1.cells w.heap.size 6 (by simp))
    have c7 := (hk1.cells w.heap.size 7 (by simp))
    have c8 := (hk1.cells w.heap.size 8 (by simp))
    simp at c6 c7 c8
    have hz5 := lt_of_cell c6
    have K1 := hide (((Below.refl _ w).alloc (Nat.le_refl _) (.cells #[.bool g.re.neg, .string g.re.n, .int .i64 g.re.e, .bool g.im.neg, .string g.im.n, .int .i64 g.im.e, .int .i64 g.exp, .int .i64 g.across, .int .i64 g.down] 29)).trans (hk1.mono (by simp)))
    clear hk1
    cases s with
    | false =>
      go_wp2_with (go_at_call 120; refine (CS.out _).mono ?_; rintro e w2 ⟨rfl, rfl⟩)
      go_ret
      exact ⟨rfl, K1.out⟩
    | true =>
      cases x with
      | false =>
        go_wp2_with (first
          | (go_at_call 120; refine (CS.out _).mono ?_; rintro e w2 ⟨rfl, rfl⟩)
          | (go_at_call 121; refine (C1.out _).mono ?_; rintro e w2 ⟨rfl, rfl⟩))
        go_ret
        exact ⟨rfl, K1.out⟩
      | true =>
        cases y with
        | false =>
          go_wp2_with (go_at_call 120; refine (CS.out _).mono ?_; rintro e w2 ⟨rfl, rfl⟩)
          refine (C1.out _).mono ?_
          rintro e w2 ⟨rfl, rfl⟩
          go_wp2_with fail
          refine (C2.out _).mono ?_
          rintro e w2 ⟨rfl, rfl⟩
          go_wp2_with fail
          go_ret
          exact ⟨rfl, K1.out⟩
        | true =>
          go_wp2_with (go_at_call 120; refine (CS.out _).mono ?_; rintro e w2 ⟨rfl, rfl⟩)
          refine (C1.out _).mono ?_
          rintro e w2 ⟨rfl, rfl⟩
          go_wp2_with fail
          refine (C2.out _).mono ?_
          rintro e w2 ⟨rfl, rfl⟩
          go_wp2_with fail
          go_ret
          exact ⟨rfl, K1.out⟩


structure GrBnd (g : GrD) : Prop where
  a0 : 1 ≤ g.across
  a1 : g.across ≤ 65536
  d0 : 1 ≤ g.down
  d1 : g.down ≤ 65536
  w0 : 1 ≤ g.wide
  w1 : g.wide ≤ 65536
  h0 : 1 ≤ g.high
  h1 : g.high ≤ 65536
theorem viewB_bnd {g : GrD} (h : viewB g = true) : 1 ≤ g.across ∧ g.across ≤ 65536 ∧ 1 ≤ g.down ∧ g.down ≤ 65536 := by
  simp only [viewB, Bool.and_eq_true, decide_eq_true_eq] at h
  exact ⟨h.2.2.1.1, h.2.2.1.2, h.2.2.2.1, h.2.2.2.2⟩
theorem grid_bnd {g : GrD} (h : viewB g = true) (hc : cellsB g = true) : GrBnd g := by
  obtain ⟨h1, h2, h3, h4⟩ := viewB_bnd h
  simp only [cellsB, decide_eq_true_eq] at hc
  exact ⟨h1, h2, h3, h4, hc.1, hc.2.2.1, hc.2.1, hc.2.2.2.1⟩
theorem quo_bnd {x y : Int} (h0 : 1 ≤ x) (h1 : x ≤ 65536) (h2 : 1 ≤ y) : 1 ≤ (x + y - 1) / y ∧ (x + y - 1) / y ≤ x := by
  refine ⟨(Int.le_ediv_iff_mul_le (by omega)).2 (by omega), ?_⟩
  have h3 : 0 ≤ (x - 1) * (y - 1) := Int.mul_nonneg (by omega) (by omega)
  rw [Int.sub_mul, Int.mul_sub] at h3
  have h4 : x + y - 1 < (x + 1) * y := by rw [Int.add_mul]; omega
  have := Int.ediv_lt_of_lt_mul (show 0 < y by omega) h4
  omega
theorem GrBnd.gA {g : GrD} (h : GrBnd g) : 1 ≤ gridA g ∧ gridA g ≤ 65536 := by
  have := quo_bnd h.a0 h.a1 h.w0
  have h2 := h.a1
  unfold gridA; omega
theorem GrBnd.gD {g : GrD} (h : GrBnd g) : 1 ≤ gridD g ∧ gridD g ≤ 65536 := by
  have := quo_bnd h.d0 h.d1 h.h0
  have h2 := h.d1
  unfold gridD; omega

set_option maxRecDepth 100000 in
set_option maxHeartbeats 1600000 in
theorem counted_any (g : GrD) (w : World) (hg : GrBnd g) : Calls Tryz.prog 58 #[.agg #[.bool g.re.neg, .string g.re.n, .int .i64 g.re.e, .bool g.im.neg, .string g.im.n, .int .i64 g.im.e, .int .i64 g.exp, .int .i64 g.across, .int .i64 g.down, .int .i64 g.wide, .int .i64 g.high]] w fun e w' => e = .returned (.tuple #[.int .i64 (gridA g), .int .i64 (gridD g)]) ∧ Kept w w' := by
  obtain ⟨a0, a1, d0, d1, w0, w1, h0, h1⟩ := hg
  have e1 : IntKind.i64.wrap (g.across + g.wide) = g.across + g.wide := IntWalk.i64_in _ (by omega)
  have e2 : IntKind.i64.wrap (g.across + g.wide - 1) = g.across + g.wide - 1 := IntWalk.i64_in _ (by omega)
  have e3 : IntKind.i64.wrap (g.down + g.high) = g.down + g.high := IntWalk.i64_in _ (by omega)
  have e4 : IntKind.i64.wrap (g.down + g.high - 1) = g.down + g.high - 1 := IntWalk.i64_in _ (by omega)
  have q1 := quo_bnd a0 a1 w0
  have q2 := quo_bnd d0 d1 h0
  have n1 : (g.wide == 0) = false := by simp; omega
  have n2 : (g.high == 0) = false := by simp; omega
  have n3 : 0 ≤ g.across + g.wide - 1 := by omega
  have n4 : 0 ≤ g.down + g.high - 1 := by omega
  have t1 : Int.tdiv (g.across + g.wide - 1) g.wide = gridA g := Int.tdiv_eq_ediv_of_nonneg n3
  have t2 : Int.tdiv (g.down + g.high - 1) g.high = gridD g := Int.tdiv_eq_ediv_of_nonneg n4
  have t3 : IntKind.i64.wrap (gridA g) = gridA g := IntWalk.i64_in _ (by unfold gridA; omega)
  have t4 : IntKind.i64.wrap (gridD g) = gridD g := IntWalk.i64_in _ (by unfold gridD; omega)
  clear q1 q2
  go_enter Tryz.func58, Tryz.ntmps58
  go_wp2_with fail
  go_quiet (fail)
  go_wp2_with fail
  go_ret2
  exact ⟨rfl, drewN_below ((Below.refl _ _).alloc (Nat.le_refl _) _) _⟩

set_option maxRecDepth 100000 in
set_option maxHeartbeats 3200000 in
theorem tcheck_any (g : GrD) (w : World) (hg : g.ok) : Calls Tryz.prog 18 #[.agg #[.bool g.re.neg, .string g.re.n, .int .i64 g.re.e, .bool g.im.neg, .string g.im.n, .int .i64 g.im.e, .int .i64 g.exp, .int .i64 g.across, .int .i64 g.down, .int .i64 g.wide, .int .i64 g.high]] w fun e w' => e = .returned (.int .i64 (gridI g)) ∧ Kept w w' := by
  have CV := hide (fun (W : World) => viewcheck_any g W hg)
  cases hv : viewB g with
  | false =>
    rw [hv] at CV
    rw [show gridI g = 240 by simp [gridI, hv]]
    clear hv hg
    go_enter Tryz.func18, Tryz.ntmps18
    go_wp2_with (go_at_call 57; refine (CV.out _).mono ?_; rintro e w1 ⟨rfl, hk1⟩)
    go_ret
    exact ⟨rfl, ((Below.refl _ w).alloc (Nat.le_refl _) _).trans (hk1.mono (by simp))⟩
  | true =>
    rw [hv] at CV
    have hb := viewB_bnd hv
    obtain ⟨w0, w1⟩ := hg.wide
    obtain ⟨h0, h1⟩ := hg.high
    have BX : Hid (∀ W, Kept (w.alloc (.cells #[.bool g.re.neg, .string g.re.n, .int .i64 g.re.e, .bool g.im.neg, .string g.im.n, .int .i64 g.im.e, .int .i64 g.exp, .int .i64 g.across, .int .i64 g.down, .int .i64 g.wide, .int .i64 g.high] 31)) W → W.cell? ⟨w.heap.size, 9, none⟩ = some (.int .i64 g.wide) ∧ W.cell? ⟨w.heap.size, 10, none⟩ = some (.int .i64 g.high)) := fun W hW => ⟨(hW.cells w.heap.size 9 (by simp)).trans (by simp), (hW.cells w.heap.size 10 (by simp)).trans (by simp)⟩
    by_cases hc : 1 ≤ g.wide ∧ 1 ≤ g.high ∧ g.wide ≤ 65536 ∧ g.high ≤ 65536
    · obtain ⟨c1, c2, c3, c4⟩ := hc
      have m1 : 0 ≤ g.wide * g.high := Int.mul_nonneg (by omega) (by omega)
      have m2 : g.wide * g.high ≤ 65536 * 65536 := Int.mul_le_mul c3 c4 (by omega) (by omega)
      have s1 : ¬ g.wide < 1 := by omega
      have s2 : ¬ g.high < 1 := by omega
      have s3 : ¬ 65536 < g.wide := by omega
      have s4 : ¬ 65536 < g.high := by omega
      by_cases hm : g.wide * g.high ≤ 65536
      · have hB : cellsB g = true := by simp only [cellsB, decide_eq_true_eq]; exact ⟨c1, c2, c3, c4, hm⟩
        have hG := grid_bnd hv hB
        have s5 : ¬ 65536 < g.wide * g.high := by omega
        have CC := hide (fun (W : World) => counted_any g W hG)
        obtain ⟨ga0, ga1⟩ := hG.gA
        obtain ⟨gd0, gd1⟩ := hG.gD
        have p1 : 0 ≤ gridA g * gridD g := Int.mul_nonneg (by omega) (by omega)
        have p2 : gridA g * gridD g ≤ 65536 * 65536 := Int.mul_le_mul ga1 gd1 (by omega) (by omega)
        have HI : Hid (gridI g = if gridA g * gridD g ≤ 65536 then 0 else 2) := by show _ = _; simp [gridI, hv, hB]
        have BA : Hid (∀ W, Kept (w.alloc (.cells #[.bool g.re.neg, .string g.re.n, .int .i64 g.re.e, .bool g.im.neg, .string g.im.n, .int .i64 g.im.e, .int .i64 g.exp, .int .i64 g.across, .int .i64 g.down, .int .i64 g.wide, .int .i64 g.high] 31)) W → W.cell? ⟨w.heap.size, 0, none⟩ = some (.bool g.re.neg) ∧ W.cell? ⟨w.heap.size, 1, none⟩ = some (.string g.re.n) ∧ W.cell? ⟨w.heap.size, 2, none⟩ = some (.int .i64 g.re.e) ∧ W.cell? ⟨w.heap.size, 3, none⟩ = some (.bool g.im.neg) ∧ W.cell? ⟨w.heap.size, 4, none⟩ = some (.string g.im.n) ∧ W.cell? ⟨w.heap.size, 5, none⟩ = some (.int .i64 g.im.e) ∧ W.cell? ⟨w.heap.size, 6, none⟩ = some (.int .i64 g.exp) ∧ W.cell? ⟨w.heap.size, 7, none⟩ = some (.int .i64 g.across) ∧ W.cell? ⟨w.heap.size, 8, none⟩ = some (.int .i64 g.down) ∧ W.cell? ⟨w.heap.size, 9, none⟩ = some (.int .i64 g.wide) ∧ W.cell? ⟨w.heap.size, 10, none⟩ = some (.int .i64 g.high)) := fun W hW => ⟨(hW.cells w.heap.size 0 (by simp)).trans (by simp), (hW.cells w.heap.size 1 (by simp)).trans (by simp), (hW.cells w.heap.size 2 (by simp)).trans (by simp), (hW.cells w.heap.size 3 (by simp)).trans (by simp), (hW.cells w.heap.size 4 (by simp)).trans (by simp), (hW.cells w.heap.size 5 (by simp)).trans (by simp), (hW.cells w.heap.size 6 (by simp)).trans (by simp), (hW.cells w.heap.size 7 (by simp)).trans (by simp), (hW.cells w.heap.size 8 (by simp)).trans (by simp), (hW.cells w.heap.size 9 (by simp)).trans (by simp), (hW.cells w.heap.size 10 (by simp)).trans (by simp)⟩
        generalize gridA g = ga at *
        generalize gridD g = gd at *
        clear hv hg hB hG hb BX
        go_enter Tryz.func18, Tryz.ntmps18
        go_wp2_with fail
        refine (CV.out _).mono ?_
        rintro e w1 ⟨rfl, hk1⟩
        obtain ⟨q0, q1, q2, q3, q4, q5, q6, q7, q8, q9, q10⟩ := BA.out w1 hk1
        have hz1 := lt_of_cell q0
        have K1 := hide (((Below.refl _ w).alloc (Nat.le_refl _) (.cells #[.bool g.re.neg, .string g.re.n, .int .i64 g.re.e, .bool g.im.neg, .string g.im.n, .int .i64 g.im.e, .int .i64 g.exp, .int .i64 g.across, .int .i64 g.down, .int .i64 g.wide, .int .i64 g.high] 31)).trans (hk1.mono (by simp)))
        clear hk1
        go_wp2_with fail
        refine (CC.out _).mono ?_
        rintro e w2 ⟨rfl, hk2⟩
        have K2 := hide (K1.out.trans (hk2.mono K1.out.size))
        clear hk2 q0 q1 q2 q3 q4 q5 q6 q7 q8 q9 q10
        go_wp2_with fail
        all_goals
          go_ret
          refine ⟨int_ret ?_, K2.out⟩
          rw [HI.out]
          split <;> first | rfl | omega
      · have s5 : 65536 < g.wide * g.high := by omega
        have HI : Hid (gridI g = 2) := by
          show _ = _
          rw [gridI, hv, if_pos rfl, if_neg]
          intro h; simp only [cellsB, decide_eq_true_eq] at h; exact hm h.2.2.2.2
        clear hv hg hm hb
        go_enter Tryz.func18, Tryz.ntmps18
        go_wp2_with (go_at_call 57; refine (CV.out _).mono ?_; rintro e w1 ⟨rfl, hk1⟩; obtain ⟨q9, q10⟩ := BX.out w1 hk1; have K1 := hide (((Below.refl _ w).alloc (Nat.le_refl _) (.cells #[.bool g.re.neg, .string g.re.n, .int .i64 g.re.e, .bool g.im.neg, .string g.im.n, .int .i64 g.im.e, .int .i64 g.exp, .int .i64 g.across, .int .i64 g.down, .int .i64 g.wide, .int .i64 g.high] 31)).trans (hk1.mono (by simp))); clear hk1)
        go_ret
        exact ⟨int_ret HI.out.symm, K1.out⟩
    · have HC := hide hc
      have HI : Hid (gridI g = 2) := by
        show _ = _
        rw [gridI, hv, if_pos rfl, if_neg]
        intro h; simp only [cellsB, decide_eq_true_eq] at h; exact hc ⟨h.1, h.2.1, h.2.2.1, h.2.2.2.1⟩
      clear hv hg hc hb
      go_enter Tryz.func18, Tryz.ntmps18
      go_wp2_with (go_at_call 57; refine (CV.out _).mono ?_; rintro e w1 ⟨rfl, hk1⟩; obtain ⟨q9, q10⟩ := BX.out w1 hk1; have K1 := hide (((Below.refl _ w).alloc (Nat.le_refl _) (.cells #[.bool g.re.neg, .string g.re.n, .int .i64 g.re.e, .bool g.im.neg, .string g.im.n, .int .i64 g.im.e, .int .i64 g.exp, .int .i64 g.across, .int .i64 g.down, .int .i64 g.wide, .int .i64 g.high] 31)).trans (hk1.mono (by simp))); clear hk1)
      all_goals first
        | (exfalso; have := HC.out; omega)
        | (go_ret; exact ⟨int_ret HI.out.symm, K1.out⟩)


def cntA (g : GrD) : Int := if gridI g = 0 then gridA g else 0
def cntD (g : GrD) : Int := if gridI g = 0 then gridD g else 0
theorem gridI_ok {g : GrD} (h : gridI g = 0) : GrBnd g ∧ gridA g * gridD g ≤ 65536 := by
  cases hv : viewB g with
  | false => simp [gridI, hv] at h
  | true =>
    cases hc : cellsB g with
    | false => simp [gridI, hv, hc] at h
    | true =>
      refine ⟨grid_bnd hv hc, ?_⟩
      simp only [gridI, hv, hc, if_true] at h
      split at h
      · assumption
      · omega

set_option maxRecDepth 100000 in
set_option maxHeartbeats 1600000 in
theorem tcount_any (g : GrD) (w : World) (hg : g.ok) : Calls Tryz.prog 19 #[.agg #[.bool g.re.neg, .string g.re.n, .int .i64 g.re.e, .bool g.im.neg, .string g.im.n, .int .i64 g.im.e, .int .i64 g.exp, .int .i64 g.across, .int .i64 g.down, .int .i64 g.wide, .int .i64 g.high]] w fun e w' => e = .returned (.tuple #[.int .i64 (cntA g), .int .i64 (cntD g), .int .i64 (gridI g)]) ∧ Kept w w' := by
  have CV := hide (fun (W : World) => tcheck_any g W hg)
  by_cases hI : gridI g = 0
  · obtain ⟨hB, hm⟩ := gridI_ok hI
    have CC := hide (fun (W : World) => counted_any g W hB)
    rw [show cntA g = gridA g by simp [cntA, hI], show cntD g = gridD g by simp [cntD, hI], hI]
    rw [hI] at CV
    have BA : Hid (∀ W, Kept (w.alloc (.cells #[.bool g.re.neg, .string g.re.n, .int .i64 g.re.e, .bool g.im.neg, .string g.im.n, .int .i64 g.im.e, .int .i64 g.exp, .int .i64 g.across, .int .i64 g.down, .int .i64 g.wide, .int .i64 g.high] 31)) W → W.cell? ⟨w.heap.size, 0, none⟩ = some (.bool g.re.neg) ∧ W.cell? ⟨w.heap.size, 1, none⟩ = some (.string g.re.n) ∧ W.cell? ⟨w.heap.size, 2, none⟩ = some (.int .i64 g.re.e) ∧ W.cell? ⟨w.heap.size, 3, none⟩ = some (.bool g.im.neg) ∧ W.cell? ⟨w.heap.size, 4, none⟩ = some (.string g.im.n) ∧ W.cell? ⟨w.heap.size, 5, none⟩ = some (.int .i64 g.im.e) ∧ W.cell? ⟨w.heap.size, 6, none⟩ = some (.int .i64 g.exp) ∧ W.cell? ⟨w.heap.size, 7, none⟩ = some (.int .i64 g.across) ∧ W.cell? ⟨w.heap.size, 8, none⟩ = some (.int .i64 g.down) ∧ W.cell? ⟨w.heap.size, 9, none⟩ = some (.int .i64 g.wide) ∧ W.cell? ⟨w.heap.size, 10, none⟩ = some (.int .i64 g.high)) := fun W hW => ⟨(hW.cells w.heap.size 0 (by simp)).trans (by simp), (hW.cells w.heap.size 1 (by simp)).trans (by simp), (hW.cells w.heap.size 2 (by simp)).trans (by simp), (hW.cells w.heap.size 3 (by simp)).trans (by simp), (hW.cells w.heap.size 4 (by simp)).trans (by simp), (hW.cells w.heap.size 5 (by simp)).trans (by simp), (hW.cells w.heap.size 6 (by simp)).trans (by simp), (hW.cells w.heap.size 7 (by simp)).trans (by simp), (hW.cells w.heap.size 8 (by simp)).trans (by simp), (hW.cells w.heap.size 9 (by simp)).trans (by simp), (hW.cells w.heap.size 10 (by simp)).trans (by simp)⟩
    clear hI hB hm hg
    go_enter Tryz.func19, Tryz.ntmps19
    go_wp2_with fail
    refine (CV.out _).mono ?_
    rintro e w1 ⟨rfl, hk1⟩
    obtain ⟨q0, q1, q2, q3, q4, q5, q6, q7, q8, q9, q10⟩ := BA.out w1 hk1
    have hz1 := lt_of_cell q0
    have K1 := hide (((Below.refl _ w).alloc (Nat.le_refl _) (.cells #[.bool g.re.neg, .string g.re.n, .int .i64 g.re.e, .bool g.im.neg, .string g.im.n, .int .i64 g.im.e, .int .i64 g.exp, .int .i64 g.across, .int .i64 g.down, .int .i64 g.wide, .int .i64 g.high] 31)).trans (hk1.mono (by simp)))
    clear hk1
    go_wp2_with fail
    refine (CC.out _).mono ?_
    rintro e w2 ⟨rfl, hk2⟩
    go_wp2_with fail
    go_ret3
    exact ⟨rfl, K1.out.trans (hk2.mono K1.out.size)⟩
  · rw [show cntA g = 0 by simp [cntA, hI], show cntD g = 0 by simp [cntD, hI]]
    have hne : (gridI g != 0) = true := by simp [hI]
    obtain ⟨E, hE⟩ : ∃ E, E = gridI g := ⟨_, rfl⟩
    rw [← hE] at CV hne ⊢
    clear hI hE hg
    go_enter Tryz.func19, Tryz.ntmps19
    go_wp2_with (go_at_call 18; refine (CV.out _).mono ?_; rintro e w1 ⟨rfl, hk1⟩)
    go_ret3
    exact ⟨rfl, ((Below.refl _ w).alloc (Nat.le_refl _) _).trans (hk1.mono (by simp))⟩


end Go.Proofs.YtneakieigiafpaaGreatDoor