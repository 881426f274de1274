/- tile.At, walked. -/
import Derived.Test.YtneakieigiafpaaGreatDoorRectR
namespace Go.Proofs.YtneakieigiafpaaGreatDoor
open Go.RowKit

def atN (g : GrD) (x y : Int) : Int := y / g.high * gridA g + x / g.wide
def AtPost (g : GrD) (x y : Int) (w : World) (e : Ending) (w' : World) : Prop :=
  (if gridI g = 0 then
    if 0 ≤ x ∧ 0 ≤ y ∧ x < g.across ∧ y < g.down then e = .returned (.tuple #[.int .i64 (atN g x y), .int .i64 0])
    else e = .returned (.tuple #[.int .i64 0, .int .i64 241])
  else e = .returned (.tuple #[.int .i64 0, .int .i64 (gridI g)])) ∧ Kept w w'

set_option maxRecDepth 100000 in
set_option maxHeartbeats 1600000 in
theorem tat_in (g : GrD) (x y : Int) (w : World) (hg : g.ok) (hI : gridI g = 0) (x0 : 0 ≤ x) (y0 : 0 ≤ y) (x1 : x < g.across) (y1 : y < g.down) : Calls Tryz.prog 21 #[.agg #[.bool g.re.neg, .string g.re.n, .int .i64 g.re.e, .bool g.im.neg, .string g.im.n, .int .i64 g.im.e, .int .i64 g.exp, .int .i64 g.across, .int .i64 g.down, .int .i64 g.wide, .int .i64 g.high], .int .i64 x, .int .i64 y] w fun e w' => e = .returned (.tuple #[.int .i64 (atN g x y), .int .i64 0]) ∧ Kept w w' := by
  have CV := hide (fun (W : World) => tcount_any g W hg)
  obtain ⟨hB, hm⟩ := gridI_ok hI
  obtain ⟨ga0, ga1⟩ := hB.gA
  rw [show cntA g = gridA g by simp [cntA, hI], show cntD g = gridD g by simp [cntD, hI], hI] at CV
  obtain ⟨a0, a1, d0, d1, w0, w1, h0, h1⟩ := hB
  have BA : Hid (∀ W, Kept (w.alloc (.cells #[.bool g.re.neg, .string g.re.n, .int .i64 g.re.e, .bool g.im.neg, .string g.im.n, .int .i64 g.im.e, .int .i64 g.exp, .int .i64 g.across, .int .i64 g.down, .int .i64 g.wide, .int .i64 g.high] 31)) W → W.cell? ⟨w.heap.size, 0, none⟩ = some (.bool g.re.neg) ∧ W.cell? ⟨w.heap.size, 1, none⟩ = some (.string g.re.n) ∧ W.cell? ⟨w.heap.size, 2, none⟩ = some (.int .i64 g.re.e) ∧ W.cell? ⟨w.heap.size, 3, none⟩ = some (.bool g.im.neg) ∧ W.cell? ⟨w.heap.size, 4, none⟩ = some (.string g.im.n) ∧ W.cell? ⟨w.heap.size, 5, none⟩ = some (.int .i64 g.im.e) ∧ W.cell? ⟨w.heap.size, 6, none⟩ = some (.int .i64 g.exp) ∧ W.cell? ⟨w.heap.size, 7, none⟩ = some (.int .i64 g.across) ∧ W.cell? ⟨w.heap.size, 8, none⟩ = some (.int .i64 g.down) ∧ W.cell? ⟨w.heap.size, 9, none⟩ = some (.int .i64 g.wide) ∧ W.cell? ⟨w.heap.size, 10, none⟩ = some (.int .i64 g.high)) := fun W hW => ⟨(hW.cells w.heap.size 0 (by simp)).trans (by simp), (hW.cells w.heap.size 1 (by simp)).trans (by simp), (hW.cells w.heap.size 2 (by simp)).trans (by simp), (hW.cells w.heap.size 3 (by simp)).trans (by simp), (hW.cells w.heap.size 4 (by simp)).trans (by simp), (hW.cells w.heap.size 5 (by simp)).trans (by simp), (hW.cells w.heap.size 6 (by simp)).trans (by simp), (hW.cells w.heap.size 7 (by simp)).trans (by simp), (hW.cells w.heap.size 8 (by simp)).trans (by simp), (hW.cells w.heap.size 9 (by simp)).trans (by simp), (hW.cells w.heap.size 10 (by simp)).trans (by simp)⟩
  unfold atN
  have p1 : 0 ≤ y / g.high := Int.ediv_nonneg y0 (by omega)
  have p2 : y / g.high ≤ y := Int.ediv_le_self _ y0
  have p3 : 0 ≤ x / g.wide := Int.ediv_nonneg x0 (by omega)
  have p4 : x / g.wide ≤ x := Int.ediv_le_self _ x0
  have t1 : Int.tdiv y g.high = y / g.high := Int.tdiv_eq_ediv_of_nonneg y0
  have t2 : Int.tdiv x g.wide = x / g.wide := Int.tdiv_eq_ediv_of_nonneg x0
  generalize y / g.high = Q at *
  generalize x / g.wide = R at *
  generalize gridA g = A at *
  generalize gridD g = D at *
  have p5 : 0 ≤ Q * A := Int.mul_nonneg p1 (by omega)
  have p6 : Q * A ≤ 65536 * 65536 := Int.mul_le_mul (by omega) ga1 (by omega) (by omega)
  have e1 : IntKind.i64.wrap Q = Q := IntWalk.i64_in _ (by omega)
  have e2 : IntKind.i64.wrap (Q * A) = Q * A := IntWalk.i64_in _ (by omega)
  have e3 : IntKind.i64.wrap R = R := IntWalk.i64_in _ (by omega)
  have e4 : IntKind.i64.wrap (Q * A + R) = Q * A + R := IntWalk.i64_in _ (by omega)
  have u1 := show g.wide ≠ 0 by omega
  have u2 := show g.high ≠ 0 by omega
  have n1 : (g.wide == 0) = false := by simp; omega
  have n2 : (g.high == 0) = false := by simp; omega
  have s1 : ¬ x < 0 := by omega
  have s2 : ¬ y < 0 := by omega
  have s3 : ¬ g.across ≤ x := by omega
  have s4 : ¬ g.down ≤ y := by omega
  clear hI hm hg p5 p6
  go_enter Tryz.func21, Tryz.ntmps21
  go_wp2_with fail
  refine (CV.out _).mono ?_; rintro e w1 ⟨rfl, hk1⟩; obtain ⟨q0, q1, q2, q3, q4, q5, q6, q7, q8, q9, q10⟩ := BA.out w1 hk1; have hz1 := lt_of_cell q0; have K1 := hide (((Below.refl _ w).alloc (Nat.le_refl _) (.cells #[.bool g.re.neg, .string g.re.n, .int .i64 g.re.e, .bool g.im.neg, .string g.im.n, .int .i64 g.im.e, .int .i64 g.exp, .int .i64 g.across, .int .i64 g.down, .int .i64 g.wide, .int .i64 g.high] 31)).trans (hk1.mono (by simp))); clear hk1
  go_wp2_with fail
  go_quiet (fail)
  go_wp2_with fail
  exact bodyPost_ret (v := .tuple #[.int .i64 (Q * A + R), .int .i64 0]) (by simp [results, Tryz.results21, go_sem]) rfl ⟨rfl, drewN_below K1.out _⟩

set_option maxRecDepth 100000 in
set_option maxHeartbeats 1600000 in
theorem tat_any (g : GrD) (x y : Int) (w : World) (hg : g.ok) (x0 : -9223372036854775808 ≤ x) (x1 : x ≤ 9223372036854775807) (y0 : -9223372036854775808 ≤ y) (y1 : y ≤ 9223372036854775807) : Calls Tryz.prog 21 #[.agg #[.bool g.re.neg, .string g.re.n, .int .i64 g.re.e, .bool g.im.neg, .string g.im.n, .int .i64 g.im.e, .int .i64 g.exp, .int .i64 g.across, .int .i64 g.down, .int .i64 g.wide, .int .i64 g.high], .int .i64 x, .int .i64 y] w (AtPost g x y w) := by
  by_cases hI : gridI g = 0
  · by_cases hn : 0 ≤ x ∧ 0 ≤ y ∧ x < g.across ∧ y < g.down
    · refine (tat_in g x y w hg hI hn.1 hn.2.1 hn.2.2.1 hn.2.2.2).mono ?_
      rintro e w1 ⟨rfl, hk⟩
      exact ⟨by rw [if_pos hI, if_pos hn], hk⟩
    · have CV := hide (fun (W : World) => tcount_any g W hg)
      rw [show cntA g = gridA g by simp [cntA, hI], show cntD g = gridD g by simp [cntD, hI], hI] at CV
      have BA : Hid (∀ W, Kept (w.alloc (.cells #[.bool g.re.neg, .string g.re.n, .int .i64 g.re.e, .bool g.im.neg, .string g.im.n, .int .i64 g.im.e, .int .i64 g.exp, .int .i64 g.across, .int .i64 g.down, .int .i64 g.wide, .int .i64 g.high] 31)) W → W.cell? ⟨w.heap.size, 0, none⟩ = some (.bool g.re.neg) ∧ W.cell? ⟨w.heap.size, 1, none⟩ = some (.string g.re.n) ∧ W.cell? ⟨w.heap.size, 2, none⟩ = some (.int .i64 g.re.e) ∧ W.cell? ⟨w.heap.size, 3, none⟩ = some (.bool g.im.neg) ∧ W.cell? ⟨w.heap.size, 4, none⟩ = some (.string g.im.n) ∧ W.cell? ⟨w.heap.size, 5, none⟩ = some (.int .i64 g.im.e) ∧ W.cell? ⟨w.heap.size, 6, none⟩ = some (.int .i64 g.exp) ∧ W.cell? ⟨w.heap.size, 7, none⟩ = some (.int .i64 g.across) ∧ W.cell? ⟨w.heap.size, 8, none⟩ = some (.int .i64 g.down) ∧ W.cell? ⟨w.heap.size, 9, none⟩ = some (.int .i64 g.wide) ∧ W.cell? ⟨w.heap.size, 10, none⟩ = some (.int .i64 g.high)) := fun W hW => ⟨(hW.cells w.heap.size 0 (by simp)).trans (by simp), (hW.cells w.heap.size 1 (by simp)).trans (by simp), (hW.cells w.heap.size 2 (by simp)).trans (by simp), (hW.cells w.heap.size 3 (by simp)).trans (by simp), (hW.cells w.heap.size 4 (by simp)).trans (by simp), (hW.cells w.heap.size 5 (by simp)).trans (by simp), (hW.cells w.heap.size 6 (by simp)).trans (by simp), (hW.cells w.heap.size 7 (by simp)).trans (by simp), (hW.cells w.heap.size 8 (by simp)).trans (by simp), (hW.cells w.heap.size 9 (by simp)).trans (by simp), (hW.cells w.heap.size 10 (by simp)).trans (by simp)⟩
      have HP : Hid (∀ w', Kept w w' → AtPost g x y w (.returned (.tuple #[.int .i64 0, .int .i64 241])) w') := fun w' h => ⟨by rw [if_pos hI, if_neg hn], h⟩
      generalize gridA g = A at *
      generalize gridD g = D at *
      rcases (show x < 0 ∨ (¬ x < 0 ∧ y < 0) ∨ (¬ x < 0 ∧ ¬ y < 0 ∧ g.across ≤ x) ∨ (¬ x < 0 ∧ ¬ y < 0 ∧ ¬ g.across ≤ x ∧ g.down ≤ y) by omega) with s1 | ⟨s1, s2⟩ | ⟨s1, s2, s3⟩ | ⟨s1, s2, s3, s4⟩
      all_goals
        clear hn hI hg
        go_enter Tryz.func21, Tryz.ntmps21
        go_wp2_with (go_at_call 19; refine (CV.out _).mono ?_; rintro e w1 ⟨rfl, hk1⟩; obtain ⟨q0, q1, q2, q3, q4, q5, q6, q7, q8, q9, q10⟩ := BA.out w1 hk1; have hz1 := lt_of_cell q0; have K1 := hide (((Below.refl _ w).alloc (Nat.le_refl _) (.cells #[.bool g.re.neg, .string g.re.n, .int .i64 g.re.e, .bool g.im.neg, .string g.im.n, .int .i64 g.im.e, .int .i64 g.exp, .int .i64 g.across, .int .i64 g.down, .int .i64 g.wide, .int .i64 g.high] 31)).trans (hk1.mono (by simp))); clear hk1)
        exact bodyPost_ret (v := .tuple #[.int .i64 0, .int .i64 241]) (by simp [results, Tryz.results21, go_sem]) rfl (HP.out _ K1.out)
  · have CV := hide (fun (W : World) => tcount_any g W hg)
    have BA : Hid (∀ W, Kept (w.alloc (.cells #[.bool g.re.neg, .string g.re.n, .int .i64 g.re.e, .bool g.im.neg, .string g.im.n, .int .i64 g.im.e, .int .i64 g.exp, .int .i64 g.across, .int .i64 g.down, .int .i64 g.wide, .int .i64 g.high] 31)) W → W.cell? ⟨w.heap.size, 0, none⟩ = some (.bool g.re.neg) ∧ W.cell? ⟨w.heap.size, 1, none⟩ = some (.string g.re.n) ∧ W.cell? ⟨w.heap.size, 2, none⟩ = some (.int .i64 g.re.e) ∧ W.cell? ⟨w.heap.size, 3, none⟩ = some (.bool g.im.neg) ∧ W.cell? ⟨w.heap.size, 4, none⟩ = some (.string g.im.n) ∧ W.cell? ⟨w.heap.size, 5, none⟩ = some (.int .i64 g.im.e) ∧ W.cell? ⟨w.heap.size, 6, none⟩ = some (.int .i64 g.exp) ∧ W.cell? ⟨w.heap.size, 7, none⟩ = some (.int .i64 g.across) ∧ W.cell? ⟨w.heap.size, 8, none⟩ = some (.int .i64 g.down) ∧ W.cell? ⟨w.heap.size, 9, none⟩ = some (.int .i64 g.wide) ∧ W.cell? ⟨w.heap.size, 10, none⟩ = some (.int .i64 g.high)) := fun W hW => ⟨(hW.cells w.heap.size 0 (by simp)).trans (by simp), (hW.cells w.heap.size 1 (by simp)).trans (by simp), (hW.cells w.heap.size 2 (by simp)).trans (by simp), (hW.cells w.heap.size 3 (by simp)).trans (by simp), (hW.cells w.heap.size 4 (by simp)).trans (by simp), (hW.cells w.heap.size 5 (by simp)).trans (by simp), (hW.cells w.heap.size 6 (by simp)).trans (by simp), (hW.cells w.heap.size 7 (by simp)).trans (by simp), (hW.cells w.heap.size 8 (by simp)).trans (by simp), (hW.cells w.heap.size 9 (by simp)).trans (by simp), (hW.cells w.heap.size 10 (by simp)).trans (by simp)⟩
    have hne : (gridI g != 0) = true := by simp [hI]
    have HP : Hid (∀ w', Kept w w' → AtPost g x y w (.returned (.tuple #[.int .i64 0, .int .i64 (gridI g)])) w') := fun w' h => ⟨by rw [if_neg hI], h⟩
    obtain ⟨E, hE⟩ : ∃ E, E = gridI g := ⟨_, rfl⟩
    rw [← hE] at CV hne HP
    clear hI hE hg
    go_enter Tryz.func21, Tryz.ntmps21
    go_wp2_with (go_at_call 19; refine (CV.out _).mono ?_; rintro e w1 ⟨rfl, hk1⟩; obtain ⟨q0, q1, q2, q3, q4, q5, q6, q7, q8, q9, q10⟩ := BA.out w1 hk1; have hz1 := lt_of_cell q0; have K1 := hide (((Below.refl _ w).alloc (Nat.le_refl _) (.cells #[.bool g.re.neg, .string g.re.n, .int .i64 g.re.e, .bool g.im.neg, .string g.im.n, .int .i64 g.im.e, .int .i64 g.exp, .int .i64 g.across, .int .i64 g.down, .int .i64 g.wide, .int .i64 g.high] 31)).trans (hk1.mono (by simp))); clear hk1)
    exact bodyPost_ret (v := .tuple #[.int .i64 0, .int .i64 E]) (by simp [results, Tryz.results21, go_sem]) rfl (HP.out _ K1.out)
end Go.Proofs.YtneakieigiafpaaGreatDoor
