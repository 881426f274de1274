/- tile.Rect, walked. -/
import Derived.Test.YtneakieigiafpaaGreatDoorRectW
namespace Go.Proofs.YtneakieigiafpaaGreatDoor
open Go.RowKit

def RectPost (g : GrD) (n : Int) (w : World) (e : Ending) (w' : World) : Prop :=
  (if gridI g = 0 then
    if 0 ≤ n ∧ n < gridA g * gridD g then e = .returned (.tuple #[.agg #[.int .i64 (rectX g n), .int .i64 (rectY g n), .int .i64 (rectW g n), .int .i64 (rectH g n)], .int .i64 0])
    else e = .returned (.tuple #[.agg #[.int .i64 0, .int .i64 0, .int .i64 0, .int .i64 0], .int .i64 2])
  else e = .returned (.tuple #[.agg #[.int .i64 0, .int .i64 0, .int .i64 0, .int .i64 0], .int .i64 (gridI g)])) ∧ Kept w w'
/-- A block of a rectangle that is still nothing. -/
structure Rec0 (w W : World) (b : Nat) : Prop where
  r0 : W.cell? ⟨b, 0, none⟩ = some (.int .i64 0)
  r1 : W.cell? ⟨b, 1, none⟩ = some (.int .i64 0)
  r2 : W.cell? ⟨b, 2, none⟩ = some (.int .i64 0)
  r3 : W.cell? ⟨b, 3, none⟩ = some (.int .i64 0)
  f0 : W.frozen? ⟨b, 0, none⟩ = false
  f1 : W.frozen? ⟨b, 1, none⟩ = false
  f2 : W.frozen? ⟨b, 2, none⟩ = false
  f3 : W.frozen? ⟨b, 3, none⟩ = false
  le : w.heap.size ≤ b
  kept : Kept w W
theorem Rec0.lt {w W : World} {b : Nat} (h : Rec0 w W b) : b < W.heap.size := lt_of_cell h.r0
theorem Rec0.keep {w W W' : World} {b : Nat} (h : Rec0 w W b) (hk : Kept W W') : Rec0 w W' b :=
  ⟨(hk.cells _ _ h.lt).trans h.r0, (hk.cells _ _ h.lt).trans h.r1, (hk.cells _ _ h.lt).trans h.r2, (hk.cells _ _ h.lt).trans h.r3, (hk.thaw _ _ h.lt).trans h.f0, (hk.thaw _ _ h.lt).trans h.f1, (hk.thaw _ _ h.lt).trans h.f2, (hk.thaw _ _ h.lt).trans h.f3, h.le, h.kept.trans (hk.mono h.kept.size)⟩
theorem Rec0.new (w W : World) (t : TypeId) (b : Nat) (hb : b = W.heap.size) (h : Kept w W) : Rec0 w (W.alloc (.cells #[.int .i64 0, .int .i64 0, .int .i64 0, .int .i64 0] t)) b := by
  subst hb
  exact ⟨by simp, by simp, by simp, by simp, fresh_frozen _ _ _ _, fresh_frozen _ _ _ _, fresh_frozen _ _ _ _, fresh_frozen _ _ _ _, h.size, h.alloc h.size _⟩
theorem Rec0.stored {w W : World} {b : Nat} (h : Rec0 w W b) (x0 x1 x2 x3 : Value) : Kept w ((((W.setCell ⟨b, 0, none⟩ x0).setCell ⟨b, 1, none⟩ x1).setCell ⟨b, 2, none⟩ x2).setCell ⟨b, 3, none⟩ x3) :=
  (((h.kept.setCell h.le x0).setCell h.le x1).setCell h.le x2).setCell h.le x3

set_option maxRecDepth 100000 in
set_option maxHeartbeats 1600000 in
theorem trect_any (g : GrD) (n : Int) (w : World) (hg : g.ok) (hn0 : -9223372036854775808 ≤ n) (hn1 : n ≤ 9223372036854775807) : Calls Tryz.prog 20 #[.agg #[.bool g.re.neg, .string g.re.n, .int .i64 g.re.e, .bool g.im.neg, .string g.im.n, .int .i64 g.im.e, .int .i64 g.exp, .int .i64 g.across, .int .i64 g.down, .int .i64 g.wide, .int .i64 g.high], .int .i64 n] w (RectPost g n w) := by
  have CV := hide (fun (W : World) => tcount_any g W hg)
  have R0 := hide (Rec0.new w (w.alloc (.cells #[.bool g.re.neg, .string g.re.n, .int .i64 g.re.e, .bool g.im.neg, .string g.im.n, .int .i64 g.im.e, .int .i64 g.exp, .int .i64 g.across, .int .i64 g.down, .int .i64 g.wide, .int .i64 g.high] 31)) 38 (w.heap.size + 1) (by simp) ((Below.refl _ _).alloc (Nat.le_refl _) _))
  by_cases hI : gridI g = 0
  · obtain ⟨hB, hm⟩ := gridI_ok hI
    obtain ⟨ga0, ga1⟩ := hB.gA
    obtain ⟨gd0, gd1⟩ := hB.gD
    have p1 : 0 ≤ gridA g * gridD g := Int.mul_nonneg (by omega) (by omega)
    have HI := hide hI
    rw [show cntA g = gridA g by simp [cntA, hI], show cntD g = gridD g by simp [cntD, hI], hI] at CV
    have CRR : Hid (∀ W, 0 ≤ n → n < 65536 → Calls Tryz.prog 59 #[.agg #[.bool g.re.neg, .string g.re.n, .int .i64 g.re.e, .bool g.im.neg, .string g.im.n, .int .i64 g.im.e, .int .i64 g.exp, .int .i64 g.across, .int .i64 g.down, .int .i64 g.wide, .int .i64 g.high], .int .i64 n] W fun e w' => e = .returned (.agg #[.int .i64 (rectX g n), .int .i64 (rectY g n), .int .i64 (rectW g n), .int .i64 (rectH g n)]) ∧ Kept W w') := fun W h0 h1 => rect_any g n W hB h0 h1
    have BA : Hid (∀ W, Kept ((w.alloc (.cells #[.bool g.re.neg, .string g.re.n, .int .i64 g.re.e, .bool g.im.neg, .string g.im.n, .int .i64 g.im.e, .int .i64 g.exp, .int .i64 g.across, .int .i64 g.down, .int .i64 g.wide, .int .i64 g.high] 31)).alloc (.cells #[.int .i64 0, .int .i64 0, .int .i64 0, .int .i64 0] 38)) W → W.cell? ⟨w.heap.size, 0, none⟩ = some (.bool g.re.neg) ∧ W.cell? ⟨w.heap.size, 1, none⟩ = some (.string g.re.n) ∧ W.cell? ⟨w.heap.size, 2, none⟩ = some (.int .i64 g.re.e) ∧ W.cell? ⟨w.heap.size, 3, none⟩ = some (.bool g.im.neg) ∧ W.cell? ⟨w.heap.size, 4, none⟩ = some (.string g.im.n) ∧ W.cell? ⟨w.heap.size, 5, none⟩ = some (.int .i64 g.im.e) ∧ W.cell? ⟨w.heap.size, 6, none⟩ = some (.int .i64 g.exp) ∧ W.cell? ⟨w.heap.size, 7, none⟩ = some (.int .i64 g.across) ∧ W.cell? ⟨w.heap.size, 8, none⟩ = some (.int .i64 g.down) ∧ W.cell? ⟨w.heap.size, 9, none⟩ = some (.int .i64 g.wide) ∧ W.cell? ⟨w.heap.size, 10, none⟩ = some (.int .i64 g.high)) := fun W hW => ⟨(hW.cells w.heap.size 0 (by simp; omega)).trans (by simp), (hW.cells w.heap.size 1 (by simp; omega)).trans (by simp), (hW.cells w.heap.size 2 (by simp; omega)).trans (by simp), (hW.cells w.heap.size 3 (by simp; omega)).trans (by simp), (hW.cells w.heap.size 4 (by simp; omega)).trans (by simp), (hW.cells w.heap.size 5 (by simp; omega)).trans (by simp), (hW.cells w.heap.size 6 (by simp; omega)).trans (by simp), (hW.cells w.heap.size 7 (by simp; omega)).trans (by simp), (hW.cells w.heap.size 8 (by simp; omega)).trans (by simp), (hW.cells w.heap.size 9 (by simp; omega)).trans (by simp), (hW.cells w.heap.size 10 (by simp; omega)).trans (by simp)⟩
    have HP : Hid (∀ e w', (if 0 ≤ n ∧ n < gridA g * gridD g then e = .returned (.tuple #[.agg #[.int .i64 (rectX g n), .int .i64 (rectY g n), .int .i64 (rectW g n), .int .i64 (rectH g n)], .int .i64 0]) else e = .returned (.tuple #[.agg #[.int .i64 0, .int .i64 0, .int .i64 0, .int .i64 0], .int .i64 2])) → Kept w w' → RectPost g n w e w') := fun e w' h1 h2 => ⟨by rw [if_pos hI]; exact h1, h2⟩
    generalize rectX g n = X at *
    generalize rectY g n = Y at *
    generalize rectW g n = U at *
    generalize rectH g n = V at *
    generalize gridA g = A at *
    generalize gridD g = D at *
    clear hI hB hg
    by_cases hn : 0 ≤ n ∧ n < A * D
    · obtain ⟨n0, n1⟩ := hn
      have s1 : ¬ n < 0 := by omega
      have s2 : ¬ A * D ≤ n := by omega
      have C9 := hide (fun (W : World) => CRR.out W n0 (by omega))
      go_enter Tryz.func20, Tryz.ntmps20
      go_wp2_with fail
      refine (CV.out _).mono ?_
      rintro e w1 ⟨rfl, hk1⟩
      obtain ⟨q0, q1, q2, q3, q4, q5, q6, q7, q8, q9, q10⟩ := BA.out w1 hk1
      have hz1 := lt_of_cell q0
      have R1 := hide (R0.out.keep hk1)
      clear hk1
      go_wp2_with fail
      refine (C9.out _).mono ?_
      rintro e w2 ⟨rfl, hk2⟩
      have R2 := hide (R1.out.keep hk2)
      obtain ⟨r0, r1, r2, r3, f0, f1, f2, f3, -, -⟩ := R2.out
      have hz2 := R2.out.lt
      clear hk2 q0 q1 q2 q3 q4 q5 q6 q7 q8 q9 q10
      go_wp2_with fail
      exact bodyPost_ret (v := .tuple #[.agg #[.int .i64 X, .int .i64 Y, .int .i64 U, .int .i64 V], .int .i64 0]) (by simp [results, Tryz.results20, go_sem, r0, r1, r2, r3]) rfl (HP.out _ _ (by rw [if_pos ⟨n0, n1⟩]) (R2.out.stored _ _ _ _))
    · have HN := hide hn
      rcases (show n < 0 ∨ (¬ n < 0 ∧ A * D ≤ n) by omega) with s1 | ⟨s1, s2⟩
      all_goals
        clear hn
        go_enter Tryz.func20, Tryz.ntmps20
        go_wp2_with (go_at_call 19; refine (CV.out _).mono ?_; rintro e w1 ⟨rfl, hk1⟩; have R2 := hide (R0.out.keep hk1); obtain ⟨r0, r1, r2, r3, f0, f1, f2, f3, -, -⟩ := R2.out; have hz2 := R2.out.lt; clear hk1)
        exact bodyPost_ret (v := .tuple #[.agg #[.int .i64 0, .int .i64 0, .int .i64 0, .int .i64 0], .int .i64 2]) (by simp [results, Tryz.results20, go_sem, r0, r1, r2, r3]) rfl (HP.out _ _ (by rw [if_neg HN.out]) (R2.out.stored _ _ _ _))
  · have hne : (gridI g != 0) = true := by simp [hI]
    have HP : Hid (∀ w', Kept w w' → RectPost g n w (.returned (.tuple #[.agg #[.int .i64 0, .int .i64 0, .int .i64 0, .int .i64 0], .int .i64 (gridI g)])) w') := fun w' h => ⟨by rw [if_neg hI], h⟩
    obtain ⟨E, hE⟩ : ∃ E, E = gridI g := ⟨_, rfl⟩
    rw [← hE] at CV hne HP
    clear hI hE hg
    go_enter Tryz.func20, Tryz.ntmps20
    go_wp2_with (go_at_call 19; refine (CV.out _).mono ?_; rintro e w1 ⟨rfl, hk1⟩; have R2 := hide (R0.out.keep hk1); obtain ⟨r0, r1, r2, r3, f0, f1, f2, f3, -, -⟩ := R2.out; have hz2 := R2.out.lt; clear hk1)
    exact bodyPost_ret (v := .tuple #[.agg #[.int .i64 0, .int .i64 0, .int .i64 0, .int .i64 0], .int .i64 E]) (by simp [results, Tryz.results20, go_sem, r0, r1, r2, r3]) rfl (HP.out _ (R2.out.stored _ _ _ _))
end Go.Proofs.YtneakieigiafpaaGreatDoor
