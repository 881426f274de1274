/- filigreelaw25.TilePlaces, walked: a grid that may be. -/
import Derived.Test.YtneakieigiafpaaGreatDoorPlaW
import Derived.Test.YtneakieigiafpaaGreatDoorWA
import Derived.Outline
import Derived.Deep.DeepCutAuto
namespace Go.Proofs.YtneakieigiafpaaGreatDoor
open Go.RowKit Go.Shelf Go.Ex
attribute [local go_sem] Oper.semAt_some

/-- The two boxes of the sums, and what stays. -/
structure PI (X W : World) (B : Nat) (a h : Int) : Prop where
  low : Below B X W
  ca : W.cell? ⟨B, 0, none⟩ = some (.int .i64 a)
  ch : W.cell? ⟨B + 1, 0, none⟩ = some (.int .i64 h)
  fa : W.frozen? ⟨B, 0, none⟩ = false
  fh : W.frozen? ⟨B + 1, 0, none⟩ = false
theorem PI.stable {X W W' : World} {B base : Nat} {a h : Int} {row : Option Nat} (i : PI X W B a h) (hB : B ≤ base) (hX : B ≤ X.heap.size) (hg : W.grownBy W' row) (hr : ∀ r, row = some r → base ≤ r ∧ ∃ o : Obj, W.heap[r]? = some o ∧ o.isCells = false) : PI X W' B a h := by
  have hr' : ∀ r, row = some r → ∃ o : Obj, W.heap[r]? = some o ∧ o.isCells = false := fun r e => (hr r e).2
  exact ⟨i.low.grown hg (Nat.le_trans hX i.low.size) (fun r e => Nat.le_trans hB (hr r e).1), cell_kept i.ca hg hr', cell_kept i.ch hg hr', (frozen_kept i.ca hg hr').trans i.fa, (frozen_kept i.ch hg hr').trans i.fh⟩
theorem PI.kept {X W W' : World} {B : Nat} {a h : Int} (i : PI X W B a h) (k : Kept W W') (hX : B ≤ X.heap.size) : PI X W' B a h :=
  ⟨i.low.trans (Below.mono k (Nat.le_trans hX i.low.size)), (k.cells _ _ (lt_of_cell i.ca)).trans i.ca, (k.cells _ _ (lt_of_cell i.ch)).trans i.ch, (k.thaw _ _ (lt_of_cell i.ca)).trans i.fa, (k.thaw _ _ (lt_of_cell i.ch)).trans i.fh⟩
theorem PI.setA {X W : World} {B : Nat} {a h : Int} (i : PI X W B a h) (hX : B ≤ X.heap.size) (u : Int) : PI X (W.setCell ⟨B, 0, none⟩ (.int .i64 u)) B u h :=
  ⟨i.low.setCell (p := ⟨B, 0, none⟩) (Nat.le_refl _) _, World.cell?_setCell_same _ _ _ i.ca, (World.cell?_setCell_other _ _ _ _ (by simp)).trans i.ch, (World.frozen?_setCell _ _ _ _).trans i.fa, (World.frozen?_setCell _ _ _ _).trans i.fh⟩
theorem PI.setH {X W : World} {B : Nat} {a h : Int} (i : PI X W B a h) (hX : B ≤ X.heap.size) (u : Int) : PI X (W.setCell ⟨B + 1, 0, none⟩ (.int .i64 u)) B a u :=
  ⟨i.low.setCell (p := ⟨B + 1, 0, none⟩) (Nat.le_succ _) _, (World.cell?_setCell_other _ _ _ _ (by simp)).trans i.ca, World.cell?_setCell_same _ _ _ i.ch, (World.frozen?_setCell _ _ _ _).trans i.fa, (World.frozen?_setCell _ _ _ _).trans i.fh⟩
theorem PI.here {X W : World} {B : Nat} {a h : Int} (i : PI X W B a h) : PI W W B a h := ⟨Below.refl _ _, i.ca, i.ch, i.fa, i.fh⟩
theorem PB.belowB {W W' : World} {s B : Nat} {g : GrD} {x y : Int} (h : PB W s g x y) (k : Below B W W') (hs : s + 1 + 1 + 1 < B) : PB W' s g x y :=
  ⟨h.gb.below k (by omega), (k.cell (p := ⟨s + 1, 0, none⟩) (by dsimp only; omega)).trans h.cx, (k.cell (p := ⟨s + 1 + 1, 0, none⟩) (by dsimp only; omega)).trans h.cy, (k.cell (p := ⟨s + 1 + 1 + 1, 0, none⟩) (by dsimp only; omega)).trans h.cr, (k.frozen (p := ⟨s + 1 + 1 + 1, 0, none⟩) (by dsimp only; omega)).trans h.fr, Nat.lt_of_lt_of_le h.lt k.size⟩
theorem at_val (g : GrD) (x y : Int) (w : World) (hg : g.ok) (hI : gridI g = 0) (x0 : -9223372036854775808 ≤ x) (x1 : x ≤ 9223372036854775807) (y0 : -9223372036854775808 ≤ y) (y1 : y ≤ 9223372036854775807) :
    Calls Tryz.prog 21 #[.agg #[.bool g.re.neg, .string g.re.n, .int .i64 g.re.e, .bool g.im.neg, .string g.im.n, .int .i64 g.im.e, .int .i64 g.exp, .int .i64 g.across, .int .i64 g.down, .int .i64 g.wide, .int .i64 g.high], .int .i64 x, .int .i64 y] w fun e w' => e = .returned (.tuple #[.int .i64 (atV g x y), .int .i64 (erV g x y)]) ∧ Kept w w' := by
  refine (tat_any g x y w hg x0 x1 y0 y1).mono ?_
  rintro e w' ⟨h, hk⟩
  rw [if_pos hI] at h
  refine ⟨?_, hk⟩
  have hb : inG g x y = true ↔ 0 ≤ x ∧ 0 ≤ y ∧ x < g.across ∧ y < g.down := inG_iff
  unfold atV erV
  by_cases hin : 0 ≤ x ∧ 0 ≤ y ∧ x < g.across ∧ y < g.down
  · rw [if_pos hin] at h; rw [if_pos (hb.2 hin), if_pos (hb.2 hin)]; exact h
  · rw [if_neg hin] at h; rw [if_neg (fun k => hin (hb.1 k)), if_neg (fun k => hin (hb.1 k))]; exact h

set_option maxRecDepth 100000 in
set_option maxHeartbeats 3200000 in
theorem places_on (g : GrD) (x y : Int) (w : World) (hg : g.ok) (hI : gridI g = 0) (x0 : -9223372036854775808 ≤ x) (x1 : x ≤ 9223372036854775807) (y0 : -9223372036854775808 ≤ y) (y1 : y ≤ 9223372036854775807) (hH : HpOK id0 4096 laidH w) :
    Calls Tryz.prog 8 #[.agg #[.bool g.re.neg, .string g.re.n, .int .i64 g.re.e, .bool g.im.neg, .string g.im.n, .int .i64 g.im.e, .int .i64 g.exp, .int .i64 g.across, .int .i64 g.down, .int .i64 g.wide, .int .i64 g.high], .int .i64 x, .int .i64 y] w fun e w' => e = .returned (.bool true) ∧ Kept w w' := by
  have CV : Hid (∀ W, Calls Tryz.prog 18 #[.agg #[.bool g.re.neg, .string g.re.n, .int .i64 g.re.e, .bool g.im.neg, .string g.im.n, .int .i64 g.im.e, .int .i64 g.exp, .int .i64 g.across, .int .i64 g.down, .int .i64 g.wide, .int .i64 g.high]] W fun e w' => e = .returned (.int .i64 0) ∧ Kept W w') := fun W => by
    have := tcheck_any g W hg
    rwa [hI] at this
  have CC : Hid (∀ W, Calls Tryz.prog 19 #[.agg #[.bool g.re.neg, .string g.re.n, .int .i64 g.re.e, .bool g.im.neg, .string g.im.n, .int .i64 g.im.e, .int .i64 g.exp, .int .i64 g.across, .int .i64 g.down, .int .i64 g.wide, .int .i64 g.high]] W fun e w' => e = .returned (.tuple #[.int .i64 (gridA g), .int .i64 (gridD g), .int .i64 0]) ∧ Kept W w') := fun W => by
    have := tcount_any g W hg
    rwa [show cntA g = gridA g by simp [cntA, hI], show cntD g = gridD g by simp [cntD, hI], hI] at this
  have CA := hide (fun (W : World) => at_val g x y W hg hI x0 x1 y0 y1)
  have CRS := hide (fun (W : World) => rects_any g W)
  have CL := hide (fun (W : World) (h : Kept w W) => lives_any (laid_kept hH h))
  obtain ⟨hB, hm⟩ := gridI_ok hI
  obtain ⟨ga0, ga1⟩ := hB.gA
  obtain ⟨gd0, gd1⟩ := hB.gD
  obtain ⟨W0, hW0⟩ : ∃ W0, W0 = (((w.alloc (.cells #[.bool g.re.neg, .string g.re.n, .int .i64 g.re.e, .bool g.im.neg, .string g.im.n, .int .i64 g.im.e, .int .i64 g.exp, .int .i64 g.across, .int .i64 g.down, .int .i64 g.wide, .int .i64 g.high] 31)).alloc (.cells #[.int .i64 x] 3)).alloc (.cells #[.int .i64 y] 3)).alloc (.cells #[.bool false] 4) := ⟨_, rfl⟩
  have P0 := hide (show PB W0 w.heap.size g x y by rw [hW0]; exact PB.new w g x y)
  have K0 := hide (show Kept w W0 by rw [hW0]; exact own_kept w g x y)
  have HG := hide hg
  have HI := hide hI
  have HBd := hide hB
  have t1 : decide (gridA g < 1) = false := by simp; omega
  have t2 : decide (gridD g < 1) = false := by simp; omega
  have p1 : 0 ≤ gridA g * gridD g := Int.mul_nonneg (by omega) (by omega)
  have p2 : gridA g * gridD g ≤ 65536 := hm
  have m1 : IntKind.i64.wrap (gridA g * gridD g) = gridA g * gridD g := IntWalk.i64_in _ (by omega)
  clear hH hg hI hB hm
  refine callsIn_wide.1 (callsIn_of_wp_marks (n := 5) Tryz.func8 rfl trivial ?_ rfl)
  simp only [Tryz.ntmps8, List.size_toArray, List.length_cons, List.length_nil, Nat.reduceAdd, Nat.reduceSub, Array.replicate_succ, Array.replicate_zero, List.push_toArray, List.append_toArray, List.nil_append, List.cons_append]
  refine wpIn_wide.2 ?_
  obtain ⟨⟨q0, q1, q2, q3, q4, q5, q6, q7, q8, q9, q10⟩, cx, cy, cr, fr, lt⟩ := P0.out
  go_wp2_with fail
  rw [← hW0]
  go_wp2_with fail
  refine (CV.out _).mono ?_
  rintro e w1 ⟨rfl, hk1⟩
  have K1 := hide (show Kept w w1 from K0.out.trans' hk1)
  have P1 := hide (P0.out.kept hk1)
  clear hW0 q0 q1 q2 q3 q4 q5 q6 q7 q8 q9 q10 cx cy cr fr lt hk1
  obtain ⟨⟨q0, q1, q2, q3, q4, q5, q6, q7, q8, q9, q10⟩, cx, cy, cr, fr, lt⟩ := P1.out
  go_wp2_with fail
  refine (CC.out _).mono ?_
  rintro e w2 ⟨rfl, hk2⟩
  have K2 := hide (show Kept w w2 from K1.out.trans' hk2)
  have P2 := hide (P1.out.kept hk2)
  clear q0 q1 q2 q3 q4 q5 q6 q7 q8 q9 q10 cx cy cr fr lt hk2
  obtain ⟨⟨q0, q1, q2, q3, q4, q5, q6, q7, q8, q9, q10⟩, cx, cy, cr, fr, lt⟩ := P2.out
  go_wp2_with fail
  refine (CA.out _).mono ?_
  rintro e w3 ⟨rfl, hk3⟩
  have K3 := hide (show Kept w w3 from K2.out.trans' hk3)
  have P3 := hide (P2.out.kept hk3)
  clear q0 q1 q2 q3 q4 q5 q6 q7 q8 q9 q10 cx cy cr fr lt hk3
  obtain ⟨⟨q0, q1, q2, q3, q4, q5, q6, q7, q8, q9, q10⟩, cx, cy, cr, fr, lt⟩ := P3.out
  have t5 : (erV g x y == 0) = inG g x y := by unfold erV; cases inG g x y <;> rfl
  have t6 : (inG g x y != inG g x y) = false := by simp
  go_upto_region 7 with fail
  go_cut [11] from 43 to 62 (fun v wx => v = .bool (inG g x y) ∧ w3 = wx)
  case first =>
    rcases (show ¬ 0 ≤ x ∨ (0 ≤ x ∧ ¬ 0 ≤ y) ∨ (0 ≤ x ∧ 0 ≤ y ∧ ¬ x < g.across) ∨ (0 ≤ x ∧ 0 ≤ y ∧ x < g.across ∧ ¬ y < g.down) ∨ (0 ≤ x ∧ 0 ≤ y ∧ x < g.across ∧ y < g.down) by omega) with s1 | ⟨s1, s2⟩ | ⟨s1, s2, s3⟩ | ⟨s1, s2, s3, s4⟩ | ⟨s1, s2, s3, s4⟩
    · have hi : Hid (inG g x y = false) := by show inG g x y = false; unfold inG; simp [s1]
      go_wp2_with fail
      go_meet
      exact ⟨by rw [hi.out], rfl⟩
    · have hi : Hid (inG g x y = false) := by show inG g x y = false; unfold inG; simp [s2]
      go_wp2_with fail
      go_meet
      exact ⟨by rw [hi.out], rfl⟩
    · have hi : Hid (inG g x y = false) := by show inG g x y = false; unfold inG; simp [s3]
      go_wp2_with fail
      go_meet
      exact ⟨by rw [hi.out], rfl⟩
    · have hi : Hid (inG g x y = false) := by show inG g x y = false; unfold inG; simp [s4]
      go_wp2_with fail
      go_meet
      exact ⟨by rw [hi.out], rfl⟩
    · have hi : Hid (inG g x y = true) := by show inG g x y = true; unfold inG; simp [s1, s2, s3, s4]
      go_wp2_with fail
      go_meet
      exact ⟨by rw [hi.out], rfl⟩
  case rest =>
    obtain ⟨rfl, rfl⟩ := hcut
    by_cases h500 : 500 < gridA g * gridD g
    · have t7 : decide (500 < gridA g * gridD g) = true := by simpa using h500
      go_wp2_with fail
      refine (CL.out _ K3.out).mono ?_
      rintro e w4 ⟨rfl, hk4⟩
      have K4 := hide (show Kept w w4 from K3.out.trans' hk4)
      have P4 := hide (P3.out.kept hk4)
      clear q0 q1 q2 q3 q4 q5 q6 q7 q8 q9 q10 cx cy cr fr lt hk4
      obtain ⟨⟨q0, q1, q2, q3, q4, q5, q6, q7, q8, q9, q10⟩, cx, cy, cr, fr, lt⟩ := P4.out
      go_wp2_with fail
      obtain ⟨c3, k3⟩ := P4.out.ret K4.out
      refine ⟨.bool true, ?_, rfl, k3⟩
      simp [results, Tryz.f8, go_sem, c3]
    · have t7 : decide (500 < gridA g * gridD g) = false := by simpa using h500
      go_upto_region 13 with fail
      obtain ⟨X, hX⟩ : ∃ X, X = (w3.alloc (.cells #[.int .i64 0] 3)).alloc (.cells #[.int .i64 (-1)] 3) := ⟨_, rfl⟩
      have kX : Kept w3 X := by rw [hX]; exact ((Below.refl _ _).alloc (Nat.le_refl _) _).alloc (by simp) _
      have ZX : Hid (X.heap.size = w3.heap.size + 2) := by show X.heap.size = _; rw [hX]; simp
      have PX : Hid (PI w3 X w3.heap.size 0 (-1)) := by
        have c0 := ((Boxed.new w3 3 (.int .i64 0)).alloc (.cells #[.int .i64 (-1)] 3)).cell
        have c1 := (Boxed.new (w3.alloc (.cells #[.int .i64 0] 3)) 3 (.int .i64 (-1))).cell
        have e0 := fresh_frozen w3 #[.int .i64 0] 3 0
        have e1 := fresh_frozen (w3.alloc (.cells #[.int .i64 0] 3)) #[.int .i64 (-1)] 3 0
        simp only [World.size_alloc] at c0 c1 e1
        rw [← hX] at c0 c1 e1
        refine ⟨kX, c0, c1, ?_, e1⟩
        rw [hX]
        exact ((((Below.refl (w3.heap.size + 1) (w3.alloc (.cells #[.int .i64 0] 3))).alloc (by simp) _).frozen (p := ⟨w3.heap.size, 0, none⟩) (by simp))).trans e0
      have KX : Hid (Kept w X) := K3.out.trans' kX
      have PBX : Hid (PB X w.heap.size g x y) := P3.out.kept kX
      rw [← hX]
      clear hX q0 q1 q2 q3 q4 q5 q6 q7 q8 q9 q10 cx cy cr fr lt kX
      obtain ⟨⟨q0, q1, q2, q3, q4, q5, q6, q7, q8, q9, q10⟩, cx, cy, cr, fr, lt⟩ := PBX.out
      go_wp2_with fail
      refine (CRS.out _).mono ?_
      rintro e w4' ⟨rfl, rfl⟩
      have hf1 : ∀ W, (binOp .eql 44 (.func (.func 60) #[] #[.pointer (some ⟨X.heap.size, 0, none⟩)]) .nilFunc).run Tryz.prog W = .ok (.bool false) W := fun W => by kernel_rfl
      obtain ⟨Y1, hY1⟩ : ∃ Y, Y = X.alloc (.cells #[.bool g.re.neg, .string g.re.n, .int .i64 g.re.e, .bool g.im.neg, .string g.im.n, .int .i64 g.im.e, .int .i64 g.exp, .int .i64 g.across, .int .i64 g.down, .int .i64 g.wide, .int .i64 g.high] 31) := ⟨_, rfl⟩
      have kY1 : Kept X Y1 := by rw [hY1]; exact (Below.refl _ _).alloc (Nat.le_refl _) _
      have ZY1 : Hid (Y1.heap.size = X.heap.size + 1) := by show Y1.heap.size = _; rw [hY1]; simp
      have KY1 : Hid (Kept w Y1) := KX.out.trans' kY1
      have PBY : Hid (PB Y1 w.heap.size g x y) := PBX.out.kept kY1
      have PY1 : Hid (PI w3 Y1 w3.heap.size 0 (-1)) := PX.out.kept kY1 (Nat.le_refl _)
      rw [← hY1]
      clear hY1 kY1 q0 q1 q2 q3 q4 q5 q6 q7 q8 q9 q10 cx cy cr fr lt
      obtain ⟨⟨q0, q1, q2, q3, q4, q5, q6, q7, q8, q9, q10⟩, cx, cy, cr, fr, lt⟩ := PBY.out
      go_wp2_with fail
      refine (CRS.out _).mono ?_
      rintro e w5' ⟨rfl, rfl⟩
      obtain ⟨Y2, hY2⟩ : ∃ Y, Y = Y1.alloc (.cells #[.bool g.re.neg, .string g.re.n, .int .i64 g.re.e, .bool g.im.neg, .string g.im.n, .int .i64 g.im.e, .int .i64 g.exp, .int .i64 g.across, .int .i64 g.down, .int .i64 g.wide, .int .i64 g.high] 31) := ⟨_, rfl⟩
      have kY2 : Kept Y1 Y2 := by rw [hY2]; exact (Below.refl _ _).alloc (Nat.le_refl _) _
      have ZY2 : Hid (Y2.heap.size = Y1.heap.size + 1) := by show Y2.heap.size = _; rw [hY2]; simp
      have KY2 : Hid (Kept w Y2) := KY1.out.trans' kY2
      have PY2 : Hid (PI w3 Y2 w3.heap.size 0 (-1)) := PY1.out.kept kY2 (Nat.le_refl _)
      have PBY2 : Hid (PB Y2 w.heap.size g x y) := PBY.out.kept kY2
      have hG2 : GBox Y2 Y1.heap.size g := by rw [hY2]; exact GBox.new _ _ _ _ rfl
      go_wp2_with fail
      rw [← hY2]
      clear hY2 kY2 q0 q1 q2 q3 q4 q5 q6 q7 q8 q9 q10 cx cy cr fr lt hf1
      have HN := hide (show ((rectsN g : Nat) : Int) = gridA g * gridD g by
        have c1 : cntA g = gridA g := by simp [cntA, HI.out]
        have c2 : cntD g = gridD g := by simp [cntD, HI.out]
        unfold rectsN; rw [c1, c2]; exact Int.toNat_of_nonneg p1)
      have HZ : Hid (Y2.heap.size = w3.heap.size + 4 ∧ Y1.heap.size = w3.heap.size + 3) := ⟨by have := ZX.out; have := ZY1.out; have := ZY2.out; omega, by have := ZX.out; have := ZY1.out; omega⟩
      have H0 : Hid (areaN g 0 = 0 ∧ hasN g x y 0 = -1) := ⟨area_zero HBd.out, has_zero HBd.out x y⟩
      refine (wpIn_wide (n := 5)).1 (wpIn_rangeOffers (α := Nat) rfl (by decide) (gf := 60) (lb := #[.pointer (some ⟨Y1.heap.size, 0, none⟩)]) rfl trivial (enters_of Tryz.func60 (by kernel_rfl) rfl)
        (rects_offersO (BKeep Y1.heap.size) 4 (by omega) Y1.heap.size Y2.heap.size g (fun _ _ h hb => h.box hb) (fun _ _ h => h.1) HG.out Y2 (by have := HZ.out; omega) (Nat.le_refl _) hG2)
        (fun h k => h.trans k) (fun W l o o' _ h1 h2 _ => BKeep.putObj W l o o' h1 h2) (Below.refl _ _) (fun _ => rfl)
        (fun pre W => PI Y2 W w3.heap.size (areaN g pre.length) (hasN g x y pre.length)) (fun _ _ _ => False) ?hI (fun _ s A B row h _ _ => h.elim) (by have := PY2.out.here; rw [← H0.out.1, ← H0.out.2] at this; exact this)
        (fun k a' W => W.cell? ⟨w3.heap.size, 0, none⟩ = some (.int .i64 (areaN g k)) ∧ (k : Int) < gridA g * gridD g ∧ ∃ Bx, w3.heap.size + 4 ≤ Bx ∧ W.cell? ⟨Bx, 0, none⟩ = some (.int .i64 (rectX g k)) ∧ W.cell? ⟨Bx, 1, none⟩ = some (.int .i64 (rectY g k)) ∧ W.cell? ⟨Bx, 2, none⟩ = some (.int .i64 (rectW g k)) ∧ W.cell? ⟨Bx, 3, none⟩ = some (.int .i64 (rectH g k)) ∧ a' = { tmps := #[.agg #[.bool g.re.neg, .string g.re.n, .int .i64 g.re.e, .bool g.im.neg, .string g.im.n, .int .i64 g.im.e, .int .i64 g.exp, .int .i64 g.across, .int .i64 g.down, .int .i64 g.wide, .int .i64 g.high], .int .i64 (x), .int .i64 (y), .pointer (some ⟨w.heap.size, 0, none⟩), .pointer (some ⟨w.heap.size + 1, 0, none⟩), .pointer (some ⟨w.heap.size + 1 + 1, 0, none⟩), .pointer (some ⟨w.heap.size + 1 + 1 + 1, 0, none⟩), .int .i64 (gridA g), .int .i64 (gridD g), .int .i64 (erV g x y), .int .i64 (atV g x y), .bool (inG g x y), .pointer (some ⟨w3.heap.size, 0, none⟩), .pointer (some ⟨w3.heap.size + 1, 0, none⟩), .int .i64 ((k : Nat)), .pointer (some ⟨Bx, 0, none⟩), .agg #[.bool g.re.neg, .string g.re.n, .int .i64 g.re.e, .bool g.im.neg, .string g.im.n, .int .i64 g.im.e, .int .i64 g.exp, .int .i64 g.across, .int .i64 g.down, .int .i64 g.wide, .int .i64 g.high], .int .i64 (0), .bool false, undef, .tuple #[.int .i64 (gridA g), .int .i64 (gridD g), .int .i64 (0)], .agg #[.bool g.re.neg, .string g.re.n, .int .i64 g.re.e, .bool g.im.neg, .string g.im.n, .int .i64 g.im.e, .int .i64 g.exp, .int .i64 g.across, .int .i64 g.down, .int .i64 g.wide, .int .i64 g.high], .tuple #[.int .i64 (gridA g), .int .i64 (gridD g), .int .i64 (0)], .int .i64 (gridA g), .int .i64 (gridD g), .int .i64 (0), .int .i64 (0), .bool false, .bool false, .int .i64 (gridA g), .bool false, .bool false, .bool false, .int .i64 (gridD g), .bool false, .bool false, .tuple #[.int .i64 (atV g x y), .int .i64 (erV g x y)], .agg #[.bool g.re.neg, .string g.re.n, .int .i64 g.re.e, .bool g.im.neg, .string g.im.n, .int .i64 g.im.e, .int .i64 g.exp, .int .i64 g.across, .int .i64 g.down, .int .i64 g.wide, .int .i64 g.high], .int .i64 (x), .int .i64 (y), .tuple #[.int .i64 (atV g x y), .int .i64 (erV g x y)], .int .i64 (atV g x y), .int .i64 (erV g x y), u43, u44, u45, u46, u47, u48, u49, u50, u51, u52, u53, u54, u55, u56, u57, u58, u59, u60, u61, u62, .bool (inG g x y), .int .i64 (erV g x y), .bool (inG g x y), .bool false, .int .i64 (gridA g), .int .i64 (gridD g), .int .i64 (gridA g * gridD g), .bool false, undef, .agg #[.bool g.re.neg, .string g.re.n, .int .i64 g.re.e, .bool g.im.neg, .string g.im.n, .int .i64 g.im.e, .int .i64 g.exp, .int .i64 g.across, .int .i64 g.down, .int .i64 g.wide, .int .i64 g.high], .func (.func 60) #[] #[.pointer (some ⟨X.heap.size, 0, none⟩)], .bool false, .agg #[.bool g.re.neg, .string g.re.n, .int .i64 g.re.e, .bool g.im.neg, .string g.im.n, .int .i64 g.im.e, .int .i64 g.exp, .int .i64 g.across, .int .i64 g.down, .int .i64 g.wide, .int .i64 g.high], .func (.func 60) #[] #[.pointer (some ⟨Y1.heap.size, 0, none⟩)], .int .i64 ((k : Nat)), .agg #[.int .i64 (rectX g k), .int .i64 (rectY g k), .int .i64 (rectW g k), .int .i64 (rectH g k)], undef, undef, undef, undef, undef, undef, undef, undef, undef, undef, undef, undef, undef, undef, undef, undef, undef, undef, undef, undef, undef, undef, undef, undef, undef, undef, undef, undef, undef, undef, undef, undef, undef, undef, undef, undef, undef, undef, undef, undef, undef, undef, undef, undef, undef, undef, undef, undef, undef, undef, undef, undef, undef, undef, undef, undef, undef, undef, undef, undef, undef, undef, undef, undef, undef], defers := [] })
        ?hAx ?assign ?body ?done (fun D c pre W _ _ h _ => h.elim))
      case hI =>
        intro pre W W' row h hg hr
        exact h.stable (by have := HZ.out; omega) (by have := HZ.out; omega) hg hr
      case hAx =>
        rintro k a' _ W W' row ⟨ca, hk, Bx, hBx, b0, b1, b2, b3, ha⟩ hg hr
        have hr' : ∀ r, row = some r → ∃ o : Obj, W.heap[r]? = some o ∧ o.isCells = false := fun r e => (hr r e).2
        exact ⟨cell_kept ca hg hr', hk, Bx, hBx, cell_kept b0 hg hr', cell_kept b1 hg hr', cell_kept b2 hg hr', cell_kept b3 hg hr', ha⟩
      case assign =>
        rintro l pre k W K2 h ⟨rfl, hkN⟩ hK2
        have hB := h.stable (base := w3.heap.size) (Nat.le_refl _) (by have := HZ.out; omega) (World.grownBy_alloc W (.cells #[.int .i64 (rectX g pre.length), .int .i64 (rectY g pre.length), .int .i64 (rectW g pre.length), .int .i64 (rectH g pre.length)] 38) none) (fun r e => by cases e)
        have hs4 : w3.heap.size + 4 ≤ W.heap.size := by have := HZ.out; have := h.low.size; omega
        have HH := hide (And.intro h (And.intro hB (And.intro hkN hs4)))
        clear h hB hkN hs4
        simp only [encR]
        gi_wp2
        refine hK2 _ _ ((KeepsOthers.alloc _ _).from _) (BKeep.of_kept ((Below.refl _ W).alloc (Nat.le_refl _) _)) HH.out.2.1 ⟨HH.out.2.1.ca, by have := HN.out; have := HH.out.2.2.1; omega, W.heap.size, HH.out.2.2.2, by simp, by simp, by simp, by simp, rfl⟩
      case body =>
        rintro l pre k a' W hl hrec h ⟨ca, hkN, Bx, hBx, b0, b1, b2, b3, rfl⟩ hlt
        have hk : k = pre.length := area_inj HBd.out (by omega) (by have := HN.out; omega) (by have := h.ca.symm.trans ca; injection this with this; injection this with _ this; exact this.symm)
        subst hk
        obtain ⟨r1, r2, r3, r4, r5, r6⟩ := rect_lies HBd.out (Int.natCast_nonneg _) hkN
        obtain ⟨a0, a1, d0, d1, w0, w1', h0, h1⟩ := HBd.out
        have es := area_step HBd.out (Int.natCast_nonneg _) hkN
        have nf := fun hne => has_far (g := g) (x := x) (y := y) (n := (pre.length : Nat)) HBd.out hne
        have nn := fun hin => has_near (g := g) (x := x) (y := y) (n := (pre.length : Nat)) HBd.out (Int.natCast_nonneg _) hkN hin
        obtain ⟨e0, e1⟩ := area_bnd HBd.out (pre.length : Nat) (Int.natCast_nonneg _) (by omega)
        obtain ⟨e2, e3⟩ := area_bnd HBd.out ((pre.length : Nat) + 1) (by omega) (by omega)
        have hpb := PBY2.out.belowB h.low P3.out.lt
        obtain ⟨-, cx, cy, -, -, lt⟩ := hpb
        have HI0 := hide h
        obtain ⟨-, -, ch, fa, fh⟩ := h
        have hpl : (((pre ++ [pre.length]).length : Nat) : Int) = (pre.length : Nat) + 1 := by simp
        have m9 : rectW g (pre.length : Nat) * rectH g (pre.length : Nat) = areaN g ((pre.length : Nat) + 1) - areaN g (pre.length : Nat) := by omega
        have u1 : IntKind.i64.wrap (rectW g (pre.length : Nat) * rectH g (pre.length : Nat)) = rectW g (pre.length : Nat) * rectH g (pre.length : Nat) := IntWalk.i64_in _ (by omega)
        have u2 : IntKind.i64.wrap (areaN g (pre.length : Nat) + rectW g (pre.length : Nat) * rectH g (pre.length : Nat)) = areaN g (pre.length : Nat) + rectW g (pre.length : Nat) * rectH g (pre.length : Nat) := IntWalk.i64_in _ (by omega)
        have u3 : IntKind.i64.wrap (rectX g (pre.length : Nat) + rectW g (pre.length : Nat)) = rectX g (pre.length : Nat) + rectW g (pre.length : Nat) := IntWalk.i64_in _ (by omega)
        have u4 : IntKind.i64.wrap (rectY g (pre.length : Nat) + rectH g (pre.length : Nat)) = rectY g (pre.length : Nat) + rectH g (pre.length : Nat) := IntWalk.i64_in _ (by omega)
        have HES := hide es
        have HPL := hide hpl
        clear es hpl m9
        have b4 := lt_of_cell b0
        have hkz := lt_of_cell ch
        have lt3 := P3.out.lt
        rcases (show ¬ rectX g (pre.length : Nat) ≤ x ∨ (rectX g (pre.length : Nat) ≤ x ∧ ¬ rectY g (pre.length : Nat) ≤ y) ∨ (rectX g (pre.length : Nat) ≤ x ∧ rectY g (pre.length : Nat) ≤ y ∧ ¬ x < rectX g (pre.length : Nat) + rectW g (pre.length : Nat)) ∨ (rectX g (pre.length : Nat) ≤ x ∧ rectY g (pre.length : Nat) ≤ y ∧ x < rectX g (pre.length : Nat) + rectW g (pre.length : Nat) ∧ ¬ y < rectY g (pre.length : Nat) + rectH g (pre.length : Nat)) ∨ (rectX g (pre.length : Nat) ≤ x ∧ rectY g (pre.length : Nat) ≤ y ∧ x < rectX g (pre.length : Nat) + rectW g (pre.length : Nat) ∧ y < rectY g (pre.length : Nat) + rectH g (pre.length : Nat)) by omega) with s1 | ⟨s1, s2⟩ | ⟨s1, s2, s3⟩ | ⟨s1, s2, s3, s4⟩ | ⟨s1, s2, s3, s4⟩
        · have hh := nf (fun k => s1 k.1)
          have HHH := hide hh
          clear hh nf nn
          gi_wp2
          refine ⟨(KeepsOthers.setCell W _ _).from _, BKeep.setCell (by dsimp only; have := HZ.out; omega) _, ?_⟩
          dsimp only
          rw [HPL.out, HES.out, HHH.out]
          exact HI0.out.setA (by have := HZ.out; omega) _
        · have hh := nf (fun k => s2 k.2.2.1)
          have HHH := hide hh
          clear hh nf nn
          gi_wp2
          refine ⟨(KeepsOthers.setCell W _ _).from _, BKeep.setCell (by dsimp only; have := HZ.out; omega) _, ?_⟩
          dsimp only
          rw [HPL.out, HES.out, HHH.out]
          exact HI0.out.setA (by have := HZ.out; omega) _
        · have hh := nf (fun k => s3 k.2.1)
          have HHH := hide hh
          clear hh nf nn
          gi_wp2
          refine ⟨(KeepsOthers.setCell W _ _).from _, BKeep.setCell (by dsimp only; have := HZ.out; omega) _, ?_⟩
          dsimp only
          rw [HPL.out, HES.out, HHH.out]
          exact HI0.out.setA (by have := HZ.out; omega) _
        · have hh := nf (fun k => s4 k.2.2.2)
          have HHH := hide hh
          clear hh nf nn
          gi_wp2
          refine ⟨(KeepsOthers.setCell W _ _).from _, BKeep.setCell (by dsimp only; have := HZ.out; omega) _, ?_⟩
          dsimp only
          rw [HPL.out, HES.out, HHH.out]
          exact HI0.out.setA (by have := HZ.out; omega) _
        · obtain ⟨g1, g2⟩ := nn ⟨s1, s3, s2, s4⟩
          have HHH := hide g2
          rw [g1] at ch
          clear nf nn g1 g2
          gi_wp2
          refine ⟨((KeepsOthers.setCell W _ _).from _).trans ((KeepsOthers.setCell _ _ _).from _), (BKeep.setCell (by dsimp only; have := HZ.out; omega) _).trans (BKeep.setCell (by dsimp only; have := HZ.out; omega) _), ?_⟩
          dsimp only
          rw [HPL.out, HES.out, HHH.out]
          exact (HI0.out.setA (by have := HZ.out; omega) _).setH (by have := HZ.out; omega) _
      case done =>
        rintro D xs W hD hxs h hDef
        have hxs : xs = List.range (rectsN g) := hxs
        rw [hxs, List.length_range, HN.out, area_end HBd.out, has_end HBd.out] at h
        have hpb := hide (PBY2.out.belowB h.low P3.out.lt)
        have KW : Hid (Kept w W) := KY2.out.trans (h.low.mono (by have := P3.out.lt; omega))
        have HDEF := hide hDef
        have hDs := hide hD
        obtain ⟨-, ca, ch, -, -⟩ := h
        obtain ⟨⟨q0, q1, q2, q3, q4, q5, q6, q7, q8, q9, q10⟩, cx, cy, cr, fr, lt⟩ := hpb.out
        obtain ⟨a0, a1, d0, d1, -, -, -, -⟩ := HBd.out
        have v0 : 0 ≤ g.across * g.down := Int.mul_nonneg (by omega) (by omega)
        have v1 : g.across * g.down ≤ 65536 * 65536 := Int.mul_le_mul (by omega) (by omega) (by omega) (by decide)
        have v2 : IntKind.i64.wrap (g.across * g.down) = g.across * g.down := IntWalk.i64_in _ (by omega)
        have hat : inG g x y = true → 0 ≤ atN g x y := fun hi => (at_bnd HBd.out hi).1
        clear hD hDef hxs a0 a1 d0 d1 v0 v1
        have K3W : Hid (w3.heap.size ≤ W.heap.size) := by show w3.heap.size ≤ W.heap.size; have := lt_of_cell ca; omega
        cases hin : inG g x y with
        | true =>
          have hat := hat hin
          have hav : atV g x y = atN g x y := by unfold atV; rw [hin]; rfl
          rw [hin] at ch
          simp only [if_true] at ch
          go_wp2_with fail
          refine (CL.out _ KW.out).mono ?_
          rintro e w10 ⟨rfl, hk10⟩
          have hDF : Defs w3.heap.size w10 [{ target := .collected D, args := #[] }] :=
            ⟨D, rfl, by have := hDs.out; have := HZ.out; omega, (hk10.block D (Array.getElem?_eq_some_iff.1 HDEF.out).1).trans HDEF.out, by simp, trivial⟩
          have HDF := hide hDF
          have PW := hide (hpb.out.kept hk10)
          have HE : Hid ((w10.setCell ⟨w.heap.size + 1 + 1 + 1, 0, none⟩ (.bool true)).cell? ⟨w.heap.size + 1 + 1 + 1, 0, none⟩ = some (.bool true)) := World.cell?_setCell_same _ _ _ PW.out.cr
          have HKE : Hid (Kept w (w10.setCell ⟨w.heap.size + 1 + 1 + 1, 0, none⟩ (.bool true))) := (KW.out.trans' hk10).setCell (by simp; omega) _
          have hsY : w3.heap.size ≤ w10.heap.size := Nat.le_trans K3W.out hk10.size
          have hws : w.heap.size ≤ w3.heap.size := K3.out.size
          have cr10 := PW.out.cr
          have fr10 := PW.out.fr
          have lt10 := PW.out.lt
          clear hk10 hDF q0 q1 q2 q3 q4 q5 q6 q7 q8 q9 q10 cx cy cr fr lt ca ch
          go_wp2_with fail
          refine leaves_defs (lo := w3.heap.size) _ _ (HDF.out.keeps fun k o h hc => (KeepsOthers.setCell w10 _ _).same k o h hc) (fun W' hb hcc => ?_) (by simpa [World.setCell] using hsY)
          have h9 := (hcc (w.heap.size + 1 + 1 + 1) 0 ⟨_, HE.out⟩).trans HE.out
          exact ⟨.bool true, by simp [results, Tryz.f8, go_sem, h9], rfl, HKE.out.trans (hb.mono hws)⟩
        | false =>
          have hav : atV g x y = 0 := by unfold atV; rw [hin]; rfl
          rw [hin] at ch
          simp only [Bool.false_eq_true, if_false] at ch
          go_wp2_with fail
          refine (CL.out _ KW.out).mono ?_
          rintro e w10 ⟨rfl, hk10⟩
          have hDF : Defs w3.heap.size w10 [{ target := .collected D, args := #[] }] :=
            ⟨D, rfl, by have := hDs.out; have := HZ.out; omega, (hk10.block D (Array.getElem?_eq_some_iff.1 HDEF.out).1).trans HDEF.out, by simp, trivial⟩
          have HDF := hide hDF
          have PW := hide (hpb.out.kept hk10)
          have HE : Hid ((w10.setCell ⟨w.heap.size + 1 + 1 + 1, 0, none⟩ (.bool true)).cell? ⟨w.heap.size + 1 + 1 + 1, 0, none⟩ = some (.bool true)) := World.cell?_setCell_same _ _ _ PW.out.cr
          have HKE : Hid (Kept w (w10.setCell ⟨w.heap.size + 1 + 1 + 1, 0, none⟩ (.bool true))) := (KW.out.trans' hk10).setCell (by simp; omega) _
          have hsY : w3.heap.size ≤ w10.heap.size := Nat.le_trans K3W.out hk10.size
          have hws : w.heap.size ≤ w3.heap.size := K3.out.size
          have cr10 := PW.out.cr
          have fr10 := PW.out.fr
          have lt10 := PW.out.lt
          clear hk10 hDF q0 q1 q2 q3 q4 q5 q6 q7 q8 q9 q10 cx cy cr fr lt ca ch
          go_wp2_with fail
          refine leaves_defs (lo := w3.heap.size) _ _ (HDF.out.keeps fun k o h hc => (KeepsOthers.setCell w10 _ _).same k o h hc) (fun W' hb hcc => ?_) (by simpa [World.setCell] using hsY)
          have h9 := (hcc (w.heap.size + 1 + 1 + 1) 0 ⟨_, HE.out⟩).trans HE.out
          exact ⟨.bool true, by simp [results, Tryz.f8, go_sem, h9], rfl, HKE.out.trans (hb.mono hws)⟩
theorem places_any (g : GrD) (x y : Int) (w : World) (hg : g.ok) (hx : -9223372036854775808 ≤ x ∧ x ≤ 9223372036854775807) (hy : -9223372036854775808 ≤ y ∧ y ≤ 9223372036854775807) (hH : HpOK id0 4096 laidH w) :
    Calls Tryz.prog 8 #[.agg #[.bool g.re.neg, .string g.re.n, .int .i64 g.re.e, .bool g.im.neg, .string g.im.n, .int .i64 g.im.e, .int .i64 g.exp, .int .i64 g.across, .int .i64 g.down, .int .i64 g.wide, .int .i64 g.high], .int .i64 x, .int .i64 y] w fun e w' => e = .returned (.bool true) ∧ Kept w w' := by
  by_cases hI : gridI g = 0
  · exact places_on g x y w hg hI hx.1 hx.2 hy.1 hy.2 hH
  · exact places_off g x y w hg hI hH
end Go.Proofs.YtneakieigiafpaaGreatDoor
