/- The document's words on a grid's rectangles and cells (filigreeref25.Rect, At), walked. -/
import Derived.Test.YtneakieigiafpaaGreatDoorRefG
import Derived.Test.YtneakieigiafpaaGreatDoorJoiPM
namespace Go.Proofs.YtneakieigiafpaaGreatDoor
open Go.RowKit

/-- What the document tells of a tile's rectangle. -/
def rectV (g : GrD) (n : Int) : Value := if 0 ≤ n ∧ n < gridA g * gridD g then .tuple #[.agg #[.int .i64 (rectX g n), .int .i64 (rectY g n), .int .i64 (rectW g n), .int .i64 (rectH g n)], .bool true] else .tuple #[.agg #[.int .i64 0, .int .i64 0, .int .i64 0, .int .i64 0], .bool false]
set_option maxRecDepth 100000 in
set_option maxHeartbeats 1600000 in
theorem refRect_out (g : GrD) (n : Int) (w : World) (hI : gridI g = 0) (hn : ¬ (0 ≤ n ∧ n < gridA g * gridD g)) : Calls Tryz.prog 24 #[.agg #[.bool g.re.neg, .string g.re.n, .int .i64 g.re.e, .bool g.im.neg, .string g.im.n, .int .i64 g.im.e, .int .i64 g.exp, .int .i64 g.across, .int .i64 g.down, .int .i64 g.wide, .int .i64 g.high], .int .i64 n] w fun e w' => e = .returned (.tuple #[.agg #[.int .i64 0, .int .i64 0, .int .i64 0, .int .i64 0], .bool false]) ∧ Kept w w' := by
  obtain ⟨hB, hm⟩ := gridI_ok hI
  obtain ⟨ga0, ga1⟩ := hB.gA
  obtain ⟨gd0, gd1⟩ := hB.gD
  have CC := hide (fun (W : World) => refCount_any g W hB)
  have m1 : IntKind.i64.wrap (gridA g * gridD g) = gridA g * gridD g := IntWalk.i64_in _ (by have := Int.mul_nonneg (show 0 ≤ gridA g by omega) (show 0 ≤ gridD g by omega); omega)
  have R0 := hide (Rec0.new w (w.alloc (.cells #[.bool g.re.neg, .string g.re.n, .int .i64 g.re.e, .bool g.im.neg, .string g.im.n, .int .i64 g.im.e, .int .i64 g.exp, .int .i64 g.across, .int .i64 g.down, .int .i64 g.wide, .int .i64 g.high] 31)) 38 (w.heap.size + 1) (by simp) ((Below.refl _ _).alloc (Nat.le_refl _) _))
  rcases (show n < 0 ∨ (¬ n < 0 ∧ gridA g * gridD g ≤ n) by omega) with s1 | ⟨s1, s2⟩
  all_goals
    generalize gridA g = A at *
    generalize gridD g = D at *
    clear hI hB hm hn
    go_enter Tryz.func24, Tryz.ntmps24
    go_wp2_with (go_at_call 23; refine (CC.out _).mono ?_; rintro e w1 ⟨rfl, hk1⟩; have R2 := hide (R0.out.keep hk1); obtain ⟨r0, r1, r2, r3, f0, f1, f2, f3, -, -⟩ := R2.out; have hz2 := R2.out.lt; clear hk1)
    exact bodyPost_ret (v := .tuple #[.agg #[.int .i64 0, .int .i64 0, .int .i64 0, .int .i64 0], .bool false]) (by simp [results, Tryz.results24, go_sem, r0, r1, r2, r3]) rfl ⟨rfl, R2.out.stored _ _ _ _⟩
set_option maxRecDepth 100000 in
set_option maxHeartbeats 1600000 in
theorem refRect_in (g : GrD) (n : Int) (w : World) (hI : gridI g = 0) (n0 : 0 ≤ n) (n1 : n < gridA g * gridD g) : Calls Tryz.prog 24 #[.agg #[.bool g.re.neg, .string g.re.n, .int .i64 g.re.e, .bool g.im.neg, .string g.im.n, .int .i64 g.im.e, .int .i64 g.exp, .int .i64 g.across, .int .i64 g.down, .int .i64 g.wide, .int .i64 g.high], .int .i64 n] w fun e w' => e = .returned (.tuple #[.agg #[.int .i64 (rectX g n), .int .i64 (rectY g n), .int .i64 (rectW g n), .int .i64 (rectH g n)], .bool true]) ∧ Kept w w' := by
  obtain ⟨hB, hm⟩ := gridI_ok hI
  obtain ⟨ga0, ga1⟩ := hB.gA
  obtain ⟨gd0, gd1⟩ := hB.gD
  obtain ⟨x0, x1, y0, y1, w0, h0⟩ := rect_lies hB n0 n1
  have CC := hide (fun (W : World) => refCount_any g W hB)
  have m1 : IntKind.i64.wrap (gridA g * gridD g) = gridA g * gridD g := IntWalk.i64_in _ (by omega)
  have R0 := hide (Rec0.new w (w.alloc (.cells #[.bool g.re.neg, .string g.re.n, .int .i64 g.re.e, .bool g.im.neg, .string g.im.n, .int .i64 g.im.e, .int .i64 g.exp, .int .i64 g.across, .int .i64 g.down, .int .i64 g.wide, .int .i64 g.high] 31)) 38 (w.heap.size + 1) (by simp) ((Below.refl _ _).alloc (Nat.le_refl _) _))
  have G0 : Hid (∀ W, Kept ((w.alloc (.cells #[.bool g.re.neg, .string g.re.n, .int .i64 g.re.e, .bool g.im.neg, .string g.im.n, .int .i64 g.im.e, .int .i64 g.exp, .int .i64 g.across, .int .i64 g.down, .int .i64 g.wide, .int .i64 g.high] 31)).alloc (.cells #[.int .i64 0, .int .i64 0, .int .i64 0, .int .i64 0] 38)) W → GBox W w.heap.size g ∧ w.heap.size < W.heap.size) := fun W k =>
    ⟨((GBox.new w g _ _ rfl).below ((Below.refl _ _).alloc (Nat.le_refl _) _) (by first | (simp; done) | (simp; omega))).below k (by first | (simp; done) | (simp; omega)), Nat.lt_of_lt_of_le (by first | (simp; done) | (simp; omega)) k.size⟩
  obtain ⟨a0, a1, d0, d1, gw0, gw1, gh0, gh1⟩ := id hB
  have hq0 : 0 ≤ n / gridA g := Int.ediv_nonneg n0 (by omega)
  have hq1 : n / gridA g ≤ n := Int.ediv_le_self _ n0
  have hr0 := Int.emod_nonneg n (show gridA g ≠ 0 by omega)
  have hr1 := Int.emod_lt_of_pos n (show 0 < gridA g by omega)
  have t1 : Int.tmod n (gridA g) = n % gridA g := Int.tmod_eq_emod_of_nonneg n0
  have t2 : Int.tdiv n (gridA g) = n / gridA g := Int.tdiv_eq_ediv_of_nonneg n0
  have eX : n % gridA g * g.wide = rectX g n := rfl
  have eY : n / gridA g * g.high = rectY g n := rfl
  have eW : Hid (rectW g n = min g.wide (g.across - rectX g n)) := rfl
  have eH : Hid (rectH g n = min g.high (g.down - rectY g n)) := rfl
  have u0 : gridA g ≠ 0 := by omega
  have u1 : (gridA g == 0) = false := by simp; omega
  have e1 : IntKind.i64.wrap (n % gridA g) = n % gridA g := IntWalk.i64_in _ (by omega)
  have e2 : IntKind.i64.wrap (n / gridA g) = n / gridA g := IntWalk.i64_in _ (by omega)
  have e3 : IntKind.i64.wrap (rectX g n) = rectX g n := IntWalk.i64_in _ (by omega)
  have e4 : IntKind.i64.wrap (rectY g n) = rectY g n := IntWalk.i64_in _ (by omega)
  have e5 : IntKind.i64.wrap (g.across - rectX g n) = g.across - rectX g n := IntWalk.i64_in _ (by omega)
  have e6 : IntKind.i64.wrap (g.down - rectY g n) = g.down - rectY g n := IntWalk.i64_in _ (by omega)
  have s1 : ¬ n < 0 := by omega
  have s2 : ¬ gridA g * gridD g ≤ n := by omega
  generalize rectX g n = X at *
  generalize rectY g n = Y at *
  generalize rectW g n = U at *
  generalize rectH g n = V at *
  generalize gridA g = A at *
  generalize gridD g = D at *
  generalize n % A = R at *
  generalize n / A = Q at *
  clear hI hB hm a0 a1 d0 d1 gw1 gh1 hq0 hq1 hr0 hr1 ga0 ga1 gd0 gd1
  rcases (show (g.wide ≤ g.across - X ∧ g.high ≤ g.down - Y) ∨ (g.wide ≤ g.across - X ∧ ¬ g.high ≤ g.down - Y) ∨ (¬ g.wide ≤ g.across - X ∧ g.high ≤ g.down - Y) ∨ (¬ g.wide ≤ g.across - X ∧ ¬ g.high ≤ g.down - Y) by omega) with ⟨z1, z2⟩ | ⟨z1, z2⟩ | ⟨z1, z2⟩ | ⟨z1, z2⟩
  · go_enter Tryz.func24, Tryz.ntmps24
    go_wp2_with fail
    refine (CC.out _).mono ?_
    rintro e w1 ⟨rfl, hk1⟩
    obtain ⟨⟨q0, q1, q2, q3, q4, q5, q6, q7, q8, q9, q10⟩, hz1⟩ := G0.out w1 hk1
    have R1 := hide (R0.out.keep hk1)
    clear hk1 q0 q1 q2 q3 q4 q5 q6
    go_wp2_with fail
    go_quiet (fail)
    have R2 := hide (R1.out.keep (drewN_below (Below.refl _ _) nq))
    obtain ⟨r0, r1, r2, r3, f0, f1, f2, f3, -, -⟩ := R2.out
    have hz2 := R2.out.lt
    go_wp2_with fail
    have hW := eW.out
    have hH := eH.out
    first | rw [show min g.wide (g.across - X) = g.wide by omega] at hW | rw [show min g.wide (g.across - X) = g.across - X by omega] at hW
    first | rw [show min g.high (g.down - Y) = g.high by omega] at hH | rw [show min g.high (g.down - Y) = g.down - Y by omega] at hH
    rw [hW, hH]
    exact bodyPost_ret (v := .tuple #[.agg #[.int .i64 X, .int .i64 Y, .int .i64 _, .int .i64 _], .bool true]) (by simp [results, Tryz.results24, go_sem, r0, r1, r2, r3]) rfl ⟨rfl, R2.out.stored _ _ _ _⟩
  · go_enter Tryz.func24, Tryz.ntmps24
    go_wp2_with fail
    refine (CC.out _).mono ?_
    rintro e w1 ⟨rfl, hk1⟩
    obtain ⟨⟨q0, q1, q2, q3, q4, q5, q6, q7, q8, q9, q10⟩, hz1⟩ := G0.out w1 hk1
    have R1 := hide (R0.out.keep hk1)
    clear hk1 q0 q1 q2 q3 q4 q5 q6
    go_wp2_with fail
    go_quiet (fail)
    have R2 := hide (R1.out.keep (drewN_below (Below.refl _ _) nq))
    obtain ⟨r0, r1, r2, r3, f0, f1, f2, f3, -, -⟩ := R2.out
    have hz2 := R2.out.lt
    go_wp2_with fail
    have hW := eW.out
    have hH := eH.out
    first | rw [show min g.wide (g.across - X) = g.wide by omega] at hW | rw [show min g.wide (g.across - X) = g.across - X by omega] at hW
    first | rw [show min g.high (g.down - Y) = g.high by omega] at hH | rw [show min g.high (g.down - Y) = g.down - Y by omega] at hH
    rw [hW, hH]
    exact bodyPost_ret (v := .tuple #[.agg #[.int .i64 X, .int .i64 Y, .int .i64 _, .int .i64 _], .bool true]) (by simp [results, Tryz.results24, go_sem, r0, r1, r2, r3]) rfl ⟨rfl, R2.out.stored _ _ _ _⟩
  · go_enter Tryz.func24, Tryz.ntmps24
    go_wp2_with fail
    refine (CC.out _).mono ?_
    rintro e w1 ⟨rfl, hk1⟩
    obtain ⟨⟨q0, q1, q2, q3, q4, q5, q6, q7, q8, q9, q10⟩, hz1⟩ := G0.out w1 hk1
    have R1 := hide (R0.out.keep hk1)
    clear hk1 q0 q1 q2 q3 q4 q5 q6
    go_wp2_with fail
    go_quiet (fail)
    have R2 := hide (R1.out.keep (drewN_below (Below.refl _ _) nq))
    obtain ⟨r0, r1, r2, r3, f0, f1, f2, f3, -, -⟩ := R2.out
    have hz2 := R2.out.lt
    go_wp2_with fail
    have hW := eW.out
    have hH := eH.out
    first | rw [show min g.wide (g.across - X) = g.wide by omega] at hW | rw [show min g.wide (g.across - X) = g.across - X by omega] at hW
    first | rw [show min g.high (g.down - Y) = g.high by omega] at hH | rw [show min g.high (g.down - Y) = g.down - Y by omega] at hH
    rw [hW, hH]
    exact bodyPost_ret (v := .tuple #[.agg #[.int .i64 X, .int .i64 Y, .int .i64 _, .int .i64 _], .bool true]) (by simp [results, Tryz.results24, go_sem, r0, r1, r2, r3]) rfl ⟨rfl, R2.out.stored _ _ _ _⟩
  · go_enter Tryz.func24, Tryz.ntmps24
    go_wp2_with fail
    refine (CC.out _).mono ?_
    rintro e w1 ⟨rfl, hk1⟩
    obtain ⟨⟨q0, q1, q2, q3, q4, q5, q6, q7, q8, q9, q10⟩, hz1⟩ := G0.out w1 hk1
    have R1 := hide (R0.out.keep hk1)
    clear hk1 q0 q1 q2 q3 q4 q5 q6
    go_wp2_with fail
    go_quiet (fail)
    have R2 := hide (R1.out.keep (drewN_below (Below.refl _ _) nq))
    obtain ⟨r0, r1, r2, r3, f0, f1, f2, f3, -, -⟩ := R2.out
    have hz2 := R2.out.lt
    go_wp2_with fail
    have hW := eW.out
    have hH := eH.out
    first | rw [show min g.wide (g.across - X) = g.wide by omega] at hW | rw [show min g.wide (g.across - X) = g.across - X by omega] at hW
    first | rw [show min g.high (g.down - Y) = g.high by omega] at hH | rw [show min g.high (g.down - Y) = g.down - Y by omega] at hH
    rw [hW, hH]
    exact bodyPost_ret (v := .tuple #[.agg #[.int .i64 X, .int .i64 Y, .int .i64 _, .int .i64 _], .bool true]) (by simp [results, Tryz.results24, go_sem, r0, r1, r2, r3]) rfl ⟨rfl, R2.out.stored _ _ _ _⟩
set_option maxRecDepth 100000 in
set_option maxHeartbeats 1600000 in
theorem refAt_in (g : GrD) (x y : Int) (w : World) (hI : gridI g = 0) (x0 : 0 ≤ x) (y0 : 0 ≤ y) (x1 : x < g.across) (y1 : y < g.down) : Calls Tryz.prog 25 #[.agg #[.bool g.re.neg, .string g.re.n, .int .i64 g.re.e, .bool g.im.neg, .string g.im.n, .int .i64 g.im.e, .int .i64 g.exp, .int .i64 g.across, .int .i64 g.down, .int .i64 g.wide, .int .i64 g.high], .int .i64 x, .int .i64 y] w fun e w' => e = .returned (.tuple #[.int .i64 (atN g x y), .bool true]) ∧ Kept w w' := by
  obtain ⟨hB, hm⟩ := gridI_ok hI
  obtain ⟨ga0, ga1⟩ := hB.gA
  have CC := hide (fun (W : World) => refCount_any g W hB)
  obtain ⟨a0, a1, d0, d1, w0, w1, h0, h1⟩ := hB
  have G0 : Hid (∀ W, Kept (w.alloc (.cells #[.bool g.re.neg, .string g.re.n, .int .i64 g.re.e, .bool g.im.neg, .string g.im.n, .int .i64 g.im.e, .int .i64 g.exp, .int .i64 g.across, .int .i64 g.down, .int .i64 g.wide, .int .i64 g.high] 31)) W → GBox W w.heap.size g ∧ w.heap.size < W.heap.size) := fun W k =>
    ⟨(GBox.new w g _ _ rfl).below k (by simp), Nat.lt_of_lt_of_le (by simp) k.size⟩
  have K0 := hide (show Kept w (w.alloc (.cells #[.bool g.re.neg, .string g.re.n, .int .i64 g.re.e, .bool g.im.neg, .string g.im.n, .int .i64 g.im.e, .int .i64 g.exp, .int .i64 g.across, .int .i64 g.down, .int .i64 g.wide, .int .i64 g.high] 31)) from (Below.refl _ _).alloc (Nat.le_refl _) _)
  unfold atN
  have p1 : 0 ≤ y / g.high := Int.ediv_nonneg y0 (by omega)
  have p2 : y / g.high ≤ y := Int.ediv_le_self _ y0
  have p3 : 0 ≤ x / g.wide := Int.ediv_nonneg x0 (by omega)
  have p4 : x / g.wide ≤ x := Int.ediv_le_self _ x0
  have t1 : Int.tdiv y g.high = y / g.high := Int.tdiv_eq_ediv_of_nonneg y0
  have t2 : Int.tdiv x g.wide = x / g.wide := Int.tdiv_eq_ediv_of_nonneg x0
  generalize y / g.high = Q at *
  generalize x / g.wide = R at *
  generalize gridA g = A at *
  generalize gridD g = D at *
  have p5 : 0 ≤ Q * A := Int.mul_nonneg p1 (by omega)
  have p6 : Q * A ≤ 65536 * 65536 := Int.mul_le_mul (by omega) ga1 (by omega) (by omega)
  have e1 : IntKind.i64.wrap Q = Q := IntWalk.i64_in _ (by omega)
  have e2 : IntKind.i64.wrap (Q * A) = Q * A := IntWalk.i64_in _ (by omega)
  have e3 : IntKind.i64.wrap R = R := IntWalk.i64_in _ (by omega)
  have e4 : IntKind.i64.wrap (Q * A + R) = Q * A + R := IntWalk.i64_in _ (by omega)
  have u1 := show g.wide ≠ 0 by omega
  have u2 := show g.high ≠ 0 by omega
  have n1 : (g.wide == 0) = false := by simp; omega
  have n2 : (g.high == 0) = false := by simp; omega
  have s1 : ¬ x < 0 := by omega
  have s2 : ¬ y < 0 := by omega
  have s3 : ¬ g.across ≤ x := by omega
  have s4 : ¬ g.down ≤ y := by omega
  clear hI hm p5 p6
  go_enter Tryz.func25, Tryz.ntmps25
  go_wp2_with fail
  refine (CC.out _).mono ?_
  rintro e w1 ⟨rfl, hk1⟩
  obtain ⟨⟨q0, q1, q2, q3, q4, q5, q6, q7, q8, q9, q10⟩, hz1⟩ := G0.out w1 hk1
  have K1 : Hid (Kept w w1) := (show Kept w _ from K0.out).trans' hk1
  clear hk1 q0 q1 q2 q3 q4 q5 q6
  go_wp2_with fail
  go_quiet (fail)
  go_wp2_with fail
  exact bodyPost_ret (v := .tuple #[.int .i64 (Q * A + R), .bool true]) (by simp [results, Tryz.results25, go_sem]) rfl ⟨rfl, drewN_below K1.out _⟩
set_option maxRecDepth 100000 in
set_option maxHeartbeats 1600000 in
theorem refAt_any (g : GrD) (x y : Int) (w : World) (hI : gridI g = 0) : Calls Tryz.prog 25 #[.agg #[.bool g.re.neg, .string g.re.n, .int .i64 g.re.e, .bool g.im.neg, .string g.im.n, .int .i64 g.im.e, .int .i64 g.exp, .int .i64 g.across, .int .i64 g.down, .int .i64 g.wide, .int .i64 g.high], .int .i64 x, .int .i64 y] w fun e w' => e = .returned (.tuple #[.int .i64 (atV g x y), .bool (inG g x y)]) ∧ Kept w w' := by
  by_cases hn : 0 ≤ x ∧ 0 ≤ y ∧ x < g.across ∧ y < g.down
  · have hi : inG g x y = true := inG_iff.2 hn
    rw [show atV g x y = atN g x y by unfold atV; rw [hi]; rfl, hi]
    exact refAt_in g x y w hI hn.1 hn.2.1 hn.2.2.1 hn.2.2.2
  · have hi : inG g x y = false := by
      cases h : inG g x y with
      | false => rfl
      | true => exact absurd (inG_iff.1 h) hn
    rw [show atV g x y = 0 by unfold atV; rw [hi]; rfl, hi]
    have K0 := hide (show Kept w (w.alloc (.cells #[.bool g.re.neg, .string g.re.n, .int .i64 g.re.e, .bool g.im.neg, .string g.im.n, .int .i64 g.im.e, .int .i64 g.exp, .int .i64 g.across, .int .i64 g.down, .int .i64 g.wide, .int .i64 g.high] 31)) from (Below.refl _ _).alloc (Nat.le_refl _) _)
    rcases (show x < 0 ∨ (¬ x < 0 ∧ y < 0) ∨ (¬ x < 0 ∧ ¬ y < 0 ∧ g.across ≤ x) ∨ (¬ x < 0 ∧ ¬ y < 0 ∧ ¬ g.across ≤ x ∧ g.down ≤ y) by omega) with s1 | ⟨s1, s2⟩ | ⟨s1, s2, s3⟩ | ⟨s1, s2, s3, s4⟩
    all_goals
      clear hn hI hi
      go_enter Tryz.func25, Tryz.ntmps25
      go_wp2_with fail
      exact bodyPost_ret (v := .tuple #[.int .i64 0, .bool false]) (by simp [results, Tryz.results25, go_sem]) rfl ⟨rfl, K0.out⟩
/-- What the document tells of a tile's rectangle, whichever number. -/
theorem refRect_any (g : GrD) (n : Int) (w : World) (hI : gridI g = 0) : Calls Tryz.prog 24 #[.agg #[.bool g.re.neg, .string g.re.n, .int .i64 g.re.e, .bool g.im.neg, .string g.im.n, .int .i64 g.im.e, .int .i64 g.exp, .int .i64 g.across, .int .i64 g.down, .int .i64 g.wide, .int .i64 g.high], .int .i64 n] w fun e w' => e = .returned (rectV g n) ∧ Kept w w' := by
  unfold rectV
  by_cases hn : 0 ≤ n ∧ n < gridA g * gridD g
  · rw [if_pos hn]; exact refRect_in g n w hI hn.1 hn.2
  · rw [if_neg hn]; exact refRect_out g n w hI hn
end Go.Proofs.YtneakieigiafpaaGreatDoor
