/- The law PictureSeam, walked. -/
import Derived.Test.YtbhgcbgaadnfpaaSeamM
import Derived.Test.YtbhgcbgaadnfpaaSeamK
import Derived.Test.YtbhgcbgaadnfpaaDefs
import Derived.Outline
namespace Go.Proofs.Ytbhgcbgaadnfpaa
open Go.RowKit Go.Shelf
attribute [local go_sem] Oper.semAt_some

/-- What lies in the law's own boxes. -/
theorem seam_boxes (g : GrD) (Ac : Option Addr) (nc cc : Nat) (w W0 : World) (hW0 : W0 = ((w.alloc (.cells #[.bool g.re.neg, .string g.re.n, .int .i64 g.re.e, .bool g.im.neg, .string g.im.n, .int .i64 g.im.e, .int .i64 g.exp, .int .i64 g.across, .int .i64 g.down, .int .i64 g.wide, .int .i64 g.high] 82)).alloc (.cells #[.slice Ac nc cc] 67)).alloc (.cells #[.bool false] 4)) :
    W0.heap.size = w.heap.size + 3 ∧ Kept w W0 ∧ ∀ W, Kept W0 W → GBox W w.heap.size g ∧ W.cell? ⟨w.heap.size + 1, 0, none⟩ = some (.slice Ac nc cc) ∧ W.cell? ⟨w.heap.size + 1 + 1, 0, none⟩ = some (.bool false) ∧ W.frozen? ⟨w.heap.size + 1 + 1, 0, none⟩ = false ∧ w.heap.size + 1 + 1 < W.heap.size := by
  have sz0 : W0.heap.size = w.heap.size + 3 := by rw [hW0]; simp
  have K0 : Kept w W0 := by rw [hW0]; exact (((Below.refl _ _).alloc (Nat.le_refl _) _).alloc (by simp) _).alloc (by first | (simp; done) | (simp; omega)) _
  refine ⟨sz0, K0, fun W hW => ?_⟩
  have g0 : GBox W0 w.heap.size g := by
    rw [hW0]
    exact (GBox.new w g _ _ rfl).below (((Below.refl _ _).alloc (Nat.le_refl _) _).alloc (by simp) _) (by simp)
  have e0 : W0.frozen? ⟨w.heap.size + 1 + 1, 0, none⟩ = false := by
    have h9 := fresh_frozen ((w.alloc (.cells #[.bool g.re.neg, .string g.re.n, .int .i64 g.re.e, .bool g.im.neg, .string g.im.n, .int .i64 g.im.e, .int .i64 g.exp, .int .i64 g.across, .int .i64 g.down, .int .i64 g.wide, .int .i64 g.high] 82)).alloc (.cells #[.slice Ac nc cc] 67)) #[.bool false] 4 0
    simp only [World.size_alloc] at h9
    rw [hW0]; exact h9
  have c1 := ((Boxed.new (w.alloc (.cells #[.bool g.re.neg, .string g.re.n, .int .i64 g.re.e, .bool g.im.neg, .string g.im.n, .int .i64 g.im.e, .int .i64 g.exp, .int .i64 g.across, .int .i64 g.down, .int .i64 g.wide, .int .i64 g.high] 82)) 67 (.slice Ac nc cc)).alloc (.cells #[.bool false] 4)).cell
  have c2 := (Boxed.new ((w.alloc (.cells #[.bool g.re.neg, .string g.re.n, .int .i64 g.re.e, .bool g.im.neg, .string g.im.n, .int .i64 g.im.e, .int .i64 g.exp, .int .i64 g.across, .int .i64 g.down, .int .i64 g.wide, .int .i64 g.high] 82)).alloc (.cells #[.slice Ac nc cc] 67)) 4 (.bool false)).cell
  simp only [World.size_alloc] at c1 c2
  rw [← hW0] at c1 c2
  have hW' : Below W0.heap.size W0 W := hW
  exact ⟨g0.below hW' (by omega), (hW.cells (w.heap.size + 1) 0 (by omega)).trans c1, (hW.cells (w.heap.size + 1 + 1) 0 (by omega)).trans c2, (hW.thaw (w.heap.size + 1 + 1) 0 (by omega)).trans e0, by have := hW'.size; omega⟩

set_option maxRecDepth 100000 in
set_option maxHeartbeats 3200000 in
theorem seam_in (g : GrD) (Ac : Option Addr) (nc cc : Nat) (CL : List Wit) (w : World) (hg : g.ok) (hI : gridI g = 0) (h200 : gridA g * gridD g ≤ 200) (h2 : g.across * g.down ≤ 20000) (hn : 0 < nc) (hnc : nc ≤ cc) (hcm : cc ≤ maxLen) (hl : CL.length = nc) (hr : Row w Ac (witV CL)) (hok : ∀ x ∈ CL, x.ok) :
    Calls Try.prog 11 #[.agg #[.bool g.re.neg, .string g.re.n, .int .i64 g.re.e, .bool g.im.neg, .string g.im.n, .int .i64 g.im.e, .int .i64 g.exp, .int .i64 g.across, .int .i64 g.down, .int .i64 g.wide, .int .i64 g.high], .slice Ac nc cc] w fun e w' => e = .returned (.bool true) ∧ Kept w w' := by
  have CC : Hid (∀ W, Calls Try.prog 42 #[.agg #[.bool g.re.neg, .string g.re.n, .int .i64 g.re.e, .bool g.im.neg, .string g.im.n, .int .i64 g.im.e, .int .i64 g.exp, .int .i64 g.across, .int .i64 g.down, .int .i64 g.wide, .int .i64 g.high]] W fun e w' => e = .returned (.tuple #[.int .i64 (gridA g), .int .i64 (gridD g), .int .i64 0]) ∧ Kept W w') := fun W => by
    have := tcount_any g W hg
    rwa [show cntA g = gridA g by simp [cntA, hI], show cntD g = gridD g by simp [cntD, hI], hI] at this
  have CRS := hide (fun (W : World) => rects_any g W)
  have CAW := hide (fun (W : World) => awake_any W)
  obtain ⟨hB, hm⟩ := gridI_ok hI
  obtain ⟨ga0, ga1⟩ := hB.gA
  obtain ⟨gd0, gd1⟩ := hB.gD
  obtain ⟨a0, a1, d0, d1, w0, w1', h0, h1⟩ := id hB
  obtain ⟨W0, hW0⟩ : ∃ W0, W0 = ((w.alloc (.cells #[.bool g.re.neg, .string g.re.n, .int .i64 g.re.e, .bool g.im.neg, .string g.im.n, .int .i64 g.im.e, .int .i64 g.exp, .int .i64 g.across, .int .i64 g.down, .int .i64 g.wide, .int .i64 g.high] 82)).alloc (.cells #[.slice Ac nc cc] 67)).alloc (.cells #[.bool false] 4) := ⟨_, rfl⟩
  obtain ⟨sz0, k0, s0⟩ := seam_boxes g Ac nc cc w W0 hW0
  have K0 := hide k0
  have S0 := hide s0
  have t1 : decide (200 < gridA g * gridD g) = false := by simp; omega
  have t2 : decide (20000 < g.across * g.down) = false := by simp; omega
  have t3 : ((nc : Int) == 0) = false := by simp; omega
  have p1 : 0 ≤ gridA g * gridD g := Int.mul_nonneg (by omega) (by omega)
  have p2 : 0 ≤ g.across * g.down := Int.mul_nonneg (by omega) (by omega)
  have HG := hide hg
  have HI := hide hI
  have HL := hide hl
  have HR := hide hr
  have HOK := hide hok
  have HB := hide hB
  clear k0 s0 hg hI hl hr hok hB hm
  refine callsIn_wide.1 (callsIn_of_wp_marks (n := 5) Try.func11 rfl trivial ?_ rfl)
  simp only [Try.ntmps11, List.size_toArray, List.length_cons, List.length_nil, Nat.reduceAdd, Nat.reduceSub, Array.replicate_succ, Array.replicate_zero, List.push_toArray, List.append_toArray, List.nil_append, List.cons_append]
  refine wpIn_wide.2 ?_
  go_wp2_with fail
  rw [← hW0]
  clear hW0
  refine (CAW.out _).mono ?_
  rintro e w1 ⟨rfl, hk1⟩
  have K1 := hide (show Kept W0 w1 from hk1)
  obtain ⟨⟨q0, q1, q2, q3, q4, q5, q6, q7, q8, q9, q10⟩, c0, r0, r1, hlt1⟩ := S0.out w1 hk1
  clear hk1
  go_wp2_with fail
  refine (CC.out _).mono ?_
  rintro e w2 ⟨rfl, hk2⟩
  have K2 := hide (show Kept W0 w2 from K1.out.trans' hk2)
  clear hk2 q0 q1 q2 q3 q4 q5 q6 q7 q8 q9 q10 c0 r0 r1 hlt1
  obtain ⟨⟨q0, q1, q2, q3, q4, q5, q6, q7, q8, q9, q10⟩, c0, r0, r1, hlt1⟩ := S0.out w2 K2.out
  go_wp2_with fail
  refine (CRS.out _).mono ?_
  rintro e w3' ⟨rfl, rfl⟩
  have hf1 : ∀ W, (binOp .eql 89 (.func (.func 60) #[] #[.pointer (some ⟨w2.heap.size, 0, none⟩)]) .nilFunc).run Try.prog W = .ok (.bool false) W := fun W => by kernel_rfl
  obtain ⟨X, hX⟩ : ∃ X, X = w2.alloc (.cells #[.bool g.re.neg, .string g.re.n, .int .i64 g.re.e, .bool g.im.neg, .string g.im.n, .int .i64 g.im.e, .int .i64 g.exp, .int .i64 g.across, .int .i64 g.down, .int .i64 g.wide, .int .i64 g.high] 82) := ⟨_, rfl⟩
  have KX : Hid (Kept W0 X) := by rw [hX]; exact K2.out.trans ((Below.refl _ _).alloc (Nat.le_refl _) _ |>.mono K2.out.size)
  rw [← hX]
  clear hX q0 q1 q2 q3 q4 q5 q6 q7 q8 q9 q10 c0 r0 r1 hlt1
  obtain ⟨⟨q0, q1, q2, q3, q4, q5, q6, q7, q8, q9, q10⟩, c0, r0, r1, hlt1⟩ := S0.out X KX.out
  obtain ⟨Y0, hY0⟩ : ∃ Y, Y = ((X.alloc (.cells #[.slice none 0 0] 91)).alloc (.cells #[.slice none 0 0] 58)).alloc (.cells #[.int .i64 0] 3) := ⟨_, rfl⟩
  have kY0 : Kept X Y0 := by rw [hY0]; exact (((Below.refl _ _).alloc (Nat.le_refl _) _).alloc (by simp) _).alloc (by first | (simp; done) | (simp; omega)) _
  have zY0 : Y0.heap.size = X.heap.size + 3 := by rw [hY0]; simp
  have HBX : Hid (Y0.cell? ⟨X.heap.size, 0, none⟩ = some (.slice none 0 0) ∧ Y0.cell? ⟨X.heap.size + 1, 0, none⟩ = some (.slice none 0 0) ∧ Y0.cell? ⟨X.heap.size + 1 + 1, 0, none⟩ = some (.int .i64 0) ∧ Y0.frozen? ⟨X.heap.size, 0, none⟩ = false ∧ Y0.frozen? ⟨X.heap.size + 1, 0, none⟩ = false ∧ Y0.frozen? ⟨X.heap.size + 1 + 1, 0, none⟩ = false) := by
    have c0 := (((Boxed.new X 91 (.slice none 0 0)).alloc (.cells #[.slice none 0 0] 58)).alloc (.cells #[.int .i64 0] 3)).cell
    have c1 := ((Boxed.new (X.alloc (.cells #[.slice none 0 0] 91)) 58 (.slice none 0 0)).alloc (.cells #[.int .i64 0] 3)).cell
    have c2 := (Boxed.new ((X.alloc (.cells #[.slice none 0 0] 91)).alloc (.cells #[.slice none 0 0] 58)) 3 (.int .i64 0)).cell
    have e0 := fresh_frozen X #[.slice none 0 0] 91 0
    have e1 := fresh_frozen (X.alloc (.cells #[.slice none 0 0] 91)) #[.slice none 0 0] 58 0
    have e2 := fresh_frozen ((X.alloc (.cells #[.slice none 0 0] 91)).alloc (.cells #[.slice none 0 0] 58)) #[.int .i64 0] 3 0
    simp only [World.size_alloc] at c0 c1 c2 e1 e2
    rw [hY0]
    refine ⟨c0, c1, c2, ?_, ?_, e2⟩
    · exact ((((Below.refl (X.heap.size + 1) (X.alloc (.cells #[.slice none 0 0] 91))).alloc (by simp) _).alloc (by first | (simp; done) | (simp; omega)) _).frozen (p := ⟨X.heap.size, 0, none⟩) (by simp)).trans e0
    · exact (((Below.refl (X.heap.size + 1 + 1) ((X.alloc (.cells #[.slice none 0 0] 91)).alloc (.cells #[.slice none 0 0] 58))).alloc (by simp) _).frozen (p := ⟨X.heap.size + 1, 0, none⟩) (by simp)).trans e1
  have KY0 : Hid (Kept W0 Y0) := KX.out.trans' kY0
  go_upto_region 11 with fail
  rw [← hY0]
  have HK0 := hide kY0
  have ZY0 := hide zY0
  clear hY0 kY0 zY0 q0 q1 q2 q3 q4 q5 q6 q7 q8 q9 q10 c0 r0 r1 hlt1
  obtain ⟨⟨q0, q1, q2, q3, q4, q5, q6, q7, q8, q9, q10⟩, c0, r0, r1, hlt1⟩ := S0.out Y0 KY0.out
  clear c0 r0 r1
  go_wp2_with fail
  refine (CRS.out _).mono ?_
  rintro e w4' ⟨rfl, rfl⟩
  have hf2 : ∀ W, (binOp .eql 89 (.func (.func 60) #[] #[.pointer (some ⟨Y0.heap.size, 0, none⟩)]) .nilFunc).run Try.prog W = .ok (.bool false) W := fun W => by kernel_rfl
  obtain ⟨Y1, hY1⟩ : ∃ X, X = Y0.alloc (.cells #[.bool g.re.neg, .string g.re.n, .int .i64 g.re.e, .bool g.im.neg, .string g.im.n, .int .i64 g.im.e, .int .i64 g.exp, .int .i64 g.across, .int .i64 g.down, .int .i64 g.wide, .int .i64 g.high] 82) := ⟨_, rfl⟩
  have kY1 : Kept Y0 Y1 := by rw [hY1]; exact (Below.refl _ _).alloc (Nat.le_refl _) _
  have zY1 : Y1.heap.size = Y0.heap.size + 1 := by rw [hY1]; simp
  have KY1 : Hid (Kept W0 Y1) := KY0.out.trans' kY1
  rw [← hY1]
  have ZY1 := hide zY1
  have HK1 := hide kY1
  clear hY1 zY1 kY1 q0 q1 q2 q3 q4 q5 q6 q7 q8 q9 q10 hlt1
  obtain ⟨⟨q0, q1, q2, q3, q4, q5, q6, q7, q8, q9, q10⟩, c0, r0, r1, hlt1⟩ := S0.out Y1 KY1.out
  clear c0 r0 r1
  go_wp2_with fail
  refine (CRS.out _).mono ?_
  rintro e w4' ⟨rfl, rfl⟩
  obtain ⟨Y2, hY2⟩ : ∃ X, X = Y1.alloc (.cells #[.bool g.re.neg, .string g.re.n, .int .i64 g.re.e, .bool g.im.neg, .string g.im.n, .int .i64 g.im.e, .int .i64 g.exp, .int .i64 g.across, .int .i64 g.down, .int .i64 g.wide, .int .i64 g.high] 82) := ⟨_, rfl⟩
  have kY2 : Kept Y1 Y2 := by rw [hY2]; exact (Below.refl _ _).alloc (Nat.le_refl _) _
  have zY2 : Y2.heap.size = Y1.heap.size + 1 := by rw [hY2]; simp
  have KY2 : Hid (Kept W0 Y2) := KY1.out.trans' kY2
  have hG2 : GBox Y2 Y1.heap.size g := by rw [hY2]; exact GBox.new _ _ _ _ rfl
  go_wp2_with fail
  rw [← hY2]
  have ZY2 := hide zY2
  have HK2 := hide kY2
  clear hY2 zY2 kY2 q0 q1 q2 q3 q4 q5 q6 q7 q8 q9 q10 hlt1 hf1 hf2
  have HN := hide (show ((rectsN g : Nat) : Int) = gridA g * gridD g by
    have c1 : cntA g = gridA g := by simp [cntA, HI.out]
    have c2 : cntD g = gridD g := by simp [cntD, HI.out]
    unfold rectsN; rw [c1, c2]; exact Int.toNat_of_nonneg p1)
  have HB0 : Hid (SeamB X Y2 g X.heap.size (X.heap.size + 1) (X.heap.size + 1 + 1) Y2.heap.size 0 [] [] (.slice none 0 0) (.slice none 0 0) 0) := by
    have k02 : Kept Y0 Y2 := HK1.out.trans' HK2.out
    obtain ⟨b0, b1, b2, b3, b4, b5⟩ := HBX.out
    exact ⟨(k02.cells _ _ (lt_of_cell b0)).trans b0, (k02.cells _ _ (lt_of_cell b1)).trans b1, (k02.cells _ _ (lt_of_cell b2)).trans b2, (k02.thaw _ _ (lt_of_cell b0)).trans b3, (k02.thaw _ _ (lt_of_cell b1)).trans b4, (k02.thaw _ _ (lt_of_cell b2)).trans b5, SeamI.nil _ _ _, rfl, Nat.zero_le _, HK0.out.trans' k02, Nat.le_refl _⟩
  have HZ : Hid (Y2.heap.size = X.heap.size + 5 ∧ Y1.heap.size = X.heap.size + 4) := ⟨by have := ZY0.out; have := ZY1.out; have := ZY2.out; omega, by have := ZY0.out; have := ZY1.out; omega⟩
  have HRD : Hid (∀ k : Nat, k < rectsN g → 1 ≤ rectW g k ∧ 1 ≤ rectH g k ∧ 0 ≤ rectX g k ∧ rectX g k + rectW g k ≤ g.across ∧ 0 ≤ rectY g k ∧ rectY g k + rectH g k ≤ g.down ∧ rectW g k * rectH g k ≤ 20000) := fun k hk => by
    have hN := HN.out
    obtain ⟨r1, r2, r3, r4⟩ := rect_in HB.out (n := (k : Int)) (by omega) (by omega)
    have hx1 : rectX g k + 1 ≤ g.across := piece_pos w0 (Int.emod_lt_of_pos (k : Int) (show 0 < gridA g by omega))
    have hq : (k : Int) / gridA g < gridD g := Int.ediv_lt_of_lt_mul (by omega) (by rw [Int.mul_comm]; omega)
    have hy1 : rectY g k + 1 ≤ g.down := piece_pos h0 hq
    have hw1 : 1 ≤ rectW g k := by unfold rectW; omega
    have hh1 : 1 ≤ rectH g k := by unfold rectH; omega
    have : rectW g k * rectH g k ≤ g.across * g.down := Int.mul_le_mul (by omega) (by omega) (by omega) (by omega)
    exact ⟨hw1, hh1, r1, r2, r3, r4, by omega⟩
  have HSX : Hid (∀ W, Kept X W → GBox W w.heap.size g ∧ W.cell? ⟨w.heap.size + 1, 0, none⟩ = some (.slice Ac nc cc) ∧ W.cell? ⟨w.heap.size + 1 + 1, 0, none⟩ = some (.bool false) ∧ W.frozen? ⟨w.heap.size + 1 + 1, 0, none⟩ = false ∧ w.heap.size + 1 + 1 < W.heap.size) := fun W hW => S0.out W (KX.out.trans' hW)
  have HWX : Hid (Kept w X) := K0.out.trans' KX.out
  clear t1 t2 t3
  refine (wpIn_wide (n := 5)).1 (wpIn_rangeOffers (α := Nat) rfl (by decide) (gf := 60) (lb := #[.pointer (some ⟨Y1.heap.size, 0, none⟩)]) rfl trivial (enters_of Try.func60 (by kernel_rfl) rfl)
    (rects_offersK (BKeep Y1.heap.size) 4 (by omega) Y1.heap.size Y2.heap.size g (fun _ _ h hb => h.box hb) (fun _ _ h => h.1) HG.out Y2 (by have := HZ.out; omega) (Nat.le_refl _) hG2)
    (fun h k => h.trans k) (fun W l o o' _ h1 h2 _ => BKeep.putObj W l o o' h1 h2) (Below.refl _ _) (fun _ => rfl)
    (fun pre W => ∃ TS PS vt vp K, SeamB X W g X.heap.size (X.heap.size + 1) (X.heap.size + 1 + 1) Y2.heap.size pre.length TS PS vt vp K) (fun _ _ _ => False) ?hI (fun _ s A B row h _ _ => h.elim) ⟨[], [], _, _, 0, HB0.out⟩
    (fun k a' W => (∃ A c, W.cell? ⟨X.heap.size, 0, none⟩ = some (.slice A k c)) ∧ ∃ Bx, W.cell? ⟨Bx, 0, none⟩ = some (.int .i64 (rectX g k)) ∧ W.cell? ⟨Bx, 1, none⟩ = some (.int .i64 (rectY g k)) ∧ W.cell? ⟨Bx, 2, none⟩ = some (.int .i64 (rectW g k)) ∧ W.cell? ⟨Bx, 3, none⟩ = some (.int .i64 (rectH g k)) ∧ a' = { tmps := #[.agg #[.bool g.re.neg, .string g.re.n, .int .i64 g.re.e, .bool g.im.neg, .string g.im.n, .int .i64 g.im.e, .int .i64 g.exp, .int .i64 g.across, .int .i64 g.down, .int .i64 g.wide, .int .i64 g.high], .slice Ac nc cc, .pointer (some ⟨w.heap.size, 0, none⟩), .pointer (some ⟨w.heap.size + 1, 0, none⟩), .pointer (some ⟨w.heap.size + 1 + 1, 0, none⟩), .int .i64 (gridA g), .int .i64 (gridD g), .int .i64 (0), .pointer (some ⟨X.heap.size, 0, none⟩), .pointer (some ⟨X.heap.size + 1, 0, none⟩), .pointer (some ⟨X.heap.size + 1 + 1, 0, none⟩), undef, .pointer (some ⟨Bx, 0, none⟩), undef, undef, undef, undef, undef, undef, undef, undef, undef, undef, undef, .bool true, .bool false, .tuple #[.int .i64 (gridA g), .int .i64 (gridD g), .int .i64 (0)], .agg #[.bool g.re.neg, .string g.re.n, .int .i64 g.re.e, .bool g.im.neg, .string g.im.n, .int .i64 g.im.e, .int .i64 g.exp, .int .i64 g.across, .int .i64 g.down, .int .i64 g.wide, .int .i64 g.high], .tuple #[.int .i64 (gridA g), .int .i64 (gridD g), .int .i64 (0)], .int .i64 (gridA g), .int .i64 (gridD g), .int .i64 (0), .int .i64 (0), .bool false, .bool false, .int .i64 (gridA g), .int .i64 (gridD g), .int .i64 (gridA g * gridD g), .bool false, .bool false, .bool false, .pointer (some ⟨w.heap.size, 0, none⟩), .pointer (some ⟨w.heap.size, 7, none⟩), .int .i64 (g.across), .pointer (some ⟨w.heap.size, 0, none⟩), .pointer (some ⟨w.heap.size, 8, none⟩), .int .i64 (g.down), .int .i64 (g.across * g.down), .bool false, .bool false, .bool false, .slice Ac nc cc, .int .i64 ((nc : Int)), .bool false, .bool false, undef, .agg #[.bool g.re.neg, .string g.re.n, .int .i64 g.re.e, .bool g.im.neg, .string g.im.n, .int .i64 g.im.e, .int .i64 g.exp, .int .i64 g.across, .int .i64 g.down, .int .i64 g.wide, .int .i64 g.high], .func (.func 60) #[] #[.pointer (some ⟨w2.heap.size, 0, none⟩)], .bool false, .agg #[.bool g.re.neg, .string g.re.n, .int .i64 g.re.e, .bool g.im.neg, .string g.im.n, .int .i64 g.im.e, .int .i64 g.exp, .int .i64 g.across, .int .i64 g.down, .int .i64 g.wide, .int .i64 g.high], .func (.func 60) #[] #[.pointer (some ⟨Y0.heap.size, 0, none⟩)], .bool false, .agg #[.bool g.re.neg, .string g.re.n, .int .i64 g.re.e, .bool g.im.neg, .string g.im.n, .int .i64 g.im.e, .int .i64 g.exp, .int .i64 g.across, .int .i64 g.down, .int .i64 g.wide, .int .i64 g.high], .func (.func 60) #[] #[.pointer (some ⟨Y1.heap.size, 0, none⟩)], .int .i64 ((k : Nat)), .agg #[.int .i64 (rectX g k), .int .i64 (rectY g k), .int .i64 (rectW g k), .int .i64 (rectH g k)], undef, undef, undef, undef, undef, undef, undef, undef, undef, undef, undef, undef, undef, undef, undef, undef, undef, undef, undef, undef, undef, undef, undef, undef, undef, undef, undef, undef, undef, undef, undef, undef, undef, undef, undef, undef, undef, undef, undef, undef, undef, undef, undef, undef, undef, undef, undef, undef, undef, undef, undef, undef, undef, undef, undef, undef, undef, undef, undef, undef, undef, undef, undef, undef, undef, undef, undef, undef, undef, undef, undef, undef, undef, undef, undef, undef, undef, undef, undef, undef, undef, undef, undef, undef, undef, undef, undef, undef, undef, undef, undef, undef, undef, undef, undef, undef, undef, undef, undef, undef, undef, undef], defers := [] })
    ?hAx ?assign ?body ?done (fun D c pre W _ _ h _ => h.elim))
  case hI =>
    rintro pre W W' row ⟨TS, PS, vt, vp, K, h⟩ hg hr
    exact ⟨TS, PS, vt, vp, K, h.stable (Nat.le_refl _) (by have := HZ.out; omega) hg hr⟩
  case hAx =>
    rintro k a' _ W W' row ⟨⟨A, c, hA⟩, Bx, b0, b1, b2, b3, ha⟩ hg hr
    have hr' : ∀ r, row = some r → ∃ o : Obj, W.heap[r]? = some o ∧ o.isCells = false := fun r e => (hr r e).2
    exact ⟨⟨A, c, cell_kept hA hg hr'⟩, Bx, cell_kept b0 hg hr', cell_kept b1 hg hr', cell_kept b2 hg hr', cell_kept b3 hg hr', ha⟩
  case assign =>
    rintro l pre k W K2 ⟨TS, PS, vt, vp, K, h⟩ hk hK2
    have hk : k = pre.length := hk
    subst hk
    obtain ⟨A, c, hv, -⟩ := h.own.ot.form
    rw [h.len] at hv
    have hB := h.stable (Nat.le_refl _) (by have := HZ.out; omega) (World.grownBy_alloc W (.cells #[.int .i64 (rectX g pre.length), .int .i64 (rectY g pre.length), .int .i64 (rectW g pre.length), .int .i64 (rectH g pre.length)] 66) none) (fun r e => by cases e)
    have HH := hide (And.intro h (And.intro hv hB))
    clear h hv hB
    simp only [encR]
    gi_wp2
    refine hK2 _ _ ((KeepsOthers.alloc _ _).from _) (BKeep.of_kept ((Below.refl _ W).alloc (Nat.le_refl _) _)) ⟨TS, PS, vt, vp, K, HH.out.2.2⟩ ⟨⟨A, c, by rw [← HH.out.2.1]; exact HH.out.2.2.ct⟩, W.heap.size, by simp, by simp, by simp, by simp, rfl⟩
  case body =>
    rintro l pre k a' W hl hrec ⟨TS, PS, vt, vp, K, h⟩ ⟨⟨Aa, c, hA⟩, Bx, b0, b1, b2, b3, rfl⟩ hlt
    have hk : k = pre.length := by
      obtain ⟨A, c', hv, -⟩ := h.own.ot.form
      have h9 := h.ct
      rw [hv, h.len, hA] at h9
      injection h9 with h9
      injection h9 with _ h9 _
    subst hk
    obtain ⟨r1, r2, r3, r4, r5, r6, r7⟩ := HRD.out _ hlt
    have hN := HN.out
    refine wpIn_mono (seam_round1 (Ac := Ac) (nc := nc) (cc := cc) (CL := CL) (Bc := w.heap.size + 1) (Bs := Y1.heap.size) rfl h (by omega) ⟨rfl, rfl, rfl, rfl⟩ (by
        have e9 : (((rectW g pre.length * rectH g pre.length).toNat : Nat) : Int) = rectW g pre.length * rectH g pre.length := Int.toNat_of_nonneg (Int.mul_nonneg (by omega) (by omega))
        simp [tileB, rightB, r3, r5]; omega) b0 b1 b2 b3 (by omega) (by omega) (by have := HZ.out; omega) (by have := HZ.out; omega) rfl (HSX.out X (Below.refl _ _)).2.1 (HR.out.kept HWX.out) HL.out hn hnc hcm HOK.out (by omega) (by omega)) ?_
    rintro e a3 W3 hp
    cases e with
    | normal =>
      obtain ⟨hkf, hbk, TS', PS', vt', vp', K', hS'⟩ := hp
      exact ⟨hkf, hbk, TS', PS', vt', vp', K', by rw [List.length_append]; exact hS'⟩
    | ret => exact hp.elim
    | exit id => exact hp.elim
    | goto t => exact hp.elim
    | panic ch => exact hp.elim
    | outgrown => exact hp.elim
  case done =>
    rintro D xs W hD hxs ⟨TS, PS, vt, vp, K, h⟩ hDef
    have hxs : xs = List.range (rectsN g) := hxs
    rw [hxs, List.length_range] at h
    have hTN : TS.length = rectsN g := h.len
    have hND : (TS.length : Int) = gridA g * gridD g := by rw [hTN]; exact HN.out
    have hs : sizeB g.across g.down = true := (sizeB_iff _ _).2 ⟨a0, d0, by omega, (Int.le_ediv_iff_mul_le (by omega)).2 (by rw [Int.mul_comm]; omega)⟩
    have SAT := hide (h.own.at_ HI.out hs hND)
    obtain ⟨M, hM⟩ : ∃ M, M = (g.across * g.down).toNat := ⟨_, rfl⟩
    have hJl : (joinT g (TS.map (·.T))).c.length = M := by
      show (joinC g (TS.map (·.T)) (TS.map (·.T)).length 0).length = M
      rw [joinC_length, hM]
    have hMn : M ≤ 20000 := by omega
    have CJ := hide (seam_join h.own HG.out HI.out HB.out (by omega) rfl hND hM)
    have KW : Hid (Kept X W) := h.low
    obtain ⟨Ap, cp, hvp, -, hPs⟩ := h.own.pics
    subst hvp
    have HPS := hide hPs
    have hPL : PS.length = rectsN g := by
      have := congrArg List.length h.own.pic
      rw [List.length_map, List.length_map] at this
      omega
    have hct := h.ct
    have hcpp := h.cp
    have HH := hide h
    have hXW : X.heap.size + 2 < W.heap.size := lt_of_cell h.ck
    obtain ⟨⟨q0, q1, q2, q3, q4, q5, q6, q7, q8, q9, q10⟩, cc0, r0, r1, hlt1⟩ := HSX.out W KW.out
    have HJL := hide hJl
    have HDEF := hide hDef
    have HTN := hide hTN
    have HPLn := hide hPL
    have HNI := HN.out
    clear h hs hND hM hJl hDef hTN hPL cc0 r0 r1 hlt1 hxs hPs
    go_wp2_with fail
    refine CJ.out.mono ?_
    rintro e w5 ⟨A5, c5, rfl, hT5, hk5⟩
    have HT5 := hide hT5
    have K5 := hide hk5
    obtain ⟨Z5, hZ5⟩ : ∃ Z, Z = w5.alloc (.cells #[.int .i64 0, .int .i64 0, .int .i64 g.across, .int .i64 g.down, .slice A5 M c5] 69) := ⟨_, rfl⟩
    have kZ5 : Kept w5 Z5 := by rw [hZ5]; exact (Below.refl _ _).alloc (Nat.le_refl _) _
    have HB5 : Hid (LBox Z5 w5.heap.size 0 0 g.across g.down A5 M c5) := by
      show LBox _ _ _ _ _ _ _ _ _
      rw [hZ5]; exact LBox.new _ _ _ _ _ _ _ _ _ _ rfl
    have KZ5 : Hid (Kept W Z5) := hk5.trans' kZ5
    have CO := hide (seam_of SAT.out HB.out (hT5.kept kZ5))
    clear hct hcpp q0 q1 q2 q3 q4 q5 q6 q7 q8 q9 q10 hT5 hk5 kZ5
    go_upto_region 28 with fail
    rw [← hZ5]
    clear hZ5
    obtain ⟨l0, l1, l2, l3, l4⟩ := HB5.out
    have hl5 := HB5.out.lt
    go_wp2_with fail
    refine CO.out.mono ?_
    rintro e w6 ⟨A6, c6, rfl, hP6, hk6⟩
    have HP6 := hide hP6
    have K6 : Hid (Kept W w6) := KZ5.out.trans' hk6
    obtain ⟨Z6, hZ6⟩ : ∃ Z, Z = w6.alloc (.cells #[.int .i64 g.across, .int .i64 g.down, .slice A6 M c6] 24) := ⟨_, rfl⟩
    have kZ6 : Kept w6 Z6 := by rw [hZ6]; exact (Below.refl _ _).alloc (Nat.le_refl _) _
    have HB6 : Hid (PBox Z6 w6.heap.size (.int .i64 g.across) (.int .i64 g.down) (.slice A6 M c6)) := by
      show PBox _ _ _ _ _
      rw [hZ6]; exact PBox.new _ _ _ _ _ _ rfl
    have KZ6 : Hid (Kept W Z6) := K6.out.trans' kZ6
    have HP6' := hide (hP6.kept kZ6)
    have CSH := hide (seam_sheetc (HH.out.own.kept KZ6.out) HG.out HB.out SAT.out (by have := HTN.out; omega) HJL.out)
    clear l0 l1 l2 l3 l4 hl5 hP6 hk6 kZ6
    go_upto_region 29 with fail
    rw [← hZ6]
    clear hZ6
    obtain ⟨⟨q0, q1, q2, q3, q4, q5, q6, q7, q8, q9, q10⟩, cc0, r0, r1, hlt1⟩ := HSX.out Z6 (KW.out.trans' KZ6.out)
    have hcpp := (KZ6.out.cells _ _ (lt_of_cell HH.out.cp)).trans HH.out.cp
    go_wp2_with fail
    refine CSH.out.mono ?_
    rintro e w7 ⟨A7, c7, rfl, hP7, hk7⟩
    have HP7 := hide hP7
    have K7 : Hid (Kept W w7) := KZ6.out.trans' hk7
    obtain ⟨Z7, hZ7⟩ : ∃ Z, Z = w7.alloc (.cells #[.int .i64 g.across, .int .i64 g.down, .slice A7 M c7] 24) := ⟨_, rfl⟩
    have kZ7 : Kept w7 Z7 := by rw [hZ7]; exact (Below.refl _ _).alloc (Nat.le_refl _) _
    have HB7 : Hid (PBox Z7 w7.heap.size (.int .i64 g.across) (.int .i64 g.down) (.slice A7 M c7)) := by
      show PBox _ _ _ _ _
      rw [hZ7]; exact PBox.new _ _ _ _ _ _ rfl
    have KZ7 : Hid (Kept W Z7) := K7.out.trans' kZ7
    have HB67 : Hid (PBox Z7 w6.heap.size (.int .i64 g.across) (.int .i64 g.down) (.slice A6 M c6)) := (HB6.out.kept hk7).kept kZ7
    have HPA : Hid (∀ Z, Kept Z7 Z → PicAt Z (joinT g (TS.map (·.T))).pic A6 M c6) := fun Z hZ => ((HP6'.out.kept hk7).kept kZ7).kept hZ
    have CS : Hid (Calls Try.prog 21 #[.agg #[.int .i64 g.across, .int .i64 g.down, .slice A6 M c6], .agg #[.int .i64 g.across, .int .i64 g.down, .slice A7 M c7]] Z7 fun e w' => e = .returned (.bool true) ∧ Kept Z7 w') := by
      have h6 := HPA.out Z7 (Below.refl _ _)
      have h7 := HP7.out.kept kZ7
      have := same_any g.across g.down g.across g.down A6 A7 M c6 M c7 (joinT g (TS.map (·.T))).pic.g (joinT g (TS.map (·.T))).pic.g Z7 (by omega) h6.len h7.len h6.row h7.row
      rwa [show sameB g.across g.down g.across g.down (joinT g (TS.map (·.T))).pic.g (joinT g (TS.map (·.T))).pic.g = true by simp [sameB]] at this
    clear hP7 hk7 kZ7 q0 q1 q2 q3 q4 q5 q6 q7 q8 q9 q10 cc0 r0 r1 hlt1 hcpp
    go_upto_region 30 with fail
    rw [← hZ7]
    clear hZ7
    have u0 := HB67.out.c0
    have u1 := HB67.out.c1
    have u2 := HB67.out.c2
    have u3 := HB7.out.c0
    have u4 := HB7.out.c1
    have u5 := HB7.out.c2
    have ul := HB67.out.lt
    have ul2 := HB7.out.lt
    go_wp2_with fail
    refine CS.out.mono ?_
    rintro e w8 ⟨rfl, hk8⟩
    have K8 : Hid (Kept Z7 w8) := hk8
    clear u0 u1 u2 u3 u4 u5 ul ul2 hk8
    obtain ⟨⟨q0, q1, q2, q3, q4, q5, q6, q7, q8, q9, q10⟩, cc0, r0, r1, hlt1⟩ := HSX.out w8 (KW.out.trans' (KZ7.out.trans' K8.out))
    clear cc0 r0 r1
    go_wp2_with fail
    refine (CRS.out _).mono ?_
    rintro e w4' ⟨rfl, rfl⟩
    have hf3 : ∀ W, (binOp .eql 89 (.func (.func 60) #[] #[.pointer (some ⟨w8.heap.size, 0, none⟩)]) .nilFunc).run Try.prog W = .ok (.bool false) W := fun W => by kernel_rfl
    obtain ⟨V1, hV1⟩ : ∃ X, X = w8.alloc (.cells #[.bool g.re.neg, .string g.re.n, .int .i64 g.re.e, .bool g.im.neg, .string g.im.n, .int .i64 g.im.e, .int .i64 g.exp, .int .i64 g.across, .int .i64 g.down, .int .i64 g.wide, .int .i64 g.high] 82) := ⟨_, rfl⟩
    have kV1 : Kept w8 V1 := by rw [hV1]; exact (Below.refl _ _).alloc (Nat.le_refl _) _
    have KV1 : Hid (Kept Z7 V1) := K8.out.trans' kV1
    rw [← hV1]
    clear hV1 kV1 q0 q1 q2 q3 q4 q5 q6 q7 q8 q9 q10 hlt1
    obtain ⟨⟨q0, q1, q2, q3, q4, q5, q6, q7, q8, q9, q10⟩, cc0, r0, r1, hlt1⟩ := HSX.out V1 (KW.out.trans' (KZ7.out.trans' KV1.out))
    clear cc0 r0 r1
    go_wp2_with fail
    refine (CRS.out _).mono ?_
    rintro e w4' ⟨rfl, rfl⟩
    obtain ⟨V2, hV2⟩ : ∃ X, X = V1.alloc (.cells #[.bool g.re.neg, .string g.re.n, .int .i64 g.re.e, .bool g.im.neg, .string g.im.n, .int .i64 g.im.e, .int .i64 g.exp, .int .i64 g.across, .int .i64 g.down, .int .i64 g.wide, .int .i64 g.high] 82) := ⟨_, rfl⟩
    have kV2 : Kept V1 V2 := by rw [hV2]; exact (Below.refl _ _).alloc (Nat.le_refl _) _
    have ZV2 := hide (show V2.heap.size = V1.heap.size + 1 by rw [hV2]; simp)
    have KV2 : Hid (Kept Z7 V2) := KV1.out.trans' kV2
    have hG3 : GBox V2 V1.heap.size g := by rw [hV2]; exact GBox.new _ _ _ _ rfl
    go_wp2_with fail
    rw [← hV2]
    clear hV2 kV2 q0 q1 q2 q3 q4 q5 q6 q7 q8 q9 q10 hlt1 hf3
    have HZV := hide (KV2.out.size)
    refine (wpIn_wide (n := 5)).1 (wpIn_rangeFunc_ownH (α := Fin (rectsN g)) rfl (by decide) (gf := 60) (lb := #[.pointer (some ⟨V1.heap.size, 0, none⟩)]) rfl trivial (enters_of Try.func60 (by kernel_rfl) rfl)
      (rects_stopsF 4 (by omega) V1.heap.size V2.heap.size g HG.out V2 (by have := ZV2.out; omega) (Nat.le_refl _) hG3) belowK_t (belowK_b (Nat.le_refl _)) (Below.refl _ _) (fun _ => rfl)
      (fun _ W' => Below V2.heap.size V2 W') (fun _ _ _ => False) (ownFrom_below (Nat.le_refl _) (Nat.le_refl _)) (fun _ s A B row h _ _ => h.elim) (Below.refl _ _)
      (fun k a' W' => ∃ Bx, W'.cell? ⟨Bx, 0, none⟩ = some (.int .i64 (rectX g k.val)) ∧ W'.cell? ⟨Bx, 1, none⟩ = some (.int .i64 (rectY g k.val)) ∧ W'.cell? ⟨Bx, 2, none⟩ = some (.int .i64 (rectW g k.val)) ∧ W'.cell? ⟨Bx, 3, none⟩ = some (.int .i64 (rectH g k.val)) ∧ a' = { tmps := #[.agg #[.bool g.re.neg, .string g.re.n, .int .i64 g.re.e, .bool g.im.neg, .string g.im.n, .int .i64 g.im.e, .int .i64 g.exp, .int .i64 g.across, .int .i64 g.down, .int .i64 g.wide, .int .i64 g.high], .slice Ac nc cc, .pointer (some ⟨w.heap.size, 0, none⟩), .pointer (some ⟨w.heap.size + 1, 0, none⟩), .pointer (some ⟨w.heap.size + 1 + 1, 0, none⟩), .int .i64 (gridA g), .int .i64 (gridD g), .int .i64 (0), .pointer (some ⟨X.heap.size, 0, none⟩), .pointer (some ⟨X.heap.size + 1, 0, none⟩), .pointer (some ⟨X.heap.size + 1 + 1, 0, none⟩), undef, undef, undef, undef, undef, .pointer (some ⟨w5.heap.size, 0, none⟩), .pointer (some ⟨w6.heap.size, 0, none⟩), .pointer (some ⟨w7.heap.size, 0, none⟩), .int .i64 (0), .int .i64 ((k.val : Nat)), .pointer (some ⟨Bx, 0, none⟩), undef, undef, .bool true, .bool false, .tuple #[.int .i64 (gridA g), .int .i64 (gridD g), .int .i64 (0)], .agg #[.bool g.re.neg, .string g.re.n, .int .i64 g.re.e, .bool g.im.neg, .string g.im.n, .int .i64 g.im.e, .int .i64 g.exp, .int .i64 g.across, .int .i64 g.down, .int .i64 g.wide, .int .i64 g.high], .tuple #[.int .i64 (gridA g), .int .i64 (gridD g), .int .i64 (0)], .int .i64 (gridA g), .int .i64 (gridD g), .int .i64 (0), .int .i64 (0), .bool false, .bool false, .int .i64 (gridA g), .int .i64 (gridD g), .int .i64 (gridA g * gridD g), .bool false, .bool false, .bool false, .pointer (some ⟨w.heap.size, 0, none⟩), .pointer (some ⟨w.heap.size, 7, none⟩), .int .i64 (g.across), .pointer (some ⟨w.heap.size, 0, none⟩), .pointer (some ⟨w.heap.size, 8, none⟩), .int .i64 (g.down), .int .i64 (g.across * g.down), .bool false, .bool false, .bool false, .slice Ac nc cc, .int .i64 ((nc : Int)), .bool false, .bool false, undef, .agg #[.bool g.re.neg, .string g.re.n, .int .i64 g.re.e, .bool g.im.neg, .string g.im.n, .int .i64 g.im.e, .int .i64 g.exp, .int .i64 g.across, .int .i64 g.down, .int .i64 g.wide, .int .i64 g.high], .func (.func 60) #[] #[.pointer (some ⟨w2.heap.size, 0, none⟩)], .bool false, .agg #[.bool g.re.neg, .string g.re.n, .int .i64 g.re.e, .bool g.im.neg, .string g.im.n, .int .i64 g.im.e, .int .i64 g.exp, .int .i64 g.across, .int .i64 g.down, .int .i64 g.wide, .int .i64 g.high], .func (.func 60) #[] #[.pointer (some ⟨Y0.heap.size, 0, none⟩)], .bool false, .agg #[.bool g.re.neg, .string g.re.n, .int .i64 g.re.e, .bool g.im.neg, .string g.im.n, .int .i64 g.im.e, .int .i64 g.exp, .int .i64 g.across, .int .i64 g.down, .int .i64 g.wide, .int .i64 g.high], .func (.func 60) #[] #[.pointer (some ⟨Y1.heap.size, 0, none⟩)], undef, undef, undef, undef, undef, undef, undef, undef, undef, undef, undef, undef, undef, undef, undef, undef, undef, undef, undef, undef, undef, undef, undef, undef, undef, undef, undef, undef, undef, undef, undef, undef, undef, undef, undef, undef, undef, undef, undef, undef, undef, .tuple #[.agg #[.int .i64 0, .int .i64 0, .int .i64 g.across, .int .i64 g.down, .slice A5 M c5], .int .i64 0], .agg #[.bool g.re.neg, .string g.re.n, .int .i64 g.re.e, .bool g.im.neg, .string g.im.n, .int .i64 g.im.e, .int .i64 g.exp, .int .i64 g.across, .int .i64 g.down, .int .i64 g.wide, .int .i64 g.high], vt, .tuple #[.agg #[.int .i64 0, .int .i64 0, .int .i64 g.across, .int .i64 g.down, .slice A5 M c5], .int .i64 0], .agg #[.int .i64 0, .int .i64 0, .int .i64 g.across, .int .i64 g.down, .slice A5 M c5], .int .i64 (0), .int .i64 (0), .bool false, .tuple #[.agg #[.int .i64 g.across, .int .i64 g.down, .slice A6 M c6], .int .i64 0], .agg #[.int .i64 0, .int .i64 0, .int .i64 g.across, .int .i64 g.down, .slice A5 M c5], .tuple #[.agg #[.int .i64 g.across, .int .i64 g.down, .slice A6 M c6], .int .i64 0], .agg #[.int .i64 g.across, .int .i64 g.down, .slice A6 M c6], .int .i64 (0), .tuple #[.agg #[.int .i64 g.across, .int .i64 g.down, .slice A7 M c7], .int .i64 0], .agg #[.bool g.re.neg, .string g.re.n, .int .i64 g.re.e, .bool g.im.neg, .string g.im.n, .int .i64 g.im.e, .int .i64 g.exp, .int .i64 g.across, .int .i64 g.down, .int .i64 g.wide, .int .i64 g.high], .slice Ap PS.length cp, .tuple #[.agg #[.int .i64 g.across, .int .i64 g.down, .slice A7 M c7], .int .i64 0], .agg #[.int .i64 g.across, .int .i64 g.down, .slice A7 M c7], .int .i64 (0), .int .i64 (0), .bool false, .bool false, .int .i64 (0), .bool false, .bool false, .bool false, .agg #[.int .i64 g.across, .int .i64 g.down, .slice A6 M c6], .agg #[.int .i64 g.across, .int .i64 g.down, .slice A7 M c7], .bool true, .bool false, .bool false, .agg #[.bool g.re.neg, .string g.re.n, .int .i64 g.re.e, .bool g.im.neg, .string g.im.n, .int .i64 g.im.e, .int .i64 g.exp, .int .i64 g.across, .int .i64 g.down, .int .i64 g.wide, .int .i64 g.high], .func (.func 60) #[] #[.pointer (some ⟨w8.heap.size, 0, none⟩)], .bool false, .agg #[.bool g.re.neg, .string g.re.n, .int .i64 g.re.e, .bool g.im.neg, .string g.im.n, .int .i64 g.im.e, .int .i64 g.exp, .int .i64 g.across, .int .i64 g.down, .int .i64 g.wide, .int .i64 g.high], .func (.func 60) #[] #[.pointer (some ⟨V1.heap.size, 0, none⟩)], .int .i64 ((k.val : Nat)), .agg #[.int .i64 (rectX g k.val), .int .i64 (rectY g k.val), .int .i64 (rectW g k.val), .int .i64 (rectH g k.val)], undef, undef, undef, undef, undef, undef, undef, undef, undef, undef, undef, undef, undef, undef, undef, undef, undef, undef, undef, undef, undef, undef, undef, undef, undef], defers := [] })
      ?hAx2 ?assign2 ?body2 ?done2 (fun D c pre W _ _ h _ => h.elim))
    case hAx2 =>
      rintro k a' _ W' W'' row ⟨Bx, b0, b1, b2, b3, ha⟩ hg hr
      have hr' : ∀ r, row = some r → ∃ o : Obj, W'.heap[r]? = some o ∧ o.isCells = false := fun r e => (hr r e).2
      exact ⟨Bx, cell_kept b0 hg hr', cell_kept b1 hg hr', cell_kept b2 hg hr', cell_kept b3 hg hr', ha⟩
    case assign2 =>
      rintro l pre ⟨k, hkN⟩ W' K2 hB hK2
      have HBl := hide hB
      clear hB
      simp only [encR]
      gi_wp2
      refine hK2 _ _ ((KeepsOthers.alloc _ _).from _) ((Below.refl _ W').alloc HBl.out.size _) (HBl.out.alloc HBl.out.size _) ⟨W'.heap.size, by simp, by simp, by simp, by simp, rfl⟩
    case body2 =>
      rintro l pre ⟨k, hkN⟩ a' W' hl hrec hB ⟨Bx, b0, b1, b2, b3, rfl⟩ hlt
      obtain ⟨r1, r2, r3, r4, r5, r6, r7⟩ := HRD.out k hkN
      dsimp only at b0 b1 b2 b3
      have kv : Kept V2 W' := hB
      have k7 : Kept Z7 W' := KV2.out.trans' kv
      have kW : Kept W W' := KZ7.out.trans' k7
      have hb6 := HB67.out.kept k7
      obtain ⟨t, ht⟩ : ∃ t, TS[k]? = some t := ⟨_, List.getElem?_eq_getElem (by have := HTN.out; omega)⟩
      have hT : (TS.map (·.T))[k]? = some t.T := by rw [List.getElem?_map, ht]; rfl
      obtain ⟨c1, c2⟩ := SAT.out.crop hT
      have hp : (PS.map (·.P))[k]? = some t.T.pic := by
        rw [HH.out.own.pic, List.getElem?_map, ht]; rfl
      have hgl : t.T.pic.g.length ≤ 4194304 := by
        obtain ⟨-, -, e3⟩ := SAT.out.each k t.T hT
        have : t.T.pic.g.length = t.T.c.length := by simp [TilD.pic, shades]
        omega
      refine wpIn_mono (seam_round2 (base := V2.heap.size) (P := (joinT g (TS.map (·.T))).pic) rfl hb6.c0 hb6.c1 hb6.c2 (HPA.out W' k7) ((kW.cells _ _ (lt_of_cell HH.out.cp)).trans HH.out.cp) (HPS.out.kept kW) hp (by have := HPLn.out; omega) b0 b1 b2 b3 (by omega) (by omega) (by omega) (by omega) c1 c2 hgl) ?_
      rintro e a3 W3 hp
      cases e with
      | normal =>
        obtain ⟨hkf, hkk⟩ := hp
        exact ⟨hkf, (show Below W'.heap.size W' W3 from hkk).mono hB.size, hB.trans ((show Below W'.heap.size W' W3 from hkk).mono hB.size)⟩
      | ret => exact hp.elim
      | exit id => exact hp.elim
      | goto t => exact hp.elim
      | panic ch => exact hp.elim
      | outgrown => exact hp.elim
    case done2 =>
      rintro D2 ys W9 hD2 hys hB9 hDef2
      have K9 : Hid (Kept V2 W9) := hB9
      have HD2 := hide hDef2
      have HKX9 : Hid (Kept X W9) := KW.out.trans' (KZ7.out.trans' (KV2.out.trans' K9.out))
      have HDD : Hid (D < V2.heap.size ∧ W9.heap[D]? = some (.deferred (some []))) := by
        have hlt := (Array.getElem?_eq_some_iff.1 HDEF.out).1
        have kWV : Kept W V2 := KZ7.out.trans' KV2.out
        have kWW : Kept W W9 := kWV.trans' K9.out
        exact ⟨Nat.lt_of_lt_of_le hlt kWV.size, (kWW.block D hlt).trans HDEF.out⟩
      clear hB9 hys hDef2
      go_wp2_with fail
      refine (CAW.out _).mono ?_
      rintro e w10 ⟨rfl, hk10⟩
      have HK10 := hide hk10
      obtain ⟨-, -, r0, r1, hlt1⟩ := HSX.out w10 (HKX9.out.trans' hk10)
      have hDF : Defs Y2.heap.size w10 [{ target := .collected D2, args := #[] }, { target := .collected D, args := #[] }] := by
        have hlt2 := (Array.getElem?_eq_some_iff.1 HD2.out).1
        have hlt := (Array.getElem?_eq_some_iff.1 HDD.out.2).1
        have hW2 : Y2.heap.size ≤ V2.heap.size := Nat.le_trans HH.out.bs (KZ7.out.trans' KV2.out).size
        refine ⟨D2, rfl, by omega, (hk10.block D2 hlt2).trans HD2.out, ?_, ⟨D, rfl, hD, (hk10.block D hlt).trans HDD.out.2, by simp, trivial⟩⟩
        intro hm
        simp at hm
        have := HDD.out.1
        omega
      have HDF := hide hDF
      have HE : Hid ((w10.setCell ⟨w.heap.size + 1 + 1, 0, none⟩ (.bool true)).cell? ⟨w.heap.size + 1 + 1, 0, none⟩ = some (.bool true)) := World.cell?_setCell_same _ _ _ r0
      have HKE : Hid (Kept w (w10.setCell ⟨w.heap.size + 1 + 1, 0, none⟩ (.bool true))) := (HWX.out.trans' (HKX9.out.trans' hk10)).setCell (by simp; omega) _
      have hwY : w.heap.size ≤ Y2.heap.size := by have := HZ.out; have := HWX.out.size; omega
      have hsY : Y2.heap.size ≤ w10.heap.size := Nat.le_trans HH.out.bs ((KZ7.out.trans' KV2.out).trans' (K9.out.trans' hk10)).size
      clear hk10 hDF
      go_wp2_with fail
      refine leaves_defs (lo := Y2.heap.size) _ _ (HDF.out.keeps fun k o h hc => (KeepsOthers.setCell w10 _ _).same k o h hc) (fun W' hb hcc => ?_) (by simpa [World.setCell] using hsY)
      have h9 := (hcc (w.heap.size + 1 + 1) 0 ⟨_, HE.out⟩).trans HE.out
      exact ⟨.bool true, by simp [results, Try.f11, go_sem, h9], rfl, HKE.out.trans (hb.mono hwY)⟩
end Go.Proofs.Ytbhgcbgaadnfpaa
