/- The law PictureSheets, walked. -/
import Derived.Test.YtbhgcbgaadnfpaaSheetL
namespace Go.Proofs.Ytbhgcbgaadnfpaa
open Go.RowKit

set_option maxRecDepth 100000 in
set_option maxHeartbeats 400000 in
theorem sheets_long (g : GrD) (A : Option Addr) (L c : Nat) (w : World) (hL : 400 < L) :
    Calls Try.prog 10 #[.agg #[.bool g.re.neg, .string g.re.n, .int .i64 g.re.e, .bool g.im.neg, .string g.im.n, .int .i64 g.im.e, .int .i64 g.exp, .int .i64 g.across, .int .i64 g.down, .int .i64 g.wide, .int .i64 g.high], .slice A L c] w fun e w' => e = .returned (.bool true) ∧ Kept w w' := by
  have h1 : (400 : Int) < L := by omega
  go_enter Try.func10, Try.ntmps10
  go_wp2_with (go_at_call 19; refine (awake_any _).mono ?_; rintro e w9 ⟨rfl, hk9⟩)
  go_ret
  exact ⟨rfl, (((Below.refl _ w).alloc (Nat.le_refl _) _)).trans (hk9.mono (by simp))⟩

theorem rsheet_all (g : GrD) (A : Option Addr) (c L : Nat) (ps : List PicD) (w : World) (hg : g.ok) (hp : Pics w A ps) (hl : L ≤ 1000000) (hLd : L = ps.length) (hcL : L ≤ c) :
    Calls Try.prog 41 #[.agg #[.bool g.re.neg, .string g.re.n, .int .i64 g.re.e, .bool g.im.neg, .string g.im.n, .int .i64 g.im.e, .int .i64 g.exp, .int .i64 g.across, .int .i64 g.down, .int .i64 g.wide, .int .i64 g.high], .slice A L c] w (PutPost w (sheetE g ps) (sheetP g ps)) := by
  rw [← sheetRE_eq]
  by_cases hI : gridI g = 0
  · exact rsheet_good g A c L ps w hg hp hl hLd hcL hI
  · exact rsheet_grid g A c L ps w hg hI
theorem sheet_len (g : GrD) (ps : List PicD) (h : sheetE g ps = 0) : (sheetP g ps).g.length ≤ 4194304 := by
  unfold sheetP
  apply below_len
  unfold sheetE at h
  by_cases h1 : gridI g ≠ 0
  · rw [if_pos h1] at h; exact absurd h h1
  rw [if_neg h1] at h
  by_cases h2 : allE ps ≠ 0
  · rw [if_pos h2] at h; exact absurd h h2
  rw [if_neg h2] at h
  by_cases h3 : (ps.length : Int) ≠ gridA g * gridD g
  · rw [if_pos h3] at h; omega
  rw [if_neg h3] at h
  by_cases h4 : fitsB g ps = false
  · rw [if_pos h4] at h; omega
  rw [if_neg h4] at h
  by_cases h5 : sizeB g.across g.down = false
  · rw [if_pos h5] at h; omega
  rw [if_neg h5] at h
  by_cases h6 : rowsE (sheetRows g ps) ≠ 0
  · rw [if_pos h6] at h; exact absurd h h6
  rwa [if_neg h6] at h

set_option maxRecDepth 100000 in
set_option maxHeartbeats 3200000 in
theorem sheets_any (g : GrD) (A : Option Addr) (c L : Nat) (ps : List PicD) (w : World) (hg : g.ok) (hp : Pics w A ps) (hLd : L = ps.length) (hL : L ≤ 400) (hcL : L ≤ c) :
    Calls Try.prog 10 #[.agg #[.bool g.re.neg, .string g.re.n, .int .i64 g.re.e, .bool g.im.neg, .string g.im.n, .int .i64 g.im.e, .int .i64 g.exp, .int .i64 g.across, .int .i64 g.down, .int .i64 g.wide, .int .i64 g.high], .slice A L c] w fun e w' => e = .returned (.bool true) ∧ Kept w w' := by
  obtain ⟨xE, hxE⟩ : ∃ y, y = sheetE g ps := ⟨_, rfl⟩
  obtain ⟨xa, hxa⟩ : ∃ y, y = outA (sheetE g ps) (sheetP g ps) := ⟨_, rfl⟩
  obtain ⟨xd, hxd⟩ : ∃ y, y = outD (sheetE g ps) (sheetP g ps) := ⟨_, rfl⟩
  obtain ⟨xg, hxg⟩ : ∃ y, y = outG (sheetE g ps) (sheetP g ps) := ⟨_, rfl⟩
  obtain ⟨xm, hxm⟩ : ∃ y, y = xg.length := ⟨_, rfl⟩
  have CS : Hid (∀ W, Kept w W → Calls Try.prog 40 #[.agg #[.bool g.re.neg, .string g.re.n, .int .i64 g.re.e, .bool g.im.neg, .string g.im.n, .int .i64 g.im.e, .int .i64 g.exp, .int .i64 g.across, .int .i64 g.down, .int .i64 g.wide, .int .i64 g.high], .slice A L c] W (Puts xa xd xm xg xE W)) := fun W hW => by
    rw [hxa, hxd, hxm, hxg, hxE, hLd]
    exact (sheet_any g A c ps W hg (hp.kept hW) (by omega) (by omega)).mono fun _ _ h => h.puts
  have CR : Hid (∀ W, Kept w W → Calls Try.prog 41 #[.agg #[.bool g.re.neg, .string g.re.n, .int .i64 g.re.e, .bool g.im.neg, .string g.im.n, .int .i64 g.im.e, .int .i64 g.exp, .int .i64 g.across, .int .i64 g.down, .int .i64 g.wide, .int .i64 g.high], .slice A L c] W (Puts xa xd xm xg xE W)) := fun W hW => by
    rw [hxa, hxd, hxm, hxg, hxE]
    exact (rsheet_all g A c L ps W hg (hp.kept hW) (by omega) hLd hcL).mono fun _ _ h => h.puts
  have XL : Hid (xg.length = xm ∧ xm ≤ 4194304) := ⟨hxm.symm, by rw [hxm, hxg]; exact outG_le _ _ (sheet_len g ps)⟩
  have n400 : ¬ (400 : Int) < L := by omega
  clear hxE hxa hxd hxg hxm hLd hp hg hcL hL
  obtain ⟨W0, hW0⟩ : ∃ W0, W0 = w.alloc (.cells #[.bool g.re.neg, .string g.re.n, .int .i64 g.re.e, .bool g.im.neg, .string g.im.n, .int .i64 g.im.e, .int .i64 g.exp, .int .i64 g.across, .int .i64 g.down, .int .i64 g.wide, .int .i64 g.high] 82) := ⟨_, rfl⟩
  have K0 : Hid (Kept w W0) := by rw [hW0]; exact (Below.refl _ _).alloc (Nat.le_refl _) _
  have G0 : Hid (∀ W, Kept W0 W → GBox W w.heap.size g ∧ w.heap.size < W.heap.size) := by
    intro W hW
    have g0 : GBox W0 w.heap.size g := by rw [hW0]; exact GBox.new w g _ _ rfl
    have hW' : Below W0.heap.size W0 W := hW
    have hz : W0.heap.size = w.heap.size + 1 := by rw [hW0]; simp
    exact ⟨g0.below hW' (by omega), by have := hW'.size; omega⟩
  go_enter Try.func10, Try.ntmps10
  obtain ⟨⟨q0, q1, q2, q3, q4, q5, q6, q7, q8, q9, q10⟩, hlt0⟩ := G0.out W0 (Below.refl _ _)
  go_upto_region 3 with fail
  rw [← hW0]
  clear hW0
  go_wp2_with fail
  refine (CS.out _ K0.out).mono ?_
  rintro e w3 ⟨A1, c1, rfl, ho1, hk1⟩
  have K3 := hide (show Kept W0 w3 from hk1)
  have O1 := hide ho1
  have LT1 : Hid (∀ k, (Value.slice A1 xm c1).ownBlock = some k → k < w3.heap.size) := fun k hk => (ho1.lt k hk).2
  clear hk1 ho1 q0 q1 q2 q3 q4 q5 q6 q7 q8 q9 q10 hlt0
  obtain ⟨X3, hX3⟩ : ∃ X, X = w3.alloc (.cells #[.int .i64 xa, .int .i64 xd, .slice A1 xm c1] 24) := ⟨_, rfl⟩
  have hk3 : Kept w3 X3 := by rw [hX3]; exact (Below.refl _ _).alloc (Nat.le_refl _) _
  have KX3 := hide (K3.out.trans' hk3)
  have B13 : Hid (PBox X3 w3.heap.size (.int .i64 xa) (.int .i64 xd) (.slice A1 xm c1)) := by rw [hX3]; exact PBox.new _ _ _ _ _ _ rfl
  have z3 : X3.heap.size = w3.heap.size + 1 := by rw [hX3]; simp
  replace O1 := hide (O1.out.kept hk3)
  obtain ⟨⟨q0, q1, q2, q3, q4, q5, q6, q7, q8, q9, q10⟩, hlt0⟩ := G0.out X3 KX3.out
  go_upto_region 4 with fail
  rw [← hX3]
  clear hX3 hk3
  go_wp2_with fail
  refine (CS.out _ (K0.out.trans (KX3.out.mono K0.out.size))).mono ?_
  rintro e w4 ⟨A2, c2, rfl, ho2, hk2⟩
  replace B13 := hide (B13.out.kept hk2)
  replace O1 := hide (O1.out.kept hk2)
  have O2 := hide ho2
  have K4 := hide (KX3.out.trans' hk2)
  have s4 := hk2.size
  clear hk2 ho2 q0 q1 q2 q3 q4 q5 q6 q7 q8 q9 q10 hlt0
  obtain ⟨X4, hX4⟩ : ∃ X, X = w4.alloc (.cells #[.int .i64 xa, .int .i64 xd, .slice A2 xm c2] 24) := ⟨_, rfl⟩
  have hk4 : Kept w4 X4 := by rw [hX4]; exact (Below.refl _ _).alloc (Nat.le_refl _) _
  have KX4 := hide (K4.out.trans' hk4)
  have B15 : Hid (PBox X4 w4.heap.size (.int .i64 xa) (.int .i64 xd) (.slice A2 xm c2)) := by rw [hX4]; exact PBox.new _ _ _ _ _ _ rfl
  have z4 : X4.heap.size = w4.heap.size + 1 := by rw [hX4]; simp
  replace B13 := hide (B13.out.kept hk4)
  replace O1 := hide (O1.out.kept hk4)
  replace O2 := hide (O2.out.kept hk4)
  obtain ⟨⟨q0, q1, q2, q3, q4, q5, q6, q7, q8, q9, q10⟩, hlt0⟩ := G0.out X4 KX4.out
  go_upto_region 5 with fail
  rw [← hX4]
  clear hX4 hk4
  go_wp2_with fail
  refine (CR.out _ (K0.out.trans (KX4.out.mono K0.out.size))).mono ?_
  rintro e w5 ⟨A3, c3, rfl, ho3, hk3⟩
  replace B13 := hide (B13.out.kept hk3)
  replace B15 := hide (B15.out.kept hk3)
  replace O1 := hide (O1.out.kept hk3)
  replace O2 := hide (O2.out.kept hk3)
  have O3 := hide ho3
  have K5 := hide (KX4.out.trans' hk3)
  have s5 := hk3.size
  clear hk3 ho3 q0 q1 q2 q3 q4 q5 q6 q7 q8 q9 q10 hlt0
  obtain ⟨X, hX⟩ : ∃ X, X = w5.alloc (.cells #[.int .i64 xa, .int .i64 xd, .slice A3 xm c3] 24) := ⟨_, rfl⟩
  have hk5 : Kept w5 X := by rw [hX]; exact (Below.refl _ _).alloc (Nat.le_refl _) _
  have KX := hide (K5.out.trans' hk5)
  have B17 : Hid (PBox X w5.heap.size (.int .i64 xa) (.int .i64 xd) (.slice A3 xm c3)) := by rw [hX]; exact PBox.new _ _ _ _ _ _ rfl
  have z5 : X.heap.size = w5.heap.size + 1 := by rw [hX]; simp
  replace B13 := hide (B13.out.kept hk5)
  replace B15 := hide (B15.out.kept hk5)
  replace O1 := hide (O1.out.kept hk5)
  replace O2 := hide (O2.out.kept hk5)
  replace O3 := hide (O3.out.kept hk5)
  have SW := hide K0.out.size
  have SX := hide K3.out.size
  go_upto_region 6 with fail
  rw [← hX]
  clear hX hk5
  obtain ⟨p0, p1, p2, p3, p4, p5⟩ := B13.out
  have pz := B13.out.lt
  obtain ⟨q0, q1, q2, q3, q4, q5⟩ := B15.out
  have qz := B15.out.lt
  obtain ⟨r0, r1, r2, r3, r4, r5⟩ := B17.out
  have rz := B17.out.lt
  go_wp2_with fail
  refine (held_puts xa xd xm xg XL.out.1 XL.out.2 A1 A2 A3 c1 c2 c3 _ _ _ X O1.out O2.out O3.out (fun k hk => by have := LT1.out k hk; omega) (fun k hk => by have := LT1.out k hk; omega) (by have := SX.out; omega)).mono ?_
  rintro e Y ⟨rfl, hbY, hfr⟩
  have KY : Hid (Kept w Y) := (K0.out.trans (KX.out.mono K0.out.size)).trans (hbY.mono SW.out)
  clear p0 p1 p2 p3 p4 p5 pz q0 q1 q2 q3 q4 q5 qz r0 r1 r2 r3 r4 r5 rz hbY hfr
  go_wp2_with (go_at_call 19; refine (awake_any _).mono ?_; rintro e w9 ⟨rfl, hk9⟩)
  go_ret
  exact ⟨rfl, KY.out.trans (hk9.mono KY.out.size)⟩
end Go.Proofs.Ytbhgcbgaadnfpaa
