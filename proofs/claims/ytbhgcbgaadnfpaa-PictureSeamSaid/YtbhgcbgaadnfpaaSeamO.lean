/- The law PictureSeam where it asks nothing: no grid, too many tiles, too many cells, no witnesses. -/
import Derived.Test.YtbhgcbgaadnfpaaSeamW
namespace Go.Proofs.Ytbhgcbgaadnfpaa
open Go.RowKit Go.Shelf
attribute [local go_sem] Oper.semAt_some

set_option maxRecDepth 100000 in
set_option maxHeartbeats 3200000 in
theorem seam_out (g : GrD) (Ac : Option Addr) (nc cc : Nat) (w : World) (hg : g.ok) (hno : ¬ (gridI g = 0 ∧ gridA g * gridD g ≤ 200 ∧ g.across * g.down ≤ 20000 ∧ 0 < nc)) :
    Calls Try.prog 11 #[.agg #[.bool g.re.neg, .string g.re.n, .int .i64 g.re.e, .bool g.im.neg, .string g.im.n, .int .i64 g.im.e, .int .i64 g.exp, .int .i64 g.across, .int .i64 g.down, .int .i64 g.wide, .int .i64 g.high], .slice Ac nc cc] w fun e w' => e = .returned (.bool true) ∧ Kept w w' := by
  have CC := hide (fun (W : World) => tcount_any g W hg)
  have CAW := hide (fun (W : World) => awake_any W)
  obtain ⟨W0, hW0⟩ : ∃ W0, W0 = ((w.alloc (.cells #[.bool g.re.neg, .string g.re.n, .int .i64 g.re.e, .bool g.im.neg, .string g.im.n, .int .i64 g.im.e, .int .i64 g.exp, .int .i64 g.across, .int .i64 g.down, .int .i64 g.wide, .int .i64 g.high] 82)).alloc (.cells #[.slice Ac nc cc] 67)).alloc (.cells #[.bool false] 4) := ⟨_, rfl⟩
  obtain ⟨sz0, k0, s0⟩ := seam_boxes g Ac nc cc w W0 hW0
  have K0 := hide k0
  have S0 := hide s0
  obtain ⟨b1, b2, b3, b4, b5, b6⟩ := cnt_bnd g
  have hacr : ∀ x y : Int, 1 ≤ x → x ≤ 65536 → 1 ≤ y → y ≤ 65536 → 0 ≤ x * y ∧ x * y ≤ 65536 * 65536 := fun x y h1 h2 h3 h4 => ⟨Int.mul_nonneg (by omega) (by omega), Int.mul_le_mul h2 h4 (by omega) (by omega)⟩
  have hcase : (gridI g != 0) = true ∨ ((gridI g != 0) = false ∧ decide (200 < cntA g * cntD g) = true) ∨ ((gridI g != 0) = false ∧ decide (200 < cntA g * cntD g) = false ∧ (0 ≤ g.across * g.down ∧ g.across * g.down ≤ 65536 * 65536) ∧ decide (20000 < g.across * g.down) = true) ∨
      ((gridI g != 0) = false ∧ decide (200 < cntA g * cntD g) = false ∧ (0 ≤ g.across * g.down ∧ g.across * g.down ≤ 65536 * 65536) ∧ decide (20000 < g.across * g.down) = false ∧ nc = 0) := by
    by_cases h1 : gridI g = 0
    · have hB := (gridI_ok h1).1
      have hA := hacr _ _ hB.a0 hB.a1 hB.d0 hB.d1
      have hc1 : cntA g = gridA g := by simp [cntA, h1]
      have hc2 : cntD g = gridD g := by simp [cntD, h1]
      have e1 : (gridI g != 0) = false := by simp [h1]
      rw [hc1, hc2]
      by_cases h2 : gridA g * gridD g ≤ 200
      · have e2 : decide (200 < gridA g * gridD g) = false := by simp; omega
        by_cases h3 : g.across * g.down ≤ 20000
        · have e3 : decide (20000 < g.across * g.down) = false := by simp; omega
          exact .inr (.inr (.inr ⟨e1, e2, hA, e3, by omega⟩))
        · exact .inr (.inr (.inl ⟨e1, e2, hA, by simp; omega⟩))
      · exact .inr (.inl ⟨e1, by simp; omega⟩)
    · exact .inl (by simp [h1])
  obtain ⟨E, hE⟩ : ∃ E, E = gridI g := ⟨_, rfl⟩
  rw [← hE] at CC hcase
  generalize cntA g = a at *
  generalize cntD g = d at *
  clear k0 s0 hg hno hE hacr
  have fin : Hid (∀ w1 w2, Kept W0 w1 → Kept w1 w2 → ∀ u, Kept w (w2.setCell ⟨w.heap.size + 1 + 1, 0, none⟩ u)) := fun w1 w2 h1 h2 u => (K0.out.trans' (h1.trans' h2)).setCell (by simp; omega) _
  rcases hcase with h1 | ⟨h1, h2⟩ | ⟨h1, h2, ⟨h5, h6⟩, h3⟩ | ⟨h1, h2, ⟨h5, h6⟩, h3, rfl⟩
  all_goals
    refine callsIn_wide.1 (callsIn_of_wp_marks (n := 5) Try.func11 rfl trivial ?_ rfl)
    simp only [Try.ntmps11, List.size_toArray, List.length_cons, List.length_nil, Nat.reduceAdd, Nat.reduceSub, Array.replicate_succ, Array.replicate_zero, List.push_toArray, List.append_toArray, List.nil_append, List.cons_append]
    refine wpIn_wide.2 ?_
    go_wp2_with fail
    rw [← hW0]
    clear hW0
    refine (CAW.out _).mono ?_
    rintro e w1 ⟨rfl, hk1⟩
    have K1 := hide (show Kept W0 w1 from hk1)
    obtain ⟨⟨q0, q1, q2, q3, q4, q5, q6, q7, q8, q9, q10⟩, c0, r0, r1, hlt1⟩ := S0.out w1 hk1
    clear hk1
    go_wp2_with fail
    refine (CC.out _).mono ?_
    rintro e w2 ⟨rfl, hk2⟩
    have K2 := hide (show Kept W0 w2 from K1.out.trans' hk2)
    clear hk2 q0 q1 q2 q3 q4 q5 q6 q7 q8 q9 q10 c0 r0 r1 hlt1
    obtain ⟨⟨q0, q1, q2, q3, q4, q5, q6, q7, q8, q9, q10⟩, c0, r0, r1, hlt1⟩ := S0.out w2 K2.out
    go_wp2_with fail
    refine (CAW.out _).mono ?_
    rintro e w3 ⟨rfl, hk3⟩
    have K3 := hide hk3
    clear q0 q1 q2 q3 q4 q5 q6 q7 q8 q9 q10 c0 r0 r1 hlt1
    obtain ⟨-, c0, r0, r1, hlt1⟩ := S0.out w3 (K2.out.trans' hk3)
    have HE : Hid ((w3.setCell ⟨w.heap.size + 1 + 1, 0, none⟩ (.bool true)).cell? ⟨w.heap.size + 1 + 1, 0, none⟩ = some (.bool true)) := World.cell?_setCell_same _ _ _ r0
    clear hk3
    go_wp2_with fail
    have h9 := HE.out
    exact ⟨.bool true, by simp [results, Try.f11, go_sem, h9], rfl, fin.out _ _ K2.out K3.out _⟩
theorem seam_any (g : GrD) (Ac : Option Addr) (nc cc : Nat) (CL : List Wit) (w : World) (hg : g.ok) (hnc : nc ≤ cc) (hcm : cc ≤ maxLen) (hl : CL.length = nc) (hr : Row w Ac (witV CL)) (hok : ∀ x ∈ CL, x.ok) :
    Calls Try.prog 11 #[.agg #[.bool g.re.neg, .string g.re.n, .int .i64 g.re.e, .bool g.im.neg, .string g.im.n, .int .i64 g.im.e, .int .i64 g.exp, .int .i64 g.across, .int .i64 g.down, .int .i64 g.wide, .int .i64 g.high], .slice Ac nc cc] w fun e w' => e = .returned (.bool true) ∧ Kept w w' := by
  by_cases h : gridI g = 0 ∧ gridA g * gridD g ≤ 200 ∧ g.across * g.down ≤ 20000 ∧ 0 < nc
  · exact seam_in g Ac nc cc CL w hg h.1 h.2.1 h.2.2.1 h.2.2.2 hnc hcm hl hr hok
  · exact seam_out g Ac nc cc w hg h
end Go.Proofs.Ytbhgcbgaadnfpaa
