/- picture.Sheet, of every grid and pictures. -/
import Derived.Test.YtbhgcbgaadnfpaaSheetW
namespace Go.Proofs.Ytbhgcbgaadnfpaa
open Go.RowKit Go.Shelf

/-- What lies in the call's own boxes as long as nothing was written. -/
theorem sheet_boxes (g : GrD) (A : Option Addr) (c L : Nat) (w W0 : World) (hW0 : W0 = (((w.alloc (.cells #[.bool g.re.neg, .string g.re.n, .int .i64 g.re.e, .bool g.im.neg, .string g.im.n, .int .i64 g.im.e, .int .i64 g.exp, .int .i64 g.across, .int .i64 g.down, .int .i64 g.wide, .int .i64 g.high] 82)).alloc (.cells #[.slice A L c] 58)).alloc (.cells #[.int .i64 0, .int .i64 0, .slice none 0 0] 24)).alloc (.cells #[.int .i64 0] 26)) :
    ∀ W, Kept W0 W → Kept w W ∧ GBox W w.heap.size g ∧ W.cell? ⟨w.heap.size + 1, 0, none⟩ = some (.slice A L c) ∧ PBox W (w.heap.size + 1 + 1) (.int .i64 0) (.int .i64 0) (.slice none 0 0) ∧ W.cell? ⟨w.heap.size + 1 + 1 + 1, 0, none⟩ = some (.int .i64 0) ∧ W.frozen? ⟨w.heap.size + 1 + 1 + 1, 0, none⟩ = false ∧ w.heap.size + 1 + 1 + 1 < W.heap.size := by
  have sz0 : W0.heap.size = w.heap.size + 4 := by rw [hW0]; simp
  have K0 : Kept w W0 := by rw [hW0]; exact ((((Below.refl _ _).alloc (Nat.le_refl _) _).alloc (by simp) _).alloc (by first | (simp; done) | (simp; omega)) _).alloc (by first | (simp; done) | (simp; omega)) _
  intro W hW
  have g0 : GBox W0 w.heap.size g := by
    rw [hW0]
    exact (GBox.new w g _ _ rfl).below ((((Below.refl _ _).alloc (Nat.le_refl _) _).alloc (by simp) _).alloc (by first | (simp; done) | (simp; omega)) _) (by simp)
  have r0 : PBox W0 (w.heap.size + 1 + 1) (.int .i64 0) (.int .i64 0) (.slice none 0 0) := by
    rw [hW0]
    exact (PBox.new _ _ _ _ _ _ (by simp)).kept ((Below.refl _ _).alloc (Nat.le_refl _) _)
  have e0 : W0.frozen? ⟨w.heap.size + 1 + 1 + 1, 0, none⟩ = false := by
    have h9 := fresh_frozen (((w.alloc (.cells #[.bool g.re.neg, .string g.re.n, .int .i64 g.re.e, .bool g.im.neg, .string g.im.n, .int .i64 g.im.e, .int .i64 g.exp, .int .i64 g.across, .int .i64 g.down, .int .i64 g.wide, .int .i64 g.high] 82)).alloc (.cells #[.slice A L c] 58)).alloc (.cells #[.int .i64 0, .int .i64 0, .slice none 0 0] 24)) #[.int .i64 0] 26 0
    simp only [World.size_alloc] at h9
    rw [hW0]; exact h9
  have S1 : W0.cell? ⟨w.heap.size + 1, 0, none⟩ = some (.slice A L c) ∧ W0.cell? ⟨w.heap.size + 1 + 1 + 1, 0, none⟩ = some (.int .i64 0) := by
    have c1 := (((Boxed.new (w.alloc (.cells #[.bool g.re.neg, .string g.re.n, .int .i64 g.re.e, .bool g.im.neg, .string g.im.n, .int .i64 g.im.e, .int .i64 g.exp, .int .i64 g.across, .int .i64 g.down, .int .i64 g.wide, .int .i64 g.high] 82)) 58 (.slice A L c)).alloc (.cells #[.int .i64 0, .int .i64 0, .slice none 0 0] 24)).alloc (.cells #[.int .i64 0] 26)).cell
    have c2 := (Boxed.new (((w.alloc (.cells #[.bool g.re.neg, .string g.re.n, .int .i64 g.re.e, .bool g.im.neg, .string g.im.n, .int .i64 g.im.e, .int .i64 g.exp, .int .i64 g.across, .int .i64 g.down, .int .i64 g.wide, .int .i64 g.high] 82)).alloc (.cells #[.slice A L c] 58)).alloc (.cells #[.int .i64 0, .int .i64 0, .slice none 0 0] 24)) 26 (.int .i64 0)).cell
    simp only [World.size_alloc] at c1 c2
    rw [hW0]
    exact ⟨c1, c2⟩
  have hW' : Below W0.heap.size W0 W := hW
  exact ⟨K0.trans (hW'.mono K0.size), g0.below hW' (by omega), (hW.cells (w.heap.size + 1) 0 (by omega)).trans S1.1, r0.kept hW, (hW.cells (w.heap.size + 1 + 1 + 1) 0 (by omega)).trans S1.2, (hW.thaw (w.heap.size + 1 + 1 + 1) 0 (by omega)).trans e0, by have := hW'.size; omega⟩

set_option maxRecDepth 100000 in
set_option maxHeartbeats 1600000 in
theorem sheet_grid (g : GrD) (A : Option Addr) (c L : Nat) (ps : List PicD) (w : World) (hg : g.ok) (hI : ¬ gridI g = 0) :
    Calls Try.prog 40 #[.agg #[.bool g.re.neg, .string g.re.n, .int .i64 g.re.e, .bool g.im.neg, .string g.im.n, .int .i64 g.im.e, .int .i64 g.exp, .int .i64 g.across, .int .i64 g.down, .int .i64 g.wide, .int .i64 g.high], .slice A L c] w (PutPost w (sheetE g ps) (sheetP g ps)) := by
  have CV : Hid (∀ W, Calls Try.prog 57 #[.agg #[.bool g.re.neg, .string g.re.n, .int .i64 g.re.e, .bool g.im.neg, .string g.im.n, .int .i64 g.im.e, .int .i64 g.exp, .int .i64 g.across, .int .i64 g.down, .int .i64 g.wide, .int .i64 g.high]] W fun e w' => e = .returned (.int .i64 (gridI g)) ∧ Kept W w') := fun W => tcheck_any g W hg
  have HSE : Hid (sheetE g ps = gridI g) := by show _ = _; unfold sheetE; rw [if_pos hI]
  have HI := hide hI
  have hn : (gridI g != 0) = true := by simp [hI]
  obtain ⟨W0, hW0⟩ : ∃ W0, W0 = (((w.alloc (.cells #[.bool g.re.neg, .string g.re.n, .int .i64 g.re.e, .bool g.im.neg, .string g.im.n, .int .i64 g.im.e, .int .i64 g.exp, .int .i64 g.across, .int .i64 g.down, .int .i64 g.wide, .int .i64 g.high] 82)).alloc (.cells #[.slice A L c] 58)).alloc (.cells #[.int .i64 0, .int .i64 0, .slice none 0 0] 24)).alloc (.cells #[.int .i64 0] 26) := ⟨_, rfl⟩
  have sz0 : W0.heap.size = w.heap.size + 4 := by rw [hW0]; simp
  have S0 := hide (sheet_boxes g A c L w W0 hW0)
  clear sz0
  clear hI hg
  refine callsIn_wide.1 (callsIn_of_wp_marks (n := 5) Try.func40 rfl trivial ?_ rfl)
  simp only [Try.ntmps40, List.size_toArray, List.length_cons, List.length_nil, Nat.reduceAdd, Nat.reduceSub, Array.replicate_succ, Array.replicate_zero, List.push_toArray, List.append_toArray, List.nil_append, List.cons_append]
  refine wpIn_wide.2 ?_
  go_wp2_with fail
  rw [← hW0]
  clear hW0
  refine (CV.out _).mono ?_
  rintro e w1 ⟨rfl, hk1⟩
  have HK1 : Hid (Kept W0 w1) := hk1
  obtain ⟨KW, ⟨q0, q1, q2, q3, q4, q5, q6, q7, q8, q9, q10⟩, s0, rb, e0, e1, hlt1⟩ := S0.out w1 hk1
  clear hk1 q0 q1 q2 q3 q4 q5 q6 q7 q8 q9 q10 s0
  have p0 := rb.c0
  have p1 := rb.c1
  have p2 := rb.c2
  have p3 := rb.f0
  have p4 := rb.f1
  have p5 := rb.f2
  go_wp2_with fail
  obtain ⟨pb, e, hB⟩ := ret_sheet (gridI g) rb e0 KW (by omega) 0
  have c0 := pb.c0
  have c1 := pb.c1
  have c2 := pb.c2
  simp only [World.store3, show w1.drewN 0 = w1 from rfl] at c0 c1 c2 e hB
  refine ⟨.tuple #[.agg #[.int .i64 0, .int .i64 0, .slice none 0 0], .int .i64 (gridI g)], ?_, by rw [HSE.out]; exact PutPost.err HI.out hB⟩
  simp [results, Try.f40, go_sem, c0, c1, c2, e]

set_option maxRecDepth 100000 in
set_option maxHeartbeats 1600000 in
theorem sheet_all (g : GrD) (A : Option Addr) (c L : Nat) (ps : List PicD) (w : World) (hg : g.ok) (hp : Pics w A ps) (hl : ps.length ≤ 1000000) (hL : L = ps.length) (hI : gridI g = 0) (hE : ¬ allE ps = 0) :
    Calls Try.prog 40 #[.agg #[.bool g.re.neg, .string g.re.n, .int .i64 g.re.e, .bool g.im.neg, .string g.im.n, .int .i64 g.im.e, .int .i64 g.exp, .int .i64 g.across, .int .i64 g.down, .int .i64 g.wide, .int .i64 g.high], .slice A L c] w (PutPost w (sheetE g ps) (sheetP g ps)) := by
  have CV : Hid (∀ W, Calls Try.prog 57 #[.agg #[.bool g.re.neg, .string g.re.n, .int .i64 g.re.e, .bool g.im.neg, .string g.im.n, .int .i64 g.im.e, .int .i64 g.exp, .int .i64 g.across, .int .i64 g.down, .int .i64 g.wide, .int .i64 g.high]] W fun e w' => e = .returned (.int .i64 0) ∧ Kept W w') := fun W => by
    have := tcheck_any g W hg
    rwa [hI] at this
  have CA : Hid (∀ W, Kept w W → Calls Try.prog 54 #[.slice A L c] W fun e w' => e = .returned (.int .i64 (allE ps)) ∧ Kept W w') := fun W hW => by
    rw [hL]
    exact all_any A c ps W (hp.kept hW) (by omega)
  have HSE : Hid (sheetE g ps = allE ps) := by show _ = _; unfold sheetE; rw [if_neg (by simp [hI]), if_pos hE]
  have HE := hide hE
  have hn : (allE ps != 0) = true := by simp [hE]
  obtain ⟨W0, hW0⟩ : ∃ W0, W0 = (((w.alloc (.cells #[.bool g.re.neg, .string g.re.n, .int .i64 g.re.e, .bool g.im.neg, .string g.im.n, .int .i64 g.im.e, .int .i64 g.exp, .int .i64 g.across, .int .i64 g.down, .int .i64 g.wide, .int .i64 g.high] 82)).alloc (.cells #[.slice A L c] 58)).alloc (.cells #[.int .i64 0, .int .i64 0, .slice none 0 0] 24)).alloc (.cells #[.int .i64 0] 26) := ⟨_, rfl⟩
  have sz0 : W0.heap.size = w.heap.size + 4 := by rw [hW0]; simp
  have S0 := hide (sheet_boxes g A c L w W0 hW0)
  clear sz0
  clear hI hg hp hE hL
  refine callsIn_wide.1 (callsIn_of_wp_marks (n := 5) Try.func40 rfl trivial ?_ rfl)
  simp only [Try.ntmps40, List.size_toArray, List.length_cons, List.length_nil, Nat.reduceAdd, Nat.reduceSub, Array.replicate_succ, Array.replicate_zero, List.push_toArray, List.append_toArray, List.nil_append, List.cons_append]
  refine wpIn_wide.2 ?_
  go_wp2_with fail
  rw [← hW0]
  clear hW0
  refine (CV.out _).mono ?_
  rintro e w1 ⟨rfl, hk1⟩
  have HK1 : Hid (Kept W0 w1) := hk1
  obtain ⟨KW, ⟨q0, q1, q2, q3, q4, q5, q6, q7, q8, q9, q10⟩, s0, rb, e0, e1, hlt1⟩ := S0.out w1 hk1
  clear hk1 q0 q1 q2 q3 q4 q5 q6 q7 q8 q9 q10
  have HKW := hide KW
  clear KW
  go_wp2_with fail
  refine (CA.out _ HKW.out).mono ?_
  rintro e w2 ⟨rfl, hk2⟩
  have HK2 : Hid (Kept W0 w2) := HK1.out.trans' hk2
  clear hk2 s0 rb e0 e1 hlt1 HKW
  obtain ⟨KW, ⟨q0, q1, q2, q3, q4, q5, q6, q7, q8, q9, q10⟩, s0, rb, e0, e1, hlt1⟩ := S0.out w2 HK2.out
  clear q0 q1 q2 q3 q4 q5 q6 q7 q8 q9 q10 s0
  have p0 := rb.c0
  have p1 := rb.c1
  have p2 := rb.c2
  have p3 := rb.f0
  have p4 := rb.f1
  have p5 := rb.f2
  go_wp2_with fail
  obtain ⟨pb, e, hB⟩ := ret_sheet (allE ps) rb e0 KW (by omega) 0
  have c0 := pb.c0
  have c1 := pb.c1
  have c2 := pb.c2
  simp only [World.store3, show w2.drewN 0 = w2 from rfl] at c0 c1 c2 e hB
  refine ⟨.tuple #[.agg #[.int .i64 0, .int .i64 0, .slice none 0 0], .int .i64 (allE ps)], ?_, by rw [HSE.out]; exact PutPost.err HE.out hB⟩
  simp [results, Try.f40, go_sem, c0, c1, c2, e]

set_option maxRecDepth 100000 in
set_option maxHeartbeats 1600000 in
theorem sheet_count (g : GrD) (A : Option Addr) (c L : Nat) (ps : List PicD) (w : World) (hg : g.ok) (hp : Pics w A ps) (hl : ps.length ≤ 1000000) (hL : L = ps.length) (hI : gridI g = 0) (hE : allE ps = 0) (hne : ¬ (L : Int) = gridA g * gridD g) :
    Calls Try.prog 40 #[.agg #[.bool g.re.neg, .string g.re.n, .int .i64 g.re.e, .bool g.im.neg, .string g.im.n, .int .i64 g.im.e, .int .i64 g.exp, .int .i64 g.across, .int .i64 g.down, .int .i64 g.wide, .int .i64 g.high], .slice A L c] w (PutPost w (sheetE g ps) (sheetP g ps)) := by
  have CV : Hid (∀ W, Calls Try.prog 57 #[.agg #[.bool g.re.neg, .string g.re.n, .int .i64 g.re.e, .bool g.im.neg, .string g.im.n, .int .i64 g.im.e, .int .i64 g.exp, .int .i64 g.across, .int .i64 g.down, .int .i64 g.wide, .int .i64 g.high]] W fun e w' => e = .returned (.int .i64 0) ∧ Kept W w') := fun W => by
    have := tcheck_any g W hg
    rwa [hI] at this
  have CA : Hid (∀ W, Kept w W → Calls Try.prog 54 #[.slice A L c] W fun e w' => e = .returned (.int .i64 0) ∧ Kept W w') := fun W hW => by
    have := all_any A c ps W (hp.kept hW) (by omega)
    rw [hE] at this
    rw [hL]; exact this
  have CC : Hid (∀ W, Calls Try.prog 42 #[.agg #[.bool g.re.neg, .string g.re.n, .int .i64 g.re.e, .bool g.im.neg, .string g.im.n, .int .i64 g.im.e, .int .i64 g.exp, .int .i64 g.across, .int .i64 g.down, .int .i64 g.wide, .int .i64 g.high]] W fun e w' => e = .returned (.tuple #[.int .i64 (gridA g), .int .i64 (gridD g), .int .i64 0]) ∧ Kept W w') := fun W => by
    have := tcount_any g W hg
    rwa [show cntA g = gridA g by simp [cntA, hI], show cntD g = gridD g by simp [cntD, hI], hI] at this
  have HSE : Hid (sheetE g ps = 291) := by show _ = _; unfold sheetE; rw [if_neg (by simp [hI]), if_neg (by simp [hE]), if_pos (by rw [← hL]; exact hne)]
  have hl : L ≤ 1000000 := by omega
  obtain ⟨hB, hm⟩ := gridI_ok hI
  obtain ⟨ga0, ga1⟩ := hB.gA
  obtain ⟨gd0, gd1⟩ := hB.gD
  have hn : ((L : Int) != gridA g * gridD g) = true := by simp [hne]
  have p1 : 0 ≤ gridA g * gridD g := Int.mul_nonneg (by omega) (by omega)
  obtain ⟨W0, hW0⟩ : ∃ W0, W0 = (((w.alloc (.cells #[.bool g.re.neg, .string g.re.n, .int .i64 g.re.e, .bool g.im.neg, .string g.im.n, .int .i64 g.im.e, .int .i64 g.exp, .int .i64 g.across, .int .i64 g.down, .int .i64 g.wide, .int .i64 g.high] 82)).alloc (.cells #[.slice A L c] 58)).alloc (.cells #[.int .i64 0, .int .i64 0, .slice none 0 0] 24)).alloc (.cells #[.int .i64 0] 26) := ⟨_, rfl⟩
  have sz0 : W0.heap.size = w.heap.size + 4 := by rw [hW0]; simp
  have S0 := hide (sheet_boxes g A c L w W0 hW0)
  clear sz0
  clear hI hg hp hE hL hB hne
  refine callsIn_wide.1 (callsIn_of_wp_marks (n := 5) Try.func40 rfl trivial ?_ rfl)
  simp only [Try.ntmps40, List.size_toArray, List.length_cons, List.length_nil, Nat.reduceAdd, Nat.reduceSub, Array.replicate_succ, Array.replicate_zero, List.push_toArray, List.append_toArray, List.nil_append, List.cons_append]
  refine wpIn_wide.2 ?_
  go_wp2_with fail
  rw [← hW0]
  clear hW0
  refine (CV.out _).mono ?_
  rintro e w1 ⟨rfl, hk1⟩
  have HK1 : Hid (Kept W0 w1) := hk1
  obtain ⟨KW, ⟨q0, q1, q2, q3, q4, q5, q6, q7, q8, q9, q10⟩, s0, rb, e0, e1, hlt1⟩ := S0.out w1 hk1
  clear hk1 q0 q1 q2 q3 q4 q5 q6 q7 q8 q9 q10
  have HKW := hide KW
  clear KW
  go_wp2_with fail
  refine (CA.out _ HKW.out).mono ?_
  rintro e w2 ⟨rfl, hk2⟩
  have HK2 : Hid (Kept W0 w2) := HK1.out.trans' hk2
  clear hk2 s0 rb e0 e1 hlt1 HKW
  obtain ⟨KW, ⟨q0, q1, q2, q3, q4, q5, q6, q7, q8, q9, q10⟩, s0, rb, e0, e1, hlt1⟩ := S0.out w2 HK2.out
  clear KW s0 rb e0 e1 hlt1
  go_wp2_with fail
  refine (CC.out _).mono ?_
  rintro e w3 ⟨rfl, hk3⟩
  have HK3 : Hid (Kept W0 w3) := HK2.out.trans' hk3
  clear hk3 q0 q1 q2 q3 q4 q5 q6 q7 q8 q9 q10
  obtain ⟨KW, ⟨q0, q1, q2, q3, q4, q5, q6, q7, q8, q9, q10⟩, s0, rb, e0, e1, hlt1⟩ := S0.out w3 HK3.out
  clear q0 q1 q2 q3 q4 q5 q6 q7 q8 q9 q10
  have p0 := rb.c0
  have p1 := rb.c1
  have p2 := rb.c2
  have p3 := rb.f0
  have p4 := rb.f1
  have p5 := rb.f2
  go_wp2_with fail
  obtain ⟨pb, e, hB⟩ := ret_sheet (291) rb e0 KW (by omega) 0
  have c0 := pb.c0
  have c1 := pb.c1
  have c2 := pb.c2
  simp only [World.store3, show w3.drewN 0 = w3 from rfl] at c0 c1 c2 e hB
  refine ⟨.tuple #[.agg #[.int .i64 0, .int .i64 0, .slice none 0 0], .int .i64 (291)], ?_, by rw [HSE.out]; exact PutPost.err (by decide) hB⟩
  simp [results, Try.f40, go_sem, c0, c1, c2, e]

theorem sheet_any (g : GrD) (A : Option Addr) (c : Nat) (ps : List PicD) (w : World) (hg : g.ok) (hp : Pics w A ps) (hl : ps.length ≤ 1000000) (hcL : ps.length ≤ c) :
    Calls Try.prog 40 #[.agg #[.bool g.re.neg, .string g.re.n, .int .i64 g.re.e, .bool g.im.neg, .string g.im.n, .int .i64 g.im.e, .int .i64 g.exp, .int .i64 g.across, .int .i64 g.down, .int .i64 g.wide, .int .i64 g.high], .slice A ps.length c] w (PutPost w (sheetE g ps) (sheetP g ps)) := by
  by_cases hI : gridI g = 0
  · by_cases hE : allE ps = 0
    · by_cases hL : (ps.length : Int) = gridA g * gridD g
      · exact sheet_good g A c ps w hg hp hl hcL hI hE hL
      · exact sheet_count g A c _ ps w hg hp hl rfl hI hE hL
    · exact sheet_all g A c _ ps w hg hp hl rfl hI hE
  · exact sheet_grid g A c _ ps w hg hI
end Go.Proofs.Ytbhgcbgaadnfpaa
