/- filigreelaw25.TilePlaces, walked. -/
import Derived.Test.YtneakieigiafpaaGreatDoorWA
import Derived.Test.YtneakieigiafpaaGreatDoorLivT
import Derived.RangeFuncNested
namespace Go.Proofs.YtneakieigiafpaaGreatDoor
open Go.RowKit Go.Shelf Go.Ex
attribute [local go_sem] Oper.semAt_some

/-- The laid tables stay where a call keeps what was there. -/
theorem laid_kept {w W : World} (h : HpOK id0 4096 laidH w) (k : Kept w W) : HpOK id0 4096 laidH W :=
  ⟨h.srt, h.sc, fun b bl hb => (h.bk b bl hb).keep rfl rfl (fun _ _ => rfl) (Below.block k _ (h.bk b bl hb).lt), h.inj, h.glob, h.big⟩
/-- The call's own boxes. -/
structure PB (W : World) (s : Nat) (g : GrD) (x y : Int) : Prop where
  gb : GBox W s g
  cx : W.cell? ⟨s + 1, 0, none⟩ = some (.int .i64 x)
  cy : W.cell? ⟨s + 1 + 1, 0, none⟩ = some (.int .i64 y)
  cr : W.cell? ⟨s + 1 + 1 + 1, 0, none⟩ = some (.bool false)
  fr : W.frozen? ⟨s + 1 + 1 + 1, 0, none⟩ = false
  lt : s + 1 + 1 + 1 < W.heap.size
theorem PB.kept {W W' : World} {s : Nat} {g : GrD} {x y : Int} (h : PB W s g x y) (k : Kept W W') : PB W' s g x y := by
  have hl := h.lt
  exact ⟨h.gb.below k (by omega), (k.cells _ _ (by omega)).trans h.cx, (k.cells _ _ (by omega)).trans h.cy, (k.cells _ _ (by omega)).trans h.cr, (k.thaw _ _ (by omega)).trans h.fr, Nat.lt_of_lt_of_le hl k.size⟩
theorem PB.ret {w W : World} {g : GrD} {x y : Int} (h : PB W w.heap.size g x y) (k : Kept w W) : (W.setCell ⟨w.heap.size + 1 + 1 + 1, 0, none⟩ (.bool true)).cell? ⟨w.heap.size + 1 + 1 + 1, 0, none⟩ = some (.bool true) ∧ Kept w (W.setCell ⟨w.heap.size + 1 + 1 + 1, 0, none⟩ (.bool true)) :=
  ⟨World.cell?_setCell_same' _ _ _ (by rw [h.cr]; rfl), Below.setCell k (p := ⟨w.heap.size + 1 + 1 + 1, 0, none⟩) (by dsimp only; omega) _⟩
theorem PB.new (w : World) (g : GrD) (x y : Int) : PB ((((w.alloc (.cells #[.bool g.re.neg, .string g.re.n, .int .i64 g.re.e, .bool g.im.neg, .string g.im.n, .int .i64 g.im.e, .int .i64 g.exp, .int .i64 g.across, .int .i64 g.down, .int .i64 g.wide, .int .i64 g.high] 31)).alloc (.cells #[.int .i64 x] 3)).alloc (.cells #[.int .i64 y] 3)).alloc (.cells #[.bool false] 4)) w.heap.size g x y := by
  have B1 := (Boxed.new (w.alloc (.cells #[.bool g.re.neg, .string g.re.n, .int .i64 g.re.e, .bool g.im.neg, .string g.im.n, .int .i64 g.im.e, .int .i64 g.exp, .int .i64 g.across, .int .i64 g.down, .int .i64 g.wide, .int .i64 g.high] 31)) 3 (.int .i64 x))
  have B2 := (Boxed.new ((w.alloc (.cells #[.bool g.re.neg, .string g.re.n, .int .i64 g.re.e, .bool g.im.neg, .string g.im.n, .int .i64 g.im.e, .int .i64 g.exp, .int .i64 g.across, .int .i64 g.down, .int .i64 g.wide, .int .i64 g.high] 31)).alloc (.cells #[.int .i64 x] 3)) 3 (.int .i64 y))
  have B3 := (Boxed.new (((w.alloc (.cells #[.bool g.re.neg, .string g.re.n, .int .i64 g.re.e, .bool g.im.neg, .string g.im.n, .int .i64 g.im.e, .int .i64 g.exp, .int .i64 g.across, .int .i64 g.down, .int .i64 g.wide, .int .i64 g.high] 31)).alloc (.cells #[.int .i64 x] 3)).alloc (.cells #[.int .i64 y] 3)) 4 (.bool false))
  have c1 := ((B1.alloc (.cells #[.int .i64 y] 3)).alloc (.cells #[.bool false] 4)).cell
  have c2 := (B2.alloc (.cells #[.bool false] 4)).cell
  have c3 := B3.cell
  have f3 := fresh_frozen (((w.alloc (.cells #[.bool g.re.neg, .string g.re.n, .int .i64 g.re.e, .bool g.im.neg, .string g.im.n, .int .i64 g.im.e, .int .i64 g.exp, .int .i64 g.across, .int .i64 g.down, .int .i64 g.wide, .int .i64 g.high] 31)).alloc (.cells #[.int .i64 x] 3)).alloc (.cells #[.int .i64 y] 3)) #[.bool false] 4 0
  simp only [World.size_alloc] at c1 c2 c3 f3
  refine ⟨(GBox.new w g _ _ rfl).below ((((Below.refl _ _).alloc (Nat.le_refl _) _).alloc (by first | (simp; done) | (simp; omega)) _).alloc (by first | (simp; done) | (simp; omega)) _) (by simp), c1, c2, c3, f3, by simp⟩
theorem own_kept (w : World) (g : GrD) (x y : Int) : Kept w ((((w.alloc (.cells #[.bool g.re.neg, .string g.re.n, .int .i64 g.re.e, .bool g.im.neg, .string g.im.n, .int .i64 g.im.e, .int .i64 g.exp, .int .i64 g.across, .int .i64 g.down, .int .i64 g.wide, .int .i64 g.high] 31)).alloc (.cells #[.int .i64 x] 3)).alloc (.cells #[.int .i64 y] 3)).alloc (.cells #[.bool false] 4)) :=
  ((((Below.refl _ _).alloc (Nat.le_refl _) _).alloc (by first | (simp; done) | (simp; omega)) _).alloc (by first | (simp; done) | (simp; omega)) _).alloc (by first | (simp; done) | (simp; omega)) _

set_option maxRecDepth 100000 in
set_option maxHeartbeats 1600000 in
theorem places_off (g : GrD) (x y : Int) (w : World) (hg : g.ok) (hI : ¬ gridI g = 0) (hH : HpOK id0 4096 laidH w) :
    Calls Tryz.prog 8 #[.agg #[.bool g.re.neg, .string g.re.n, .int .i64 g.re.e, .bool g.im.neg, .string g.im.n, .int .i64 g.im.e, .int .i64 g.exp, .int .i64 g.across, .int .i64 g.down, .int .i64 g.wide, .int .i64 g.high], .int .i64 x, .int .i64 y] w fun e w' => e = .returned (.bool true) ∧ Kept w w' := by
  have CV := hide (fun (W : World) => tcheck_any g W hg)
  have CL := hide (fun (W : World) (h : Kept w W) => lives_any (laid_kept hH h))
  have hn : (gridI g != 0) = true := by simp [hI]
  obtain ⟨W0, hW0⟩ : ∃ W0, W0 = (((w.alloc (.cells #[.bool g.re.neg, .string g.re.n, .int .i64 g.re.e, .bool g.im.neg, .string g.im.n, .int .i64 g.im.e, .int .i64 g.exp, .int .i64 g.across, .int .i64 g.down, .int .i64 g.wide, .int .i64 g.high] 31)).alloc (.cells #[.int .i64 x] 3)).alloc (.cells #[.int .i64 y] 3)).alloc (.cells #[.bool false] 4) := ⟨_, rfl⟩
  have P0 := hide (show PB W0 w.heap.size g x y by rw [hW0]; exact PB.new w g x y)
  have K0 := hide (show Kept w W0 by rw [hW0]; exact own_kept w g x y)
  clear hI hg hH
  refine callsIn_wide.1 (callsIn_of_wp_marks (n := 5) Tryz.func8 rfl trivial ?_ rfl)
  simp only [Tryz.ntmps8, List.size_toArray, List.length_cons, List.length_nil, Nat.reduceAdd, Nat.reduceSub, Array.replicate_succ, Array.replicate_zero, List.push_toArray, List.append_toArray, List.nil_append, List.cons_append]
  refine wpIn_wide.2 ?_
  obtain ⟨⟨q0, q1, q2, q3, q4, q5, q6, q7, q8, q9, q10⟩, cx, cy, cr, fr, lt⟩ := P0.out
  go_wp2_with fail
  rw [← hW0]
  go_wp2_with fail
  refine (CV.out _).mono ?_
  rintro e w1 ⟨rfl, hk1⟩
  have K1 := hide (show Kept w w1 from K0.out.trans' hk1)
  have P1 := hide (P0.out.kept hk1)
  clear q0 q1 q2 q3 q4 q5 q6 q7 q8 q9 q10 cx cy cr fr lt hk1
  obtain ⟨⟨q0, q1, q2, q3, q4, q5, q6, q7, q8, q9, q10⟩, cx, cy, cr, fr, lt⟩ := P1.out
  go_wp2_with fail
  refine (CL.out _ K1.out).mono ?_
  rintro e w2 ⟨rfl, hk2⟩
  have K2 := hide (show Kept w w2 from K1.out.trans' hk2)
  have P2 := hide (P1.out.kept hk2)
  clear q0 q1 q2 q3 q4 q5 q6 q7 q8 q9 q10 cx cy cr fr lt hk2
  obtain ⟨⟨q0, q1, q2, q3, q4, q5, q6, q7, q8, q9, q10⟩, cx, cy, cr, fr, lt⟩ := P2.out
  go_wp2_with fail
  obtain ⟨c3, k3⟩ := P2.out.ret K2.out
  refine ⟨.bool true, ?_, rfl, k3⟩
  simp [results, Tryz.f8, go_sem, c3]
end Go.Proofs.YtneakieigiafpaaGreatDoor
