/- filigreelaw25.TileGrids, walked: a grid that may be. -/
import Derived.Test.YtneakieigiafpaaGreatDoorGriW
import Derived.Deep.DeepCutAuto
namespace Go.Proofs.YtneakieigiafpaaGreatDoor
open Go.RowKit Go.Shelf Go.Ex
attribute [local go_sem] Oper.semAt_some

/-- A rectangle's numbers where the grid has the tile, zeros where not. -/
def inT (g : GrD) (n : Int) : Bool := decide (0 ≤ n ∧ n < gridA g * gridD g)
def ifT (b : Bool) (x : Int) : Int := if b then x else 0
theorem rect_val (g : GrD) (n : Int) (w : World) (hg : g.ok) (hI : gridI g = 0) (hn : in64 n) :
    Calls Tryz.prog 20 #[.agg #[.bool g.re.neg, .string g.re.n, .int .i64 g.re.e, .bool g.im.neg, .string g.im.n, .int .i64 g.im.e, .int .i64 g.exp, .int .i64 g.across, .int .i64 g.down, .int .i64 g.wide, .int .i64 g.high], .int .i64 n] w fun e w' => e = .returned (.tuple #[.agg #[.int .i64 (ifT (inT g n) (rectX g n)), .int .i64 (ifT (inT g n) (rectY g n)), .int .i64 (ifT (inT g n) (rectW g n)), .int .i64 (ifT (inT g n) (rectH g n))], .int .i64 (if inT g n then 0 else 2)]) ∧ Kept w w' := by
  refine (trect_any g n w hg hn.1 hn.2).mono ?_
  rintro e w' ⟨h, hk⟩
  rw [if_pos hI] at h
  refine ⟨?_, hk⟩
  by_cases hin : 0 ≤ n ∧ n < gridA g * gridD g
  · rw [if_pos hin] at h; rw [h]; simp [inT, ifT, hin]
  · rw [if_neg hin] at h; rw [h]; simp [inT, ifT, hin]
theorem ref_rect_val (g : GrD) (n : Int) (w : World) (hI : gridI g = 0) :
    Calls Tryz.prog 24 #[.agg #[.bool g.re.neg, .string g.re.n, .int .i64 g.re.e, .bool g.im.neg, .string g.im.n, .int .i64 g.im.e, .int .i64 g.exp, .int .i64 g.across, .int .i64 g.down, .int .i64 g.wide, .int .i64 g.high], .int .i64 n] w fun e w' => e = .returned (.tuple #[.agg #[.int .i64 (ifT (inT g n) (rectX g n)), .int .i64 (ifT (inT g n) (rectY g n)), .int .i64 (ifT (inT g n) (rectW g n)), .int .i64 (ifT (inT g n) (rectH g n))], .bool (inT g n)]) ∧ Kept w w' := by
  refine (refRect_any g n w hI).mono ?_
  rintro e w' ⟨h, hk⟩
  refine ⟨?_, hk⟩
  rw [h]
  unfold rectV
  by_cases hin : 0 ≤ n ∧ n < gridA g * gridD g
  · rw [if_pos hin]; simp [inT, ifT, hin]
  · rw [if_neg hin]; simp [inT, ifT, hin]
theorem at_valG (g : GrD) (x y : Int) (w : World) (hg : g.ok) (hI : gridI g = 0) (x0 : -9223372036854775808 ≤ x) (x1 : x ≤ 9223372036854775807) (y0 : -9223372036854775808 ≤ y) (y1 : y ≤ 9223372036854775807) :
    Calls Tryz.prog 21 #[.agg #[.bool g.re.neg, .string g.re.n, .int .i64 g.re.e, .bool g.im.neg, .string g.im.n, .int .i64 g.im.e, .int .i64 g.exp, .int .i64 g.across, .int .i64 g.down, .int .i64 g.wide, .int .i64 g.high], .int .i64 x, .int .i64 y] w fun e w' => e = .returned (.tuple #[.int .i64 (atV g x y), .int .i64 (erV g x y)]) ∧ Kept w w' := by
  refine (tat_any g x y w hg x0 x1 y0 y1).mono ?_
  rintro e w' ⟨h, hk⟩
  rw [if_pos hI] at h
  refine ⟨?_, hk⟩
  have hb : inG g x y = true ↔ 0 ≤ x ∧ 0 ≤ y ∧ x < g.across ∧ y < g.down := inG_iff
  unfold atV erV
  by_cases hin : 0 ≤ x ∧ 0 ≤ y ∧ x < g.across ∧ y < g.down
  · rw [if_pos hin] at h; rw [if_pos (hb.2 hin), if_pos (hb.2 hin)]; exact h
  · rw [if_neg hin] at h; rw [if_neg (fun k => hin (hb.1 k)), if_neg (fun k => hin (hb.1 k))]; exact h
/-- The counter's box, and what stays. -/
structure CI (X W : World) (B : Nat) (k : Int) : Prop where
  low : Below B X W
  c : W.cell? ⟨B, 0, none⟩ = some (.int .i64 k)
  f : W.frozen? ⟨B, 0, none⟩ = false
theorem CI.stable {X W W' : World} {B base : Nat} {k : Int} {row : Option Nat} (i : CI X W B k) (hB : B ≤ base) (hX : B ≤ X.heap.size) (hg : W.grownBy W' row) (hr : ∀ r, row = some r → base ≤ r ∧ ∃ o : Obj, W.heap[r]? = some o ∧ o.isCells = false) : CI X W' B k := by
  have hr' : ∀ r, row = some r → ∃ o : Obj, W.heap[r]? = some o ∧ o.isCells = false := fun r e => (hr r e).2
  exact ⟨i.low.grown hg (Nat.le_trans hX i.low.size) (fun r e => Nat.le_trans hB (hr r e).1), cell_kept i.c hg hr', (frozen_kept i.c hg hr').trans i.f⟩
theorem CI.kept {X W W' : World} {B : Nat} {k : Int} (i : CI X W B k) (h : Kept W W') (hX : B ≤ X.heap.size) : CI X W' B k :=
  ⟨i.low.trans (Below.mono h (Nat.le_trans hX i.low.size)), (h.cells _ _ (lt_of_cell i.c)).trans i.c, (h.thaw _ _ (lt_of_cell i.c)).trans i.f⟩
theorem CI.set {X W : World} {B : Nat} {k : Int} (i : CI X W B k) (u : Int) : CI X (W.setCell ⟨B, 0, none⟩ (.int .i64 u)) B u :=
  ⟨i.low.setCell (p := ⟨B, 0, none⟩) (Nat.le_refl _) _, World.cell?_setCell_same _ _ _ i.c, (World.frozen?_setCell _ _ _ _).trans i.f⟩
theorem CI.here {X W : World} {B : Nat} {k : Int} (i : CI X W B k) : CI W W B k := ⟨Below.refl _ _, i.c, i.f⟩
theorem kept_from {W W' : World} (h : Kept W W') (B : Nat) : KeepsFrom B W W' := ⟨h.size, fun k _ _ hk _ => (h.block k (Array.getElem?_eq_some_iff.1 hk).1).trans hk⟩
theorem callsIn_roundG {l n : Nat} {P : Program} {f : FuncId} {args : Array Value} {w : World} {R : Ending → World → Prop} (h : Calls P f args w R) : CallsIn (Fence.wide.inRound l) n P f args w R := callsIn_wide.2 h
/-- Two rectangles of the same numbers are the same. -/
theorem rect_eq (X Y U V : Int) (W : World) : (Op.equalIn 10000 38 (.agg #[.int .i64 X, .int .i64 Y, .int .i64 U, .int .i64 V]) (.agg #[.int .i64 X, .int .i64 Y, .int .i64 U, .int .i64 V])).run Tryz.prog W = .ok true W := by
  have h66 : Tryz.prog.fieldsOf 38 = #[{ name := "Column", type := 3, offset := 0, embedded := false, tag := "", pkgPath := "", byteOffset := 0 },
          { name := "Row", type := 3, offset := 1, embedded := false, tag := "", pkgPath := "", byteOffset := 8 },
          { name := "Across", type := 3, offset := 2, embedded := false, tag := "", pkgPath := "", byteOffset := 16 },
          { name := "Down", type := 3, offset := 3, embedded := false, tag := "", pkgPath := "", byteOffset := 24 }] := by kernel_rfl
  have h67 : Tryz.prog.stoodInHeld 38 = false := by kernel_rfl
  have hp : Tryz.prog.plainKey 3 = true := by kernel_rfl
  have p := fun (off : Nat) (v : Value) (h : (#[.int .i64 X, .int .i64 Y, .int .i64 U, .int .i64 V] : Array Value)[off]? = some v) => run_part_plain (P := Tryz.prog) (w := W) hp (off := off) h
  have p0 := p 0 (.int .i64 X) rfl
  have p1 := p 1 (.int .i64 Y) rfl
  have p2 := p 2 (.int .i64 U) rfl
  have p3 := p 3 (.int .i64 V) rfl
  have e : ∀ a : Int, (Op.equalIn 9999 3 (.int .i64 a) (.int .i64 a)).run Tryz.prog W = .ok (a == a) W := fun a => run_equalIn_int (P := Tryz.prog) W 9998 3 .i64 .i64 a a Tryz.underlying3
  rw [show (10000 : Nat) = 9999 + 1 from rfl, run_equalIn_agg W 9999 38 _ _ (by rw [h66]; exact Tryz.underlying38) h67, h66]
  simp [Op.eqFields, p0, p1, p2, p3, e]

set_option maxRecDepth 100000 in
set_option maxHeartbeats 3200000 in
theorem grids_on (g : GrD) (n x y lv : Int) (w : World) (hg : g.ok) (hI : gridI g = 0) (hn : in64 n) (hx : in64 x) (hy : in64 y) (hl : in64 lv) (hH : HpOK id0 4096 laidH w) :
    Calls Tryz.prog 7 #[.agg #[.bool g.re.neg, .string g.re.n, .int .i64 g.re.e, .bool g.im.neg, .string g.im.n, .int .i64 g.im.e, .int .i64 g.exp, .int .i64 g.across, .int .i64 g.down, .int .i64 g.wide, .int .i64 g.high], .int .i64 n, .int .i64 x, .int .i64 y, .int .i64 lv] w fun e w' => e = .returned (.bool true) ∧ Kept w w' := by
  have CK : Hid (∀ W, Calls Tryz.prog 17 #[.agg #[.bool g.re.neg, .string g.re.n, .int .i64 g.re.e, .bool g.im.neg, .string g.im.n, .int .i64 g.im.e, .int .i64 g.exp, .int .i64 g.across, .int .i64 g.down, .int .i64 g.wide, .int .i64 g.high]] W fun e w' => e = .returned (.int .i64 0) ∧ Kept W w') := fun W => by
    have := refCheck_any g W hg
    rwa [hI] at this
  have CV : Hid (∀ W, Calls Tryz.prog 18 #[.agg #[.bool g.re.neg, .string g.re.n, .int .i64 g.re.e, .bool g.im.neg, .string g.im.n, .int .i64 g.im.e, .int .i64 g.exp, .int .i64 g.across, .int .i64 g.down, .int .i64 g.wide, .int .i64 g.high]] W fun e w' => e = .returned (.int .i64 0) ∧ Kept W w') := fun W => by
    have := tcheck_any g W hg
    rwa [hI] at this
  have CC : Hid (∀ W, Calls Tryz.prog 19 #[.agg #[.bool g.re.neg, .string g.re.n, .int .i64 g.re.e, .bool g.im.neg, .string g.im.n, .int .i64 g.im.e, .int .i64 g.exp, .int .i64 g.across, .int .i64 g.down, .int .i64 g.wide, .int .i64 g.high]] W fun e w' => e = .returned (.tuple #[.int .i64 (gridA g), .int .i64 (gridD g), .int .i64 0]) ∧ Kept W w') := fun W => by
    have := tcount_any g W hg
    rwa [show cntA g = gridA g by simp [cntA, hI], show cntD g = gridD g by simp [cntD, hI], hI] at this
  have CR := hide (fun (W : World) => rect_val g n W hg hI hn)
  have CA : Hid (∀ W, Calls Tryz.prog 21 #[.agg #[.bool g.re.neg, .string g.re.n, .int .i64 g.re.e, .bool g.im.neg, .string g.im.n, .int .i64 g.im.e, .int .i64 g.exp, .int .i64 g.across, .int .i64 g.down, .int .i64 g.wide, .int .i64 g.high], .int .i64 x, .int .i64 y] W fun e w' => e = .returned (.tuple #[.int .i64 (atV g x y), .int .i64 (if inG g x y then 0 else 241)]) ∧ Kept W w') := fun W => (at_valG g x y W hg hI hx.1 hx.2 hy.1 hy.2).mono fun e w' h => by
    unfold erV at h
    exact h
  have CRS := hide (fun (W : World) => rects_any g W)
  obtain ⟨hB, hm⟩ := gridI_ok hI
  have RC := hide (fun (W : World) => refCount_any g W hB)
  have RR := hide (fun (W : World) => ref_rect_val g n W hI)
  have RK := hide (fun (W : World) (k : Int) => ref_rect_val g k W hI)
  have RA := hide (fun (W : World) => refAt_any g x y W hI)
  have CL := hide (fun (W : World) (h : Kept w W) => lives_any (laid_keptG hH h))
  obtain ⟨ga0, ga1⟩ := hB.gA
  obtain ⟨gd0, gd1⟩ := hB.gD
  have HG := hide hg
  have HI := hide hI
  have HBd := hide hB
  have p1 : 0 ≤ gridA g * gridD g := Int.mul_nonneg (by omega) (by omega)
  have HN := hide (show ((rectsN g : Nat) : Int) = gridA g * gridD g by
    have c1 : cntA g = gridA g := by simp [cntA, hI]
    have c2 : cntD g = gridD g := by simp [cntD, hI]
    unfold rectsN; rw [c1, c2]; exact Int.toNat_of_nonneg p1)
  have p2 : gridA g * gridD g ≤ 65536 := hm
  have hAD : ∀ k : Nat, (k : Int) < gridA g * gridD g → inT g k = true := fun k hk => by simp [inT]; omega
  have m1 : IntKind.i64.wrap (gridA g * gridD g) = gridA g * gridD g := IntWalk.i64_in _ (by omega)
  have HL := hide hl
  obtain ⟨T, hT⟩ : ∃ T, T = inT g n := ⟨_, rfl⟩
  obtain ⟨J, hJ⟩ : ∃ J, J = inG g x y := ⟨_, rfl⟩
  obtain ⟨Z, hZ⟩ : ∃ Z, Z = atV g x y := ⟨_, rfl⟩
  rw [← hT] at CR RR
  rw [← hJ, ← hZ] at CA RA
  obtain ⟨eT, heT⟩ : ∃ e : Int, e = if T then 0 else 2 := ⟨_, rfl⟩
  obtain ⟨eJ, heJ⟩ : ∃ e : Int, e = if J then 0 else 241 := ⟨_, rfl⟩
  rw [← heT] at CR
  rw [← heJ] at CA
  have HT := hide heT
  have HJ := hide heJ
  obtain ⟨X0, hX0⟩ : ∃ X0, X0 = ifT T (rectX g n) := ⟨_, rfl⟩
  obtain ⟨Y0, hY0⟩ : ∃ X0, X0 = ifT T (rectY g n) := ⟨_, rfl⟩
  obtain ⟨U0, hU0⟩ : ∃ X0, X0 = ifT T (rectW g n) := ⟨_, rfl⟩
  obtain ⟨V0, hV0⟩ : ∃ X0, X0 = ifT T (rectH g n) := ⟨_, rfl⟩
  rw [← hX0, ← hY0, ← hU0, ← hV0] at CR RR
  obtain ⟨A, hA⟩ : ∃ A, A = gridA g := ⟨_, rfl⟩
  obtain ⟨D, hD⟩ : ∃ D, D = gridD g := ⟨_, rfl⟩
  rw [← hA, ← hD] at CC RC m1 HN p1 p2 hAD
  obtain ⟨W0, hW0⟩ : ∃ W0, W0 = ((w.alloc (.cells #[.bool g.re.neg, .string g.re.n, .int .i64 g.re.e, .bool g.im.neg, .string g.im.n, .int .i64 g.im.e, .int .i64 g.exp, .int .i64 g.across, .int .i64 g.down, .int .i64 g.wide, .int .i64 g.high] 31)).alloc (.cells #[.int .i64 lv] 3)).alloc (.cells #[.bool false] 4) := ⟨_, rfl⟩
  have P0 := hide (show GB W0 w.heap.size g lv by rw [hW0]; exact GB.new w g lv)
  have K0 := hide (show Kept w W0 by rw [hW0]; exact own_keptG w g lv)
  have hre : ∀ W, (Op.equalIn 10000 38 (.agg #[.int .i64 X0, .int .i64 Y0, .int .i64 U0, .int .i64 V0]) (.agg #[.int .i64 X0, .int .i64 Y0, .int .i64 U0, .int .i64 V0])).run Tryz.prog W = .ok true W := rect_eq X0 Y0 U0 V0
  have HAD := hide hAD
  clear hAD hI hg hH hn hx hy hl hB hm hT hJ hZ heT heJ hX0 hY0 hU0 hV0 hA hD ga0 ga1 gd0 gd1
  refine callsIn_wide.1 (callsIn_of_wp_marks (n := 5) Tryz.func7 rfl trivial ?_ rfl)
  simp only [Tryz.ntmps7, List.size_toArray, List.length_cons, List.length_nil, Nat.reduceAdd, Nat.reduceSub, Array.replicate_succ, Array.replicate_zero, List.push_toArray, List.append_toArray, List.nil_append, List.cons_append]
  refine wpIn_wide.2 ?_
  obtain ⟨⟨q0, q1, q2, q3, q4, q5, q6, q7, q8, q9, q10⟩, cl, cr, fr, lt⟩ := P0.out
  go_upto_region 1 with fail
  rw [← hW0]
  clear hW0
  go_wp2_with fail
  refine (CK.out _).mono ?_
  rintro e w1 ⟨rfl, hk1⟩
  have K01 := hide (show Kept W0 w1 from hk1)
  have K1 := hide (show Kept w w1 from K0.out.trans' hk1)
  have P1 := hide (P0.out.kept hk1)
  clear q0 q1 q2 q3 q4 q5 q6 q7 q8 q9 q10 cl cr fr lt hk1
  obtain ⟨⟨q0, q1, q2, q3, q4, q5, q6, q7, q8, q9, q10⟩, cl, cr, fr, lt⟩ := P1.out
  go_wp2_with fail
  refine (CV.out _).mono ?_
  rintro e w2 ⟨rfl, hk2⟩
  have K12 := hide (show Kept w1 w2 from hk2)
  have K2 := hide (show Kept w w2 from K1.out.trans' hk2)
  have P2 := hide (P1.out.kept hk2)
  clear q0 q1 q2 q3 q4 q5 q6 q7 q8 q9 q10 cl cr fr lt hk2
  obtain ⟨⟨q0, q1, q2, q3, q4, q5, q6, q7, q8, q9, q10⟩, cl, cr, fr, lt⟩ := P2.out
  go_wp2_with fail
  refine (CC.out _).mono ?_
  rintro e w3 ⟨rfl, hk3⟩
  have K23 := hide (show Kept w2 w3 from hk3)
  have K3 := hide (show Kept w w3 from K2.out.trans' hk3)
  have P3 := hide (P2.out.kept hk3)
  clear q0 q1 q2 q3 q4 q5 q6 q7 q8 q9 q10 cl cr fr lt hk3
  obtain ⟨⟨q0, q1, q2, q3, q4, q5, q6, q7, q8, q9, q10⟩, cl, cr, fr, lt⟩ := P3.out
  go_wp2_with fail
  refine (CR.out _).mono ?_
  rintro e w4' ⟨rfl, hk4⟩
  obtain ⟨w4, hw4⟩ : ∃ X, X = w4'.alloc (.cells #[.int .i64 X0, .int .i64 Y0, .int .i64 U0, .int .i64 V0] 38) := ⟨_, rfl⟩
  have hk4' : Kept w3 w4 := by rw [hw4]; exact (show Kept w3 w4' from hk4).trans' ((Below.refl _ _).alloc (Nat.le_refl _) _)
  have BR4 : Hid (RBx w4 w4'.heap.size X0 Y0 U0 V0) := by show RBx _ _ _ _ _ _; rw [hw4]; exact RBx.new _ _ _ _ _ _
  have K4 := hide (show Kept w w4 from K3.out.trans' hk4')
  have P4 := hide (P3.out.kept hk4')
  go_upto_region 6 with fail
  rw [← hw4]
  clear hw4 hk4 hk4' q0 q1 q2 q3 q4 q5 q6 q7 q8 q9 q10 cl cr fr lt
  obtain ⟨⟨q0, q1, q2, q3, q4, q5, q6, q7, q8, q9, q10⟩, cl, cr, fr, lt⟩ := P4.out
  go_wp2_with fail
  refine (CA.out _).mono ?_
  rintro e w5 ⟨rfl, hk5⟩
  have K45 := hide (show Kept w4 w5 from hk5)
  have K5 := hide (show Kept w w5 from K4.out.trans' hk5)
  have P5 := hide (P4.out.kept hk5)
  clear q0 q1 q2 q3 q4 q5 q6 q7 q8 q9 q10 cl cr fr lt hk5
  obtain ⟨⟨q0, q1, q2, q3, q4, q5, q6, q7, q8, q9, q10⟩, cl, cr, fr, lt⟩ := P5.out
  go_wp2_with fail
  refine (CRS.out _).mono ?_
  rintro e w6' ⟨rfl, rfl⟩
  have hf1 : ∀ W, (binOp .eql 44 (.func (.func 60) #[] #[.pointer (some ⟨w5.heap.size, 0, none⟩)]) .nilFunc).run Tryz.prog W = .ok (.bool false) W := fun W => by kernel_rfl
  obtain ⟨Y, hY⟩ : ∃ Y, Y = w5.alloc (.cells #[.bool g.re.neg, .string g.re.n, .int .i64 g.re.e, .bool g.im.neg, .string g.im.n, .int .i64 g.im.e, .int .i64 g.exp, .int .i64 g.across, .int .i64 g.down, .int .i64 g.wide, .int .i64 g.high] 31) := ⟨_, rfl⟩
  have kY : Kept w5 Y := by rw [hY]; exact (Below.refl _ _).alloc (Nat.le_refl _) _
  have ZY : Hid (Y.heap.size = w5.heap.size + 1) := by show Y.heap.size = _; rw [hY]; simp
  have K6 : Hid (Kept w Y) := K5.out.trans' kY
  have P6 : Hid (GB Y w.heap.size g lv) := P5.out.kept kY
  have BR6 : Hid (RBx Y w4'.heap.size X0 Y0 U0 V0) := (BR4.out.kept K45.out).kept kY
  have HG6 : Hid (GBox Y w5.heap.size g) := by show GBox _ _ _; rw [hY]; exact GBox.new _ _ _ _ rfl
  rw [← hY]
  clear hY kY q0 q1 q2 q3 q4 q5 q6 q7 q8 q9 q10 cl cr fr lt
  obtain ⟨⟨q0, q1, q2, q3, q4, q5, q6, q7, q8, q9, q10⟩, cl, cr, fr, lt⟩ := P6.out
  go_wp2_with fail
  refine (RC.out _).mono ?_
  rintro e w7 ⟨rfl, hk7⟩
  have K67 := hide (show Kept Y w7 from hk7)
  have K7 := hide (show Kept w w7 from K6.out.trans' K67.out)
  have P7 := hide (P6.out.kept hk7)
  clear q0 q1 q2 q3 q4 q5 q6 q7 q8 q9 q10 cl cr fr lt hk7
  obtain ⟨⟨q0, q1, q2, q3, q4, q5, q6, q7, q8, q9, q10⟩, cl, cr, fr, lt⟩ := P7.out
  go_wp2_with fail
  refine (RR.out _).mono ?_
  rintro e w8' ⟨rfl, hk8⟩
  obtain ⟨w8, hw8⟩ : ∃ X, X = w8'.alloc (.cells #[.int .i64 X0, .int .i64 Y0, .int .i64 U0, .int .i64 V0] 38) := ⟨_, rfl⟩
  have hk8' : Kept w7 w8 := by rw [hw8]; exact (show Kept w7 w8' from hk8).trans' ((Below.refl _ _).alloc (Nat.le_refl _) _)
  have BS8 : Hid (RBx w8 w8'.heap.size X0 Y0 U0 V0) := by show RBx _ _ _ _ _ _; rw [hw8]; exact RBx.new _ _ _ _ _ _
  have K68 := hide (show Kept Y w8 from K67.out.trans' hk8')
  have K8 := hide (show Kept w w8 from K7.out.trans' hk8')
  have P8 := hide (P7.out.kept hk8')
  go_upto_region 16 with fail
  rw [← hw8]
  clear hw8 hk8 hk8' q0 q1 q2 q3 q4 q5 q6 q7 q8 q9 q10 cl cr fr lt
  obtain ⟨⟨q0, q1, q2, q3, q4, q5, q6, q7, q8, q9, q10⟩, cl, cr, fr, lt⟩ := P8.out
  go_wp2_with fail
  refine (RA.out _).mono ?_
  rintro e w9 ⟨rfl, hk9⟩
  have K89 := hide (show Kept w8 w9 from hk9)
  have K69 := hide (show Kept Y w9 from K68.out.trans' hk9)
  have K9 := hide (show Kept w w9 from K8.out.trans' hk9)
  have P9 := hide (P8.out.kept hk9)
  have BR9 := hide (BR6.out.kept K69.out)
  have BS9 := hide (BS8.out.kept K89.out)
  clear q0 q1 q2 q3 q4 q5 q6 q7 q8 q9 q10 cl cr fr lt hk9
  obtain ⟨⟨q0, q1, q2, q3, q4, q5, q6, q7, q8, q9, q10⟩, cl, cr, fr, lt⟩ := P9.out
  obtain ⟨r0, r1, r2, r3⟩ := BR9.out
  obtain ⟨s0, s1, s2, s3⟩ := BS9.out
  have hrl := BR9.out.lt
  have hsl := BS9.out.lt
  go_upto_region 17 with fail
  go_cut [169] from 120 to 168 (fun v wx => v = .bool false ∧ w9 = wx)
  case first =>
    cases T with
    | true =>
      obtain rfl : eT = 0 := HT.out
      cases J with
      | true =>
        obtain rfl : eJ = 0 := HJ.out
        go_wp2_with fail
        go_meet
        exact ⟨rfl, rfl⟩
      | false =>
        obtain rfl : eJ = 241 := HJ.out
        go_wp2_with fail
        go_meet
        exact ⟨rfl, rfl⟩
    | false =>
      obtain rfl : eT = 2 := HT.out
      cases J with
      | true =>
        obtain rfl : eJ = 0 := HJ.out
        go_wp2_with fail
        go_meet
        exact ⟨rfl, rfl⟩
      | false =>
        obtain rfl : eJ = 241 := HJ.out
        go_wp2_with fail
        go_meet
        exact ⟨rfl, rfl⟩
  case rest =>
    obtain ⟨rfl, rfl⟩ := hcut
    clear hre r0 r1 r2 r3 s0 s1 s2 s3 hrl hsl
    go_upto_region 19 with fail
    obtain ⟨X, hX⟩ : ∃ X, X = w9.alloc (.cells #[.int .i64 0] 3) := ⟨_, rfl⟩
    have kX : Kept w9 X := by rw [hX]; exact (Below.refl _ _).alloc (Nat.le_refl _) _
    have ZX : Hid (X.heap.size = w9.heap.size + 1) := by show X.heap.size = _; rw [hX]; simp
    have CX : Hid (CI X X w9.heap.size 0) := by
      have c0 := (Boxed.new w9 3 (.int .i64 0)).cell
      have e0 := fresh_frozen w9 #[.int .i64 0] 3 0
      rw [← hX] at c0 e0
      exact ⟨Below.refl _ _, c0, e0⟩
    have KX : Hid (Kept w X) := K9.out.trans' kX
    have PX : Hid (GB X w.heap.size g lv) := P9.out.kept kX
    have KYX : Hid (Kept Y X) := K69.out.trans' kX
    have hGX : GBox X w5.heap.size g := (HG6.out).below KYX.out (by have := ZY.out; omega)
    have hz5 : Hid (w5.heap.size < w9.heap.size) := by show w5.heap.size < w9.heap.size; have := ZY.out; have := K69.out.size; omega
    have hzs : Hid (w.heap.size + 1 + 1 < w9.heap.size) := P9.out.lt
    go_wp2_with fail
    rw [← hX]
    clear hX kX q0 q1 q2 q3 q4 q5 q6 q7 q8 q9 q10 cl cr fr lt
    rename_i K hK
    have rest : ∀ (D1 : Nat) (k : Nat) (W : World), X.heap.size ≤ D1 → k ≤ rectsN g → CI X W w9.heap.size k → ((k : Int) = lv ∨ k = rectsN g) → W.heap[D1]? = some (.deferred (some [])) → K { tmps := #[.agg #[.bool g.re.neg, .string g.re.n, .int .i64 g.re.e, .bool g.im.neg, .string g.im.n, .int .i64 g.im.e, .int .i64 g.exp, .int .i64 g.across, .int .i64 g.down, .int .i64 g.wide, .int .i64 g.high], .int .i64 (n), .int .i64 (x), .int .i64 (y), .int .i64 (lv), .pointer (some ⟨w.heap.size, 0, none⟩), undef, undef, undef, .pointer (some ⟨w.heap.size + 1, 0, none⟩), .pointer (some ⟨w.heap.size + 1 + 1, 0, none⟩), .int .i64 (0), .int .i64 (A), .int .i64 (D), .int .i64 (0), .pointer (some ⟨w4'.heap.size, 0, none⟩), .int .i64 (eT), .int .i64 (Z), .int .i64 (eJ), .func (.func 60) #[] #[.pointer (some ⟨w5.heap.size, 0, none⟩)], .int .i64 (A), .int .i64 (D), .pointer (some ⟨w8'.heap.size, 0, none⟩), .bool T, .int .i64 (Z), .bool J, .pointer (some ⟨w9.heap.size, 0, none⟩), undef, undef, undef, undef, undef, undef, undef, undef, .agg #[.bool g.re.neg, .string g.re.n, .int .i64 g.re.e, .bool g.im.neg, .string g.im.n, .int .i64 g.im.e, .int .i64 g.exp, .int .i64 g.across, .int .i64 g.down, .int .i64 g.wide, .int .i64 g.high], .int .i64 (0), .agg #[.bool g.re.neg, .string g.re.n, .int .i64 g.re.e, .bool g.im.neg, .string g.im.n, .int .i64 g.im.e, .int .i64 g.exp, .int .i64 g.across, .int .i64 g.down, .int .i64 g.wide, .int .i64 g.high], .int .i64 (0), .int .i64 (0), .bool false, .tuple #[.int .i64 (A), .int .i64 (D), .int .i64 (0)], .agg #[.bool g.re.neg, .string g.re.n, .int .i64 g.re.e, .bool g.im.neg, .string g.im.n, .int .i64 g.im.e, .int .i64 g.exp, .int .i64 g.across, .int .i64 g.down, .int .i64 g.wide, .int .i64 g.high], .tuple #[.int .i64 (A), .int .i64 (D), .int .i64 (0)], .int .i64 (A), .int .i64 (D), .int .i64 (0), .tuple #[.agg #[.int .i64 X0, .int .i64 Y0, .int .i64 U0, .int .i64 V0], .int .i64 (eT)], .agg #[.bool g.re.neg, .string g.re.n, .int .i64 g.re.e, .bool g.im.neg, .string g.im.n, .int .i64 g.im.e, .int .i64 g.exp, .int .i64 g.across, .int .i64 g.down, .int .i64 g.wide, .int .i64 g.high], .int .i64 (n), .tuple #[.agg #[.int .i64 X0, .int .i64 Y0, .int .i64 U0, .int .i64 V0], .int .i64 (eT)], .agg #[.int .i64 X0, .int .i64 Y0, .int .i64 U0, .int .i64 V0], .int .i64 (eT), .tuple #[.int .i64 (Z), .int .i64 (eJ)], .agg #[.bool g.re.neg, .string g.re.n, .int .i64 g.re.e, .bool g.im.neg, .string g.im.n, .int .i64 g.im.e, .int .i64 g.exp, .int .i64 g.across, .int .i64 g.down, .int .i64 g.wide, .int .i64 g.high], .int .i64 (x), .int .i64 (y), .tuple #[.int .i64 (Z), .int .i64 (eJ)], .int .i64 (Z), .int .i64 (eJ), .agg #[.bool g.re.neg, .string g.re.n, .int .i64 g.re.e, .bool g.im.neg, .string g.im.n, .int .i64 g.im.e, .int .i64 g.exp, .int .i64 g.across, .int .i64 g.down, .int .i64 g.wide, .int .i64 g.high], .func (.func 60) #[] #[.pointer (some ⟨w5.heap.size, 0, none⟩)], .func (.func 60) #[] #[.pointer (some ⟨w5.heap.size, 0, none⟩)], .bool false, .int .i64 (0), .bool false, undef, undef, undef, undef, undef, undef, undef, undef, undef, undef, undef, undef, undef, undef, undef, undef, undef, undef, undef, undef, undef, undef, undef, undef, undef, undef, undef, undef, undef, undef, undef, undef, undef, undef, undef, undef, .tuple #[.int .i64 (A), .int .i64 (D)], .agg #[.bool g.re.neg, .string g.re.n, .int .i64 g.re.e, .bool g.im.neg, .string g.im.n, .int .i64 g.im.e, .int .i64 g.exp, .int .i64 g.across, .int .i64 g.down, .int .i64 g.wide, .int .i64 g.high], .tuple #[.int .i64 (A), .int .i64 (D)], .int .i64 (A), .int .i64 (D), .tuple #[.agg #[.int .i64 X0, .int .i64 Y0, .int .i64 U0, .int .i64 V0], .bool T], .agg #[.bool g.re.neg, .string g.re.n, .int .i64 g.re.e, .bool g.im.neg, .string g.im.n, .int .i64 g.im.e, .int .i64 g.exp, .int .i64 g.across, .int .i64 g.down, .int .i64 g.wide, .int .i64 g.high], .int .i64 (n), .tuple #[.agg #[.int .i64 X0, .int .i64 Y0, .int .i64 U0, .int .i64 V0], .bool T], .agg #[.int .i64 X0, .int .i64 Y0, .int .i64 U0, .int .i64 V0], .bool T, .tuple #[.int .i64 (Z), .bool J], .agg #[.bool g.re.neg, .string g.re.n, .int .i64 g.re.e, .bool g.im.neg, .string g.im.n, .int .i64 g.im.e, .int .i64 g.exp, .int .i64 g.across, .int .i64 g.down, .int .i64 g.wide, .int .i64 g.high], .int .i64 (x), .int .i64 (y), .tuple #[.int .i64 (Z), .bool J], .int .i64 (Z), .bool J, u120, u121, u122, u123, u124, u125, u126, u127, u128, u129, u130, u131, u132, u133, u134, u135, u136, u137, u138, u139, u140, u141, u142, u143, u144, u145, u146, u147, u148, u149, u150, u151, u152, u153, u154, u155, u156, u157, u158, u159, u160, u161, u162, u163, u164, u165, u166, u167, u168, .bool false, .func (.func 60) #[] #[.pointer (some ⟨w5.heap.size, 0, none⟩)], undef, undef, undef, undef, undef, undef, undef, undef, undef, undef, undef, undef, undef, undef, undef, undef, undef, undef, undef, undef, undef, undef, undef, undef, undef, undef, undef, undef, undef, undef, undef, undef, undef, undef, undef, undef, undef, undef, undef, undef, undef, undef, undef, undef, undef, undef, undef, undef, undef, undef, undef, undef, undef, undef, undef, undef, undef, undef, undef, undef, undef], defers := [{ target := .collected D1, args := #[] }] } W := by
      intro D1 k W hD1 hkN hci hend hdef
      refine hK _ _ ?_
      dsimp only
      have hG := hide (GBox.below hGX hci.low hz5.out)
      have hP := hide (PX.out.belowB hci.low hzs.out)
      have HC := hide hci
      have HD := hide hdef
      have cB := hci.c
      have fB := hci.f
      have cl := hP.out.cl
      have hzl := lt_of_cell cB
      go_upto_region 28 with fail
      go_cut [201] from 192 to 200 (fun v wx => v = .bool false ∧ W = wx)
      case first =>
        by_cases h1 : (k : Int) = lv
        · have t1 : ((k : Int) != lv) = false := by simpa using h1
          go_wp2_with fail
          go_meet
          exact ⟨rfl, rfl⟩
        · have h2 : (k : Int) = A * D := by have := HN.out; omega
          have t1 : ((k : Int) != lv) = true := by simpa using h1
          have t2 : ((k : Int) != A * D) = false := by simpa using h2
          go_wp2_with fail
          go_meet
          exact ⟨rfl, rfl⟩
      case rest =>
        obtain ⟨rfl, rfl⟩ := hcut
        go_upto_region 31 with fail
        obtain ⟨X2, hX2⟩ : ∃ X2, X2 = W.setCell ⟨w9.heap.size, 0, none⟩ (.int .i64 0) := ⟨_, rfl⟩
        have C2 : Hid (CI X X2 w9.heap.size 0) := by show CI _ _ _ _; rw [hX2]; exact HC.out.set 0
        have D2 : Hid (X2.heap[D1]? = some (.deferred (some []))) := by show X2.heap[D1]? = _; rw [hX2]; exact (KeepsOthers.setCell W _ _).same D1 _ HD.out rfl
        have S2 : Hid (D1 < X2.heap.size) := (Array.getElem?_eq_some_iff.1 D2.out).1
        have G2 : GBox X2 w5.heap.size g := GBox.below hGX C2.out.low hz5.out
        have P2 : Hid (GB X2 w.heap.size g lv) := PX.out.belowB C2.out.low hzs.out
        have K2 : Hid (Kept w X2) := KX.out.trans (C2.out.low.mono (by have := hzs.out; omega))
        have hs2 : X.heap.size ≤ X2.heap.size := C2.out.low.size
        have HS2 := hide hs2
        rw [← hX2]
        clear hX2 cB fB cl hzl hci hdef hs2 HC HD
        go_wp2_with fail
        refine (wpIn_wide (n := 5)).1 (wpIn_rangeOffers (α := Nat) rfl (by decide) (gf := 60) (lb := #[.pointer (some ⟨w5.heap.size, 0, none⟩)]) rfl trivial (enters_of Tryz.func60 (by kernel_rfl) rfl)
          (rects_offersO (BKeep w5.heap.size) 4 (by omega) w5.heap.size X2.heap.size g (fun _ _ h hb => h.box hb) (fun _ _ h => h.1) HG.out X2 (by have := ZX.out; have := hz5.out; have := HS2.out; omega) (Nat.le_refl _) G2)
          (fun h k => h.trans k) (fun W l o o' _ h1 h2 _ => BKeep.putObj W l o o' h1 h2) (Below.refl _ _) (fun _ => rfl)
          (fun pre W' => CI X2 W' w9.heap.size pre.length ∧ W'.heap[D1]? = some (.deferred (some [])))
          (fun c pre W' => c = .ret ∧ W'.cell? ⟨w.heap.size + 1 + 1, 0, none⟩ = some (.bool true) ∧ Kept w W' ∧ W'.heap[D1]? = some (.deferred (some []))) ?hI ?hIx ⟨C2.out.here, D2.out⟩
          (fun k a' W' => W'.cell? ⟨w9.heap.size, 0, none⟩ = some (.int .i64 (k : Nat)) ∧ (k : Int) < A * D ∧ ∃ Bx, w9.heap.size < Bx ∧ RBx W' Bx (rectX g k) (rectY g k) (rectW g k) (rectH g k) ∧ a' = { tmps := #[.agg #[.bool g.re.neg, .string g.re.n, .int .i64 g.re.e, .bool g.im.neg, .string g.im.n, .int .i64 g.im.e, .int .i64 g.exp, .int .i64 g.across, .int .i64 g.down, .int .i64 g.wide, .int .i64 g.high], .int .i64 (n), .int .i64 (x), .int .i64 (y), .int .i64 (lv), .pointer (some ⟨w.heap.size, 0, none⟩), undef, undef, undef, .pointer (some ⟨w.heap.size + 1, 0, none⟩), .pointer (some ⟨w.heap.size + 1 + 1, 0, none⟩), .int .i64 (0), .int .i64 (A), .int .i64 (D), .int .i64 (0), .pointer (some ⟨w4'.heap.size, 0, none⟩), .int .i64 (eT), .int .i64 (Z), .int .i64 (eJ), .func (.func 60) #[] #[.pointer (some ⟨w5.heap.size, 0, none⟩)], .int .i64 (A), .int .i64 (D), .pointer (some ⟨w8'.heap.size, 0, none⟩), .bool T, .int .i64 (Z), .bool J, .pointer (some ⟨w9.heap.size, 0, none⟩), undef, undef, undef, undef, .int .i64 ((k : Nat)), .pointer (some ⟨Bx, 0, none⟩), undef, undef, .agg #[.bool g.re.neg, .string g.re.n, .int .i64 g.re.e, .bool g.im.neg, .string g.im.n, .int .i64 g.im.e, .int .i64 g.exp, .int .i64 g.across, .int .i64 g.down, .int .i64 g.wide, .int .i64 g.high], .int .i64 (0), .agg #[.bool g.re.neg, .string g.re.n, .int .i64 g.re.e, .bool g.im.neg, .string g.im.n, .int .i64 g.im.e, .int .i64 g.exp, .int .i64 g.across, .int .i64 g.down, .int .i64 g.wide, .int .i64 g.high], .int .i64 (0), .int .i64 (0), .bool false, .tuple #[.int .i64 (A), .int .i64 (D), .int .i64 (0)], .agg #[.bool g.re.neg, .string g.re.n, .int .i64 g.re.e, .bool g.im.neg, .string g.im.n, .int .i64 g.im.e, .int .i64 g.exp, .int .i64 g.across, .int .i64 g.down, .int .i64 g.wide, .int .i64 g.high], .tuple #[.int .i64 (A), .int .i64 (D), .int .i64 (0)], .int .i64 (A), .int .i64 (D), .int .i64 (0), .tuple #[.agg #[.int .i64 X0, .int .i64 Y0, .int .i64 U0, .int .i64 V0], .int .i64 (eT)], .agg #[.bool g.re.neg, .string g.re.n, .int .i64 g.re.e, .bool g.im.neg, .string g.im.n, .int .i64 g.im.e, .int .i64 g.exp, .int .i64 g.across, .int .i64 g.down, .int .i64 g.wide, .int .i64 g.high], .int .i64 (n), .tuple #[.agg #[.int .i64 X0, .int .i64 Y0, .int .i64 U0, .int .i64 V0], .int .i64 (eT)], .agg #[.int .i64 X0, .int .i64 Y0, .int .i64 U0, .int .i64 V0], .int .i64 (eT), .tuple #[.int .i64 (Z), .int .i64 (eJ)], .agg #[.bool g.re.neg, .string g.re.n, .int .i64 g.re.e, .bool g.im.neg, .string g.im.n, .int .i64 g.im.e, .int .i64 g.exp, .int .i64 g.across, .int .i64 g.down, .int .i64 g.wide, .int .i64 g.high], .int .i64 (x), .int .i64 (y), .tuple #[.int .i64 (Z), .int .i64 (eJ)], .int .i64 (Z), .int .i64 (eJ), .agg #[.bool g.re.neg, .string g.re.n, .int .i64 g.re.e, .bool g.im.neg, .string g.im.n, .int .i64 g.im.e, .int .i64 g.exp, .int .i64 g.across, .int .i64 g.down, .int .i64 g.wide, .int .i64 g.high], .func (.func 60) #[] #[.pointer (some ⟨w5.heap.size, 0, none⟩)], .func (.func 60) #[] #[.pointer (some ⟨w5.heap.size, 0, none⟩)], .bool false, .int .i64 (0), .bool false, undef, undef, undef, undef, undef, undef, undef, undef, undef, undef, undef, undef, undef, undef, undef, undef, undef, undef, undef, undef, undef, undef, undef, undef, undef, undef, undef, undef, undef, undef, undef, undef, undef, undef, undef, undef, .tuple #[.int .i64 (A), .int .i64 (D)], .agg #[.bool g.re.neg, .string g.re.n, .int .i64 g.re.e, .bool g.im.neg, .string g.im.n, .int .i64 g.im.e, .int .i64 g.exp, .int .i64 g.across, .int .i64 g.down, .int .i64 g.wide, .int .i64 g.high], .tuple #[.int .i64 (A), .int .i64 (D)], .int .i64 (A), .int .i64 (D), .tuple #[.agg #[.int .i64 X0, .int .i64 Y0, .int .i64 U0, .int .i64 V0], .bool T], .agg #[.bool g.re.neg, .string g.re.n, .int .i64 g.re.e, .bool g.im.neg, .string g.im.n, .int .i64 g.im.e, .int .i64 g.exp, .int .i64 g.across, .int .i64 g.down, .int .i64 g.wide, .int .i64 g.high], .int .i64 (n), .tuple #[.agg #[.int .i64 X0, .int .i64 Y0, .int .i64 U0, .int .i64 V0], .bool T], .agg #[.int .i64 X0, .int .i64 Y0, .int .i64 U0, .int .i64 V0], .bool T, .tuple #[.int .i64 (Z), .bool J], .agg #[.bool g.re.neg, .string g.re.n, .int .i64 g.re.e, .bool g.im.neg, .string g.im.n, .int .i64 g.im.e, .int .i64 g.exp, .int .i64 g.across, .int .i64 g.down, .int .i64 g.wide, .int .i64 g.high], .int .i64 (x), .int .i64 (y), .tuple #[.int .i64 (Z), .bool J], .int .i64 (Z), .bool J, u120, u121, u122, u123, u124, u125, u126, u127, u128, u129, u130, u131, u132, u133, u134, u135, u136, u137, u138, u139, u140, u141, u142, u143, u144, u145, u146, u147, u148, u149, u150, u151, u152, u153, u154, u155, u156, u157, u158, u159, u160, u161, u162, u163, u164, u165, u166, u167, u168, .bool false, .func (.func 60) #[] #[.pointer (some ⟨w5.heap.size, 0, none⟩)], undef, undef, undef, undef, undef, undef, undef, undef, undef, undef, undef, undef, undef, undef, undef, undef, undef, undef, undef, undef, undef, u192, u193, u194, u195, u196, u197, u198, u199, u200, .bool false, .func (.func 60) #[] #[.pointer (some ⟨w5.heap.size, 0, none⟩)], .int .i64 ((k : Nat)), .agg #[.int .i64 (rectX g k), .int .i64 (rectY g k), .int .i64 (rectW g k), .int .i64 (rectH g k)], undef, undef, undef, undef, undef, undef, undef, undef, undef, undef, undef, undef, undef, undef, undef, undef, undef, undef, undef, undef, undef, undef, undef, undef, undef, undef, undef], defers := [] })
          ?hAx ?assign ?body ?done ?stop)
        case hI =>
          rintro pre W W' row ⟨h, hd⟩ hg hr
          refine ⟨h.stable (by have := ZX.out; have := HS2.out; omega) (by have := ZX.out; have := HS2.out; omega) hg hr, (hg.block D1 (Array.getElem?_eq_some_iff.1 hd).1 fun e => ?_).trans hd⟩
          have := (hr _ e.symm).1
          have := S2.out
          omega
        case hIx =>
          rintro c pre W W' row ⟨hc, h1, h2, hd⟩ hg hr
          have hr' : ∀ r, row = some r → ∃ o : Obj, W.heap[r]? = some o ∧ o.isCells = false := fun r e => (hr r e).2
          refine ⟨hc, cell_kept h1 hg hr', h2.grown hg h2.size (fun r e => Nat.le_trans K2.out.size (hr r e).1), (hg.block D1 (Array.getElem?_eq_some_iff.1 hd).1 fun e => ?_).trans hd⟩
          have := (hr _ e.symm).1
          have := S2.out
          omega
        case hAx =>
          rintro k a' _ W W' row ⟨ca, hk, Bx, hBx, ⟨b0, b1, b2, b3⟩, ha⟩ hg hr
          have hr' : ∀ r, row = some r → ∃ o : Obj, W.heap[r]? = some o ∧ o.isCells = false := fun r e => (hr r e).2
          exact ⟨cell_kept ca hg hr', hk, Bx, hBx, ⟨cell_kept b0 hg hr', cell_kept b1 hg hr', cell_kept b2 hg hr', cell_kept b3 hg hr'⟩, ha⟩
        case assign =>
          rintro l pre k W K2 ⟨h, hd⟩ ⟨rfl, hkN⟩ hK2
          have hB := h.kept ((Below.refl _ W).alloc (Nat.le_refl _) (.cells #[.int .i64 (rectX g pre.length), .int .i64 (rectY g pre.length), .int .i64 (rectW g pre.length), .int .i64 (rectH g pre.length)] 38)) (by have := ZX.out; have := HS2.out; omega)
          have hd' := (KeepsOthers.alloc W (.cells #[.int .i64 (rectX g pre.length), .int .i64 (rectY g pre.length), .int .i64 (rectW g pre.length), .int .i64 (rectH g pre.length)] 38)).same D1 _ hd rfl
          have HH := hide (And.intro hB (And.intro hkN (And.intro (lt_of_cell h.c) hd')))
          clear h hB hkN hd hd'
          simp only [encR]
          gi_wp2
          exact hK2 _ _ ((KeepsOthers.alloc _ _).from _) (BKeep.of_kept ((Below.refl _ W).alloc (Nat.le_refl _) _)) ⟨HH.out.1, HH.out.2.2.2⟩ ⟨HH.out.1.c, by have := HN.out; have := HH.out.2.1; omega, W.heap.size, HH.out.2.2.1, RBx.new _ _ _ _ _ _, rfl⟩
        case body =>
          rintro l pre k a' W hl hrec ⟨h, hd⟩ ⟨ca, hkN, Bx, hBx, ⟨b0, b1, b2, b3⟩, rfl⟩ hlt
          have hk : k = pre.length := by
            have h1 := h.c.symm.trans ca
            injection h1 with h1; injection h1 with _ h1; omega
          subst hk
          have PW := hide (P2.out.belowB h.low hzs.out)
          obtain ⟨⟨q0, q1, q2, q3, q4, q5, q6, q7, q8, q9, q10⟩, -, -, -, lt⟩ := PW.out
          have HI0 := hide h
          have HD0 := hide hd
          have fi := h.f
          have ht := HAD.out pre.length hkN
          have RKk : Hid (∀ W, Calls Tryz.prog 24 #[.agg #[.bool g.re.neg, .string g.re.n, .int .i64 g.re.e, .bool g.im.neg, .string g.im.n, .int .i64 g.im.e, .int .i64 g.exp, .int .i64 g.across, .int .i64 g.down, .int .i64 g.wide, .int .i64 g.high], .int .i64 (pre.length : Nat)] W fun e w' => e = .returned (.tuple #[.agg #[.int .i64 (rectX g (pre.length : Nat)), .int .i64 (rectY g (pre.length : Nat)), .int .i64 (rectW g (pre.length : Nat)), .int .i64 (rectH g (pre.length : Nat))], .bool true]) ∧ Kept W w') := fun W => by
            have := RK.out W (pre.length : Nat)
            rw [ht] at this
            exact this
          have hre2 := rect_eq (rectX g (pre.length : Nat)) (rectY g (pre.length : Nat)) (rectW g (pre.length : Nat)) (rectH g (pre.length : Nat))
          have u1 : IntKind.i64.wrap ((pre.length : Nat) + 1) = (pre.length : Nat) + 1 := IntWalk.i64_in _ (by omega)
          have hpl : (((pre ++ [pre.length]).length : Nat) : Int) = (pre.length : Nat) + 1 := by simp
          have HPL := hide hpl
          have b4 := lt_of_cell b0
          have hkz := lt_of_cell ca
          have hXB : X2.heap.size ≥ w9.heap.size + 1 := by have := ZX.out; have := HS2.out; omega
          have hz3 : w.heap.size + 1 + 1 < w9.heap.size := hzs.out
          have KW : Hid (Kept w W) := K2.out.trans (h.low.mono (by omega))
          clear h ht hpl hd
          by_cases heq : ((pre.length : Nat) : Int) + 1 ≤ 3000
          · have t1 : decide (3000 < ((pre.length : Nat) : Int) + 1) = false := by simp; omega
            gi_wp2_with (refine ⟨trivial, ?_⟩; gi_at_call 24; refine (callsIn_roundG (RKk.out _)).mono ?_; rintro e w1 ⟨rfl, hk1⟩; have K1 := hide (show Kept W w1 from hk1); replace ca := (hk1.cells _ _ hkz).trans ca; replace fi := (hk1.thaw _ _ hkz).trans fi; replace b0 := (hk1.cells _ _ b4).trans b0; replace b1 := (hk1.cells _ _ b4).trans b1; replace b2 := (hk1.cells _ _ b4).trans b2; replace b3 := (hk1.cells _ _ b4).trans b3; replace b4 := lt_of_cell b0; replace hkz := lt_of_cell ca; replace lt := Nat.lt_of_lt_of_le lt hk1.size; clear hk1 q0 q1 q2 q3 q4 q5 q6 q7 q8 q9 q10)
            have hkeep : ∀ B, KeepsFrom B W ((w1.setCell ⟨w9.heap.size, 0, none⟩ (.int .i64 ((pre.length : Nat) + 1))).alloc (.cells #[.int .i64 (rectX g (pre.length : Nat)), .int .i64 (rectY g (pre.length : Nat)), .int .i64 (rectW g (pre.length : Nat)), .int .i64 (rectH g (pre.length : Nat))] 38)) := fun B => ((kept_from K1.out _).trans ((KeepsOthers.setCell _ _ _).from _)).trans ((KeepsOthers.alloc _ _).from _)
            refine ⟨hkeep _, (BKeep.of_kept K1.out).trans ((BKeep.setCell (by dsimp only; have := hz5.out; omega) _).trans (BKeep.of_kept ((Below.refl _ _).alloc (Nat.le_refl _) _))), ?_, (hkeep 0).same D1 _ (Nat.zero_le _) HD0.out rfl⟩
            rw [HPL.out]
            exact ((HI0.out.kept K1.out (by omega)).set _).kept ((Below.refl _ _).alloc (Nat.le_refl _) _) (by omega)
          · have t1 : decide (3000 < ((pre.length : Nat) : Int) + 1) = true := by simp; omega
            gi_wp2_with (refine ⟨trivial, ?_⟩; gi_at_call 24; refine (callsIn_roundG (RKk.out _)).mono ?_; rintro e w1 ⟨rfl, hk1⟩; have K1 := hide (show Kept W w1 from hk1); replace ca := (hk1.cells _ _ hkz).trans ca; replace fi := (hk1.thaw _ _ hkz).trans fi; replace b0 := (hk1.cells _ _ b4).trans b0; replace b1 := (hk1.cells _ _ b4).trans b1; replace b2 := (hk1.cells _ _ b4).trans b2; replace b3 := (hk1.cells _ _ b4).trans b3; replace b4 := lt_of_cell b0; replace hkz := lt_of_cell ca; replace lt := Nat.lt_of_lt_of_le lt hk1.size; clear hk1 q0 q1 q2 q3 q4 q5 q6 q7 q8 q9 q10)
            obtain ⟨WL, hWL⟩ : ∃ Z, Z = (w1.setCell ⟨w9.heap.size, 0, none⟩ (.int .i64 ((pre.length : Nat) + 1))).alloc (.cells #[.int .i64 (rectX g (pre.length : Nat)), .int .i64 (rectY g (pre.length : Nat)), .int .i64 (rectW g (pre.length : Nat)), .int .i64 (rectH g (pre.length : Nat))] 38) := ⟨_, rfl⟩
            have hkL : Hid (∀ B, KeepsFrom B W WL) := fun B => by rw [hWL]; exact ((kept_from K1.out _).trans ((KeepsOthers.setCell _ _ _).from _)).trans ((KeepsOthers.alloc _ _).from _)
            have hs1 : w.heap.size ≤ w1.heap.size := (KW.out.trans' K1.out).size
            have KL : Hid (Kept w WL) := by show Kept w WL; rw [hWL]; exact ((KW.out.trans' K1.out).setCell (p := ⟨w9.heap.size, 0, none⟩) (by dsimp only; omega) _).alloc (by simpa [World.setCell] using hs1) _
            have hs9 : w9.heap.size ≤ w1.heap.size := by omega
            have hW9 : w9.heap.size ≤ W.heap.size := by have := HI0.out.low.size; omega
            have hbl : Below w9.heap.size W WL := by rw [hWL]; exact ((Below.mono K1.out hW9).setCell (p := ⟨w9.heap.size, 0, none⟩) (Nat.le_refl _) _).alloc (by simpa [World.setCell] using hs9) _
            have PL : Hid (GB WL w.heap.size g lv) := PW.out.belowB hbl hz3
            rw [← hWL]
            clear hWL ca fi b0 b1 b2 b3 b4 hkz lt hs1 hs9 hW9 hbl
            refine ⟨trivial, ?_⟩
            refine (callsIn_roundG (CL.out _ KL.out)).mono ?_
            rintro e w2 ⟨rfl, hk2⟩
            have KL2 := hide (show Kept WL w2 from hk2)
            have PL2 := hide (PL.out.kept hk2)
            obtain ⟨hE, hKE⟩ := PL2.out.ret ((show Kept w WL from KL.out).trans' hk2)
            have HE := hide hE
            have HKE := hide hKE
            have cr9 := PL2.out.cr
            have fr9 := PL2.out.fr
            have lt9 := PL2.out.lt
            clear hk2 hE hKE
            gi_wp2
            have hkeep : ∀ B, KeepsFrom B W (w2.setCell ⟨w.heap.size + 1 + 1, 0, none⟩ (.bool true)) := fun B => ((hkL.out B).trans (kept_from KL2.out B)).trans ((KeepsOthers.setCell _ _ _).from _)
            exact ⟨hkeep _, rfl, HE.out, HKE.out, (hkeep 0).same D1 _ (Nat.zero_le _) HD0.out rfl⟩
        case done =>
          rintro D3 xs W2 hD3 hxs ⟨h, hd1⟩ hDef
          have hxs : xs = List.range (rectsN g) := hxs
          rw [hxs, List.length_range] at h
          have KW : Hid (Kept w W2) := K2.out.trans (h.low.mono (by have := hzs.out; omega))
          have PW := hide (P2.out.belowB h.low hzs.out)
          have cB := h.c
          rw [HN.out] at cB
          have hws : w.heap.size ≤ X.heap.size := KX.out.size
          have HDEF : Hid (Defs X.heap.size W2 [{ target := .collected D3, args := #[] }, { target := .collected D1, args := #[] }]) :=
            ⟨D3, rfl, Nat.le_trans HS2.out hD3, hDef, by simp; have := S2.out; omega, D1, rfl, hD1, hd1, by simp, trivial⟩
          have hsW : X.heap.size ≤ W2.heap.size := Nat.le_trans HS2.out h.low.size
          clear h hd1 hDef hxs hD3
          go_wp2_with fail
          refine (CL.out _ KW.out).mono ?_
          rintro e w10 ⟨rfl, hk10⟩
          have HDF := hide (HDEF.out.keeps (W' := w10) fun k o h _ => (hk10.block k (Array.getElem?_eq_some_iff.1 h).1).trans h)
          have P10 := hide (PW.out.kept hk10)
          obtain ⟨hE, hKE⟩ := P10.out.ret ((show Kept w W2 from KW.out).trans' hk10)
          have HE := hide hE
          have HKE := hide hKE
          have hsY : X.heap.size ≤ w10.heap.size := Nat.le_trans hsW hk10.size
          have cr10 := P10.out.cr
          have fr10 := P10.out.fr
          have lt10 := P10.out.lt
          clear hk10 hE hKE cB hsW
          go_wp2_with fail
          refine leaves_defs (lo := X.heap.size) _ _ (HDF.out.keeps fun k o h hc => (KeepsOthers.setCell w10 _ _).same k o h hc) (fun W' hb hcc => ?_) (by simpa [World.setCell] using hsY)
          have h9 := (hcc (w.heap.size + 1 + 1) 0 ⟨_, HE.out⟩).trans HE.out
          exact ⟨.bool true, by simp [results, Tryz.f7, go_sem, h9], rfl, HKE.out.trans (hb.mono hws)⟩
        case stop =>
          rintro D3 c pre W2 hD3 hSp ⟨rfl, hc, hk, hd1⟩ hDef
          have hws : w.heap.size ≤ X.heap.size := KX.out.size
          refine wpIn_ret ?_
          refine leaves_defs (lo := X.heap.size) _ _ ⟨D3, rfl, Nat.le_trans HS2.out hD3, hDef, by simp; have := S2.out; omega, D1, rfl, hD1, hd1, by simp, trivial⟩ (fun W' hb hcc => ?_) (Nat.le_of_lt (Nat.lt_of_le_of_lt hD1 (Array.getElem?_eq_some_iff.1 hd1).1))
          have h9 := (hcc (w.heap.size + 1 + 1) 0 ⟨_, hc⟩).trans hc
          exact ⟨.bool true, by simp [results, Tryz.f7, go_sem, h9], rfl, hk.trans (hb.mono hws)⟩
    refine (wpIn_wide (n := 5)).1 (wpIn_rangeOffers (α := Nat) rfl (by decide) (gf := 60) (lb := #[.pointer (some ⟨w5.heap.size, 0, none⟩)]) rfl trivial (enters_of Tryz.func60 (by kernel_rfl) rfl)
      (rects_offersO (BKeep w5.heap.size) 4 (by omega) w5.heap.size X.heap.size g (fun _ _ h hb => h.box hb) (fun _ _ h => h.1) HG.out X (by have := ZX.out; have := hz5.out; omega) (Nat.le_refl _) hGX)
      (fun h k => h.trans k) (fun W l o o' _ h1 h2 _ => BKeep.putObj W l o o' h1 h2) (Below.refl _ _) (fun _ => rfl)
      (fun pre W => CI X W w9.heap.size pre.length) (fun c pre W => c = .exit 2 ∧ CI X W w9.heap.size pre.length ∧ (pre.length : Int) = lv) ?hI ?hIx CX.out
      (fun k a' W => W.cell? ⟨w9.heap.size, 0, none⟩ = some (.int .i64 (k : Nat)) ∧ (k : Int) < A * D ∧ ∃ Bx, w9.heap.size < Bx ∧ RBx W Bx (rectX g k) (rectY g k) (rectW g k) (rectH g k) ∧ a' = { tmps := #[.agg #[.bool g.re.neg, .string g.re.n, .int .i64 g.re.e, .bool g.im.neg, .string g.im.n, .int .i64 g.im.e, .int .i64 g.exp, .int .i64 g.across, .int .i64 g.down, .int .i64 g.wide, .int .i64 g.high], .int .i64 (n), .int .i64 (x), .int .i64 (y), .int .i64 (lv), .pointer (some ⟨w.heap.size, 0, none⟩), undef, undef, undef, .pointer (some ⟨w.heap.size + 1, 0, none⟩), .pointer (some ⟨w.heap.size + 1 + 1, 0, none⟩), .int .i64 (0), .int .i64 (A), .int .i64 (D), .int .i64 (0), .pointer (some ⟨w4'.heap.size, 0, none⟩), .int .i64 (eT), .int .i64 (Z), .int .i64 (eJ), .func (.func 60) #[] #[.pointer (some ⟨w5.heap.size, 0, none⟩)], .int .i64 (A), .int .i64 (D), .pointer (some ⟨w8'.heap.size, 0, none⟩), .bool T, .int .i64 (Z), .bool J, .pointer (some ⟨w9.heap.size, 0, none⟩), .int .i64 ((k : Nat)), .pointer (some ⟨Bx, 0, none⟩), undef, undef, undef, undef, undef, undef, .agg #[.bool g.re.neg, .string g.re.n, .int .i64 g.re.e, .bool g.im.neg, .string g.im.n, .int .i64 g.im.e, .int .i64 g.exp, .int .i64 g.across, .int .i64 g.down, .int .i64 g.wide, .int .i64 g.high], .int .i64 (0), .agg #[.bool g.re.neg, .string g.re.n, .int .i64 g.re.e, .bool g.im.neg, .string g.im.n, .int .i64 g.im.e, .int .i64 g.exp, .int .i64 g.across, .int .i64 g.down, .int .i64 g.wide, .int .i64 g.high], .int .i64 (0), .int .i64 (0), .bool false, .tuple #[.int .i64 (A), .int .i64 (D), .int .i64 (0)], .agg #[.bool g.re.neg, .string g.re.n, .int .i64 g.re.e, .bool g.im.neg, .string g.im.n, .int .i64 g.im.e, .int .i64 g.exp, .int .i64 g.across, .int .i64 g.down, .int .i64 g.wide, .int .i64 g.high], .tuple #[.int .i64 (A), .int .i64 (D), .int .i64 (0)], .int .i64 (A), .int .i64 (D), .int .i64 (0), .tuple #[.agg #[.int .i64 X0, .int .i64 Y0, .int .i64 U0, .int .i64 V0], .int .i64 (eT)], .agg #[.bool g.re.neg, .string g.re.n, .int .i64 g.re.e, .bool g.im.neg, .string g.im.n, .int .i64 g.im.e, .int .i64 g.exp, .int .i64 g.across, .int .i64 g.down, .int .i64 g.wide, .int .i64 g.high], .int .i64 (n), .tuple #[.agg #[.int .i64 X0, .int .i64 Y0, .int .i64 U0, .int .i64 V0], .int .i64 (eT)], .agg #[.int .i64 X0, .int .i64 Y0, .int .i64 U0, .int .i64 V0], .int .i64 (eT), .tuple #[.int .i64 (Z), .int .i64 (eJ)], .agg #[.bool g.re.neg, .string g.re.n, .int .i64 g.re.e, .bool g.im.neg, .string g.im.n, .int .i64 g.im.e, .int .i64 g.exp, .int .i64 g.across, .int .i64 g.down, .int .i64 g.wide, .int .i64 g.high], .int .i64 (x), .int .i64 (y), .tuple #[.int .i64 (Z), .int .i64 (eJ)], .int .i64 (Z), .int .i64 (eJ), .agg #[.bool g.re.neg, .string g.re.n, .int .i64 g.re.e, .bool g.im.neg, .string g.im.n, .int .i64 g.im.e, .int .i64 g.exp, .int .i64 g.across, .int .i64 g.down, .int .i64 g.wide, .int .i64 g.high], .func (.func 60) #[] #[.pointer (some ⟨w5.heap.size, 0, none⟩)], .func (.func 60) #[] #[.pointer (some ⟨w5.heap.size, 0, none⟩)], .bool false, .int .i64 (0), .bool false, undef, undef, undef, undef, undef, undef, undef, undef, undef, undef, undef, undef, undef, undef, undef, undef, undef, undef, undef, undef, undef, undef, undef, undef, undef, undef, undef, undef, undef, undef, undef, undef, undef, undef, undef, undef, .tuple #[.int .i64 (A), .int .i64 (D)], .agg #[.bool g.re.neg, .string g.re.n, .int .i64 g.re.e, .bool g.im.neg, .string g.im.n, .int .i64 g.im.e, .int .i64 g.exp, .int .i64 g.across, .int .i64 g.down, .int .i64 g.wide, .int .i64 g.high], .tuple #[.int .i64 (A), .int .i64 (D)], .int .i64 (A), .int .i64 (D), .tuple #[.agg #[.int .i64 X0, .int .i64 Y0, .int .i64 U0, .int .i64 V0], .bool T], .agg #[.bool g.re.neg, .string g.re.n, .int .i64 g.re.e, .bool g.im.neg, .string g.im.n, .int .i64 g.im.e, .int .i64 g.exp, .int .i64 g.across, .int .i64 g.down, .int .i64 g.wide, .int .i64 g.high], .int .i64 (n), .tuple #[.agg #[.int .i64 X0, .int .i64 Y0, .int .i64 U0, .int .i64 V0], .bool T], .agg #[.int .i64 X0, .int .i64 Y0, .int .i64 U0, .int .i64 V0], .bool T, .tuple #[.int .i64 (Z), .bool J], .agg #[.bool g.re.neg, .string g.re.n, .int .i64 g.re.e, .bool g.im.neg, .string g.im.n, .int .i64 g.im.e, .int .i64 g.exp, .int .i64 g.across, .int .i64 g.down, .int .i64 g.wide, .int .i64 g.high], .int .i64 (x), .int .i64 (y), .tuple #[.int .i64 (Z), .bool J], .int .i64 (Z), .bool J, u120, u121, u122, u123, u124, u125, u126, u127, u128, u129, u130, u131, u132, u133, u134, u135, u136, u137, u138, u139, u140, u141, u142, u143, u144, u145, u146, u147, u148, u149, u150, u151, u152, u153, u154, u155, u156, u157, u158, u159, u160, u161, u162, u163, u164, u165, u166, u167, u168, .bool false, .func (.func 60) #[] #[.pointer (some ⟨w5.heap.size, 0, none⟩)], .int .i64 ((k : Nat)), .agg #[.int .i64 (rectX g k), .int .i64 (rectY g k), .int .i64 (rectW g k), .int .i64 (rectH g k)], undef, undef, undef, undef, undef, undef, undef, undef, undef, undef, undef, undef, undef, undef, undef, undef, undef, undef, undef, undef, undef, undef, undef, undef, undef, undef, undef, undef, undef, undef, undef, undef, undef, undef, undef, undef, undef, undef, undef, undef, undef, undef, undef, undef, undef, undef, undef, undef, undef, undef, undef, undef, undef, undef, undef, undef, undef, undef, undef], defers := [] })
      ?hAx ?assign ?body ?done ?stop)
    case hI =>
      intro pre W W' row h hg hr
      exact h.stable (by have := ZX.out; omega) (by have := ZX.out; omega) hg hr
    case hIx =>
      rintro c pre W W' row ⟨hc, h, hl⟩ hg hr
      exact ⟨hc, h.stable (by have := ZX.out; omega) (by have := ZX.out; omega) hg hr, hl⟩
    case hAx =>
      rintro k a' _ W W' row ⟨ca, hk, Bx, hBx, ⟨b0, b1, b2, b3⟩, ha⟩ hg hr
      have hr' : ∀ r, row = some r → ∃ o : Obj, W.heap[r]? = some o ∧ o.isCells = false := fun r e => (hr r e).2
      exact ⟨cell_kept ca hg hr', hk, Bx, hBx, ⟨cell_kept b0 hg hr', cell_kept b1 hg hr', cell_kept b2 hg hr', cell_kept b3 hg hr'⟩, ha⟩
    case assign =>
      rintro l pre k W K2 h ⟨rfl, hkN⟩ hK2
      have hB := h.kept ((Below.refl _ W).alloc (Nat.le_refl _) (.cells #[.int .i64 (rectX g pre.length), .int .i64 (rectY g pre.length), .int .i64 (rectW g pre.length), .int .i64 (rectH g pre.length)] 38)) (by have := ZX.out; omega)
      have HH := hide (And.intro hB (And.intro hkN (lt_of_cell h.c)))
      clear h hB hkN
      simp only [encR]
      gi_wp2
      exact hK2 _ _ ((KeepsOthers.alloc _ _).from _) (BKeep.of_kept ((Below.refl _ W).alloc (Nat.le_refl _) _)) HH.out.1 ⟨HH.out.1.c, by have := HN.out; have := HH.out.2.1; omega, W.heap.size, HH.out.2.2, RBx.new _ _ _ _ _ _, rfl⟩
    case body =>
      rintro l pre k a' W hl hrec h ⟨ca, hkN, Bx, hBx, ⟨b0, b1, b2, b3⟩, rfl⟩ hlt
      have hk : k = pre.length := by
        have h1 := h.c.symm.trans ca
        injection h1 with h1; injection h1 with _ h1; omega
      subst hk
      have hpb := PX.out.belowB h.low hzs.out
      obtain ⟨⟨q0, q1, q2, q3, q4, q5, q6, q7, q8, q9, q10⟩, cl, -, -, lt⟩ := hpb
      have HI0 := hide h
      have fi := h.f
      have ht := HAD.out pre.length hkN
      have RKk : Hid (∀ W, Calls Tryz.prog 24 #[.agg #[.bool g.re.neg, .string g.re.n, .int .i64 g.re.e, .bool g.im.neg, .string g.im.n, .int .i64 g.im.e, .int .i64 g.exp, .int .i64 g.across, .int .i64 g.down, .int .i64 g.wide, .int .i64 g.high], .int .i64 (pre.length : Nat)] W fun e w' => e = .returned (.tuple #[.agg #[.int .i64 (rectX g (pre.length : Nat)), .int .i64 (rectY g (pre.length : Nat)), .int .i64 (rectW g (pre.length : Nat)), .int .i64 (rectH g (pre.length : Nat))], .bool true]) ∧ Kept W w') := fun W => by
        have := RK.out W (pre.length : Nat)
        rw [ht] at this
        exact this
      have hre2 := rect_eq (rectX g (pre.length : Nat)) (rectY g (pre.length : Nat)) (rectW g (pre.length : Nat)) (rectH g (pre.length : Nat))
      have u1 : IntKind.i64.wrap ((pre.length : Nat) + 1) = (pre.length : Nat) + 1 := IntWalk.i64_in _ (by omega)
      have hpl : (((pre ++ [pre.length]).length : Nat) : Int) = (pre.length : Nat) + 1 := by simp
      have HPL := hide hpl
      have b4 := lt_of_cell b0
      have hkz := lt_of_cell ca
      have hXB := ZX.out
      have hz3 : w.heap.size + 1 + 1 < w9.heap.size := hzs.out
      have ne1 : w.heap.size + 1 ≠ w9.heap.size := by omega
      clear h ht hpl
      by_cases heq : ((pre.length : Nat) : Int) + 1 = lv
      · have t1 : (((pre.length : Nat) : Int) + 1 == lv) = true := by simpa using heq
        gi_wp2_with (refine ⟨trivial, ?_⟩; gi_at_call 24; refine (callsIn_roundG (RKk.out _)).mono ?_; rintro e w1 ⟨rfl, hk1⟩; have K1 := hide (show Kept W w1 from hk1); replace ca := (hk1.cells _ _ hkz).trans ca; replace fi := (hk1.thaw _ _ hkz).trans fi; replace cl := (hk1.cells _ _ (by omega)).trans cl; replace b0 := (hk1.cells _ _ b4).trans b0; replace b1 := (hk1.cells _ _ b4).trans b1; replace b2 := (hk1.cells _ _ b4).trans b2; replace b3 := (hk1.cells _ _ b4).trans b3; replace b4 := lt_of_cell b0; replace hkz := lt_of_cell ca; replace lt := Nat.lt_of_lt_of_le lt hk1.size; have lt1 : w.heap.size + 1 < w1.heap.size := Nat.lt_of_succ_lt lt; clear hk1 q0 q1 q2 q3 q4 q5 q6 q7 q8 q9 q10)
        refine ⟨((kept_from K1.out _).trans ((KeepsOthers.setCell _ _ _).from _)).trans ((KeepsOthers.alloc _ _).from _), rfl, ?_, by rw [HPL.out]; exact heq⟩
        rw [HPL.out, heq]
        exact ((HI0.out.kept K1.out (by omega)).set lv).kept ((Below.refl _ _).alloc (Nat.le_refl _) _) (by omega)
      · have t1 : (((pre.length : Nat) : Int) + 1 == lv) = false := by simpa using heq
        gi_wp2_with (refine ⟨trivial, ?_⟩; gi_at_call 24; refine (callsIn_roundG (RKk.out _)).mono ?_; rintro e w1 ⟨rfl, hk1⟩; have K1 := hide (show Kept W w1 from hk1); replace ca := (hk1.cells _ _ hkz).trans ca; replace fi := (hk1.thaw _ _ hkz).trans fi; replace cl := (hk1.cells _ _ (by omega)).trans cl; replace b0 := (hk1.cells _ _ b4).trans b0; replace b1 := (hk1.cells _ _ b4).trans b1; replace b2 := (hk1.cells _ _ b4).trans b2; replace b3 := (hk1.cells _ _ b4).trans b3; replace b4 := lt_of_cell b0; replace hkz := lt_of_cell ca; replace lt := Nat.lt_of_lt_of_le lt hk1.size; have lt1 : w.heap.size + 1 < w1.heap.size := Nat.lt_of_succ_lt lt; clear hk1 q0 q1 q2 q3 q4 q5 q6 q7 q8 q9 q10)
        refine ⟨((kept_from K1.out _).trans ((KeepsOthers.setCell _ _ _).from _)).trans ((KeepsOthers.alloc _ _).from _), (BKeep.of_kept K1.out).trans ((BKeep.setCell (by dsimp only; have := hz5.out; omega) _).trans (BKeep.of_kept ((Below.refl _ _).alloc (Nat.le_refl _) _))), ?_⟩
        dsimp only
        rw [HPL.out]
        exact ((HI0.out.kept K1.out (by omega)).set _).kept ((Below.refl _ _).alloc (Nat.le_refl _) _) (by omega)
    case done =>
      rintro D1 xs W hD hxs h hDef
      have hxs : xs = List.range (rectsN g) := hxs
      rw [hxs, List.length_range] at h
      exact rest D1 _ W hD (Nat.le_refl _) h (.inr rfl) hDef
    case stop =>
      rintro D1 c pre W hD ⟨k, hk, rfl⟩ ⟨rfl, h, hl⟩ hDef
      rw [List.length_range] at h hl
      exact wpIn_exit (rest D1 k W hD hk h (.inl hl) hDef)
theorem grids_any (g : GrD) (n x y lv : Int) (w : World) (hg : g.ok) (hn : in64 n) (hx : in64 x) (hy : in64 y) (hl : in64 lv) (hH : HpOK id0 4096 laidH w) :
    Calls Tryz.prog 7 #[.agg #[.bool g.re.neg, .string g.re.n, .int .i64 g.re.e, .bool g.im.neg, .string g.im.n, .int .i64 g.im.e, .int .i64 g.exp, .int .i64 g.across, .int .i64 g.down, .int .i64 g.wide, .int .i64 g.high], .int .i64 n, .int .i64 x, .int .i64 y, .int .i64 lv] w fun e w' => e = .returned (.bool true) ∧ Kept w w' := by
  by_cases hI : gridI g = 0
  · exact grids_on g n x y lv w hg hI hn hx hy hl hH
  · exact grids_off g n x y lv w hg hI hn hx hy hH
end Go.Proofs.YtneakieigiafpaaGreatDoor
