/- filigreelaw25.TileGrids, walked: its boxes; a grid that may not be. -/
import Derived.Test.YtneakieigiafpaaGreatDoorRefR2
import Derived.Test.YtneakieigiafpaaGreatDoorRectsO
import Derived.Test.YtneakieigiafpaaGreatDoorDefs
import Derived.Test.YtneakieigiafpaaGreatDoorLivT
import Derived.Outline
namespace Go.Proofs.YtneakieigiafpaaGreatDoor
open Go.RowKit Go.Shelf Go.Ex
attribute [local go_sem] Oper.semAt_some

/-- The laid tables stay where a call keeps what was there. -/
theorem laid_keptG {w W : World} (h : HpOK id0 4096 laidH w) (k : Kept w W) : HpOK id0 4096 laidH W :=
  ⟨h.srt, h.sc, fun b bl hb => (h.bk b bl hb).keep rfl rfl (fun _ _ => rfl) (Below.block k _ (h.bk b bl hb).lt), h.inj, h.glob, h.big⟩
/-- The call's own boxes. -/
structure GB (W : World) (s : Nat) (g : GrD) (lv : Int) : Prop where
  gb : GBox W s g
  cl : W.cell? ⟨s + 1, 0, none⟩ = some (.int .i64 lv)
  cr : W.cell? ⟨s + 1 + 1, 0, none⟩ = some (.bool false)
  fr : W.frozen? ⟨s + 1 + 1, 0, none⟩ = false
  lt : s + 1 + 1 < W.heap.size
theorem GB.belowB {W W' : World} {s B : Nat} {g : GrD} {lv : Int} (h : GB W s g lv) (k : Below B W W') (hs : s + 1 + 1 < B) : GB W' s g lv :=
  ⟨h.gb.below k (by omega), (k.cell (p := ⟨s + 1, 0, none⟩) (by dsimp only; omega)).trans h.cl, (k.cell (p := ⟨s + 1 + 1, 0, none⟩) (by dsimp only; omega)).trans h.cr, (k.frozen (p := ⟨s + 1 + 1, 0, none⟩) (by dsimp only; omega)).trans h.fr, Nat.lt_of_lt_of_le h.lt k.size⟩
theorem GB.kept {W W' : World} {s : Nat} {g : GrD} {lv : Int} (h : GB W s g lv) (k : Kept W W') : GB W' s g lv := h.belowB k h.lt
theorem GB.ret {w W : World} {g : GrD} {lv : Int} (h : GB W w.heap.size g lv) (k : Kept w W) : (W.setCell ⟨w.heap.size + 1 + 1, 0, none⟩ (.bool true)).cell? ⟨w.heap.size + 1 + 1, 0, none⟩ = some (.bool true) ∧ Kept w (W.setCell ⟨w.heap.size + 1 + 1, 0, none⟩ (.bool true)) :=
  ⟨World.cell?_setCell_same' _ _ _ (by rw [h.cr]; rfl), Below.setCell k (p := ⟨w.heap.size + 1 + 1, 0, none⟩) (by dsimp only; omega) _⟩
theorem GB.new (w : World) (g : GrD) (lv : Int) : GB (((w.alloc (.cells #[.bool g.re.neg, .string g.re.n, .int .i64 g.re.e, .bool g.im.neg, .string g.im.n, .int .i64 g.im.e, .int .i64 g.exp, .int .i64 g.across, .int .i64 g.down, .int .i64 g.wide, .int .i64 g.high] 31)).alloc (.cells #[.int .i64 lv] 3)).alloc (.cells #[.bool false] 4)) w.heap.size g lv := by
  have B1 := (Boxed.new (w.alloc (.cells #[.bool g.re.neg, .string g.re.n, .int .i64 g.re.e, .bool g.im.neg, .string g.im.n, .int .i64 g.im.e, .int .i64 g.exp, .int .i64 g.across, .int .i64 g.down, .int .i64 g.wide, .int .i64 g.high] 31)) 3 (.int .i64 lv))
  have B3 := (Boxed.new ((w.alloc (.cells #[.bool g.re.neg, .string g.re.n, .int .i64 g.re.e, .bool g.im.neg, .string g.im.n, .int .i64 g.im.e, .int .i64 g.exp, .int .i64 g.across, .int .i64 g.down, .int .i64 g.wide, .int .i64 g.high] 31)).alloc (.cells #[.int .i64 lv] 3)) 4 (.bool false))
  have c1 := (B1.alloc (.cells #[.bool false] 4)).cell
  have c3 := B3.cell
  have f3 := fresh_frozen ((w.alloc (.cells #[.bool g.re.neg, .string g.re.n, .int .i64 g.re.e, .bool g.im.neg, .string g.im.n, .int .i64 g.im.e, .int .i64 g.exp, .int .i64 g.across, .int .i64 g.down, .int .i64 g.wide, .int .i64 g.high] 31)).alloc (.cells #[.int .i64 lv] 3)) #[.bool false] 4 0
  simp only [World.size_alloc] at c1 c3 f3
  refine ⟨(GBox.new w g _ _ rfl).below (((Below.refl _ _).alloc (Nat.le_refl _) _).alloc (by first | (simp; done) | (simp; omega)) _) (by simp), c1, c3, f3, by simp⟩
theorem own_keptG (w : World) (g : GrD) (lv : Int) : Kept w (((w.alloc (.cells #[.bool g.re.neg, .string g.re.n, .int .i64 g.re.e, .bool g.im.neg, .string g.im.n, .int .i64 g.im.e, .int .i64 g.exp, .int .i64 g.across, .int .i64 g.down, .int .i64 g.wide, .int .i64 g.high] 31)).alloc (.cells #[.int .i64 lv] 3)).alloc (.cells #[.bool false] 4)) :=
  (((Below.refl _ _).alloc (Nat.le_refl _) _).alloc (by first | (simp; done) | (simp; omega)) _).alloc (by first | (simp; done) | (simp; omega)) _
/-- A rectangle's box. -/
structure RBx (W : World) (b : Nat) (x y u v : Int) : Prop where
  c0 : W.cell? ⟨b, 0, none⟩ = some (.int .i64 x)
  c1 : W.cell? ⟨b, 1, none⟩ = some (.int .i64 y)
  c2 : W.cell? ⟨b, 2, none⟩ = some (.int .i64 u)
  c3 : W.cell? ⟨b, 3, none⟩ = some (.int .i64 v)
theorem RBx.lt {W : World} {b : Nat} {x y u v : Int} (h : RBx W b x y u v) : b < W.heap.size := lt_of_cell h.c0
theorem RBx.kept {W W' : World} {b : Nat} {x y u v : Int} (h : RBx W b x y u v) (k : Kept W W') : RBx W' b x y u v :=
  ⟨(k.cells _ _ h.lt).trans h.c0, (k.cells _ _ h.lt).trans h.c1, (k.cells _ _ h.lt).trans h.c2, (k.cells _ _ h.lt).trans h.c3⟩
theorem RBx.new (W : World) (t : TypeId) (x y u v : Int) : RBx (W.alloc (.cells #[.int .i64 x, .int .i64 y, .int .i64 u, .int .i64 v] t)) W.heap.size x y u v := ⟨by simp, by simp, by simp, by simp⟩

set_option maxRecDepth 100000 in
set_option maxHeartbeats 3200000 in
theorem grids_off (g : GrD) (n x y lv : Int) (w : World) (hg : g.ok) (hI : ¬ gridI g = 0) (hn : in64 n) (hx : in64 x) (hy : in64 y) (hH : HpOK id0 4096 laidH w) :
    Calls Tryz.prog 7 #[.agg #[.bool g.re.neg, .string g.re.n, .int .i64 g.re.e, .bool g.im.neg, .string g.im.n, .int .i64 g.im.e, .int .i64 g.exp, .int .i64 g.across, .int .i64 g.down, .int .i64 g.wide, .int .i64 g.high], .int .i64 n, .int .i64 x, .int .i64 y, .int .i64 lv] w fun e w' => e = .returned (.bool true) ∧ Kept w w' := by
  have CK := hide (fun (W : World) => refCheck_any g W hg)
  have CV := hide (fun (W : World) => tcheck_any g W hg)
  have CC : Hid (∀ W, Calls Tryz.prog 19 #[.agg #[.bool g.re.neg, .string g.re.n, .int .i64 g.re.e, .bool g.im.neg, .string g.im.n, .int .i64 g.im.e, .int .i64 g.exp, .int .i64 g.across, .int .i64 g.down, .int .i64 g.wide, .int .i64 g.high]] W fun e w' => e = .returned (.tuple #[.int .i64 0, .int .i64 0, .int .i64 (gridI g)]) ∧ Kept W w') := fun W => by
    have := tcount_any g W hg
    rwa [show cntA g = 0 by simp [cntA, hI], show cntD g = 0 by simp [cntD, hI]] at this
  have CR : Hid (∀ W, Calls Tryz.prog 20 #[.agg #[.bool g.re.neg, .string g.re.n, .int .i64 g.re.e, .bool g.im.neg, .string g.im.n, .int .i64 g.im.e, .int .i64 g.exp, .int .i64 g.across, .int .i64 g.down, .int .i64 g.wide, .int .i64 g.high], .int .i64 n] W fun e w' => e = .returned (.tuple #[.agg #[.int .i64 0, .int .i64 0, .int .i64 0, .int .i64 0], .int .i64 (gridI g)]) ∧ Kept W w') := fun W => (trect_any g n W hg hn.1 hn.2).mono fun e w' h => by
    unfold RectPost at h
    rw [if_neg hI] at h
    exact h
  have CA : Hid (∀ W, Calls Tryz.prog 21 #[.agg #[.bool g.re.neg, .string g.re.n, .int .i64 g.re.e, .bool g.im.neg, .string g.im.n, .int .i64 g.im.e, .int .i64 g.exp, .int .i64 g.across, .int .i64 g.down, .int .i64 g.wide, .int .i64 g.high], .int .i64 x, .int .i64 y] W fun e w' => e = .returned (.tuple #[.int .i64 0, .int .i64 (gridI g)]) ∧ Kept W w') := fun W => (tat_any g x y W hg hx.1 hx.2 hy.1 hy.2).mono fun e w' h => by
    unfold AtPost at h
    rw [if_neg hI] at h
    exact h
  have CRS := hide (fun (W : World) => rects_any g W)
  have CL := hide (fun (W : World) (h : Kept w W) => lives_any (laid_keptG hH h))
  have HN0 : Hid (rectsN g = 0) := by show rectsN g = 0; simp [rectsN, cntA, hI]
  have hne : (gridI g != 0) = true := by simp [hI]
  have HG := hide hg
  generalize gridI g = E at *
  obtain ⟨W0, hW0⟩ : ∃ W0, W0 = ((w.alloc (.cells #[.bool g.re.neg, .string g.re.n, .int .i64 g.re.e, .bool g.im.neg, .string g.im.n, .int .i64 g.im.e, .int .i64 g.exp, .int .i64 g.across, .int .i64 g.down, .int .i64 g.wide, .int .i64 g.high] 31)).alloc (.cells #[.int .i64 lv] 3)).alloc (.cells #[.bool false] 4) := ⟨_, rfl⟩
  have P0 := hide (show GB W0 w.heap.size g lv by rw [hW0]; exact GB.new w g lv)
  have K0 := hide (show Kept w W0 by rw [hW0]; exact own_keptG w g lv)
  clear hI hg hH hn hx hy
  refine callsIn_wide.1 (callsIn_of_wp_marks (n := 5) Tryz.func7 rfl trivial ?_ rfl)
  simp only [Tryz.ntmps7, List.size_toArray, List.length_cons, List.length_nil, Nat.reduceAdd, Nat.reduceSub, Array.replicate_succ, Array.replicate_zero, List.push_toArray, List.append_toArray, List.nil_append, List.cons_append]
  refine wpIn_wide.2 ?_
  obtain ⟨⟨q0, q1, q2, q3, q4, q5, q6, q7, q8, q9, q10⟩, cl, cr, fr, lt⟩ := P0.out
  go_upto_region 1 with fail
  rw [← hW0]
  clear hW0
  go_wp2_with fail
  refine (CK.out _).mono ?_
  rintro e w1 ⟨rfl, hk1⟩
  have K01 := hide (show Kept W0 w1 from hk1)
  have K1 := hide (show Kept w w1 from K0.out.trans' hk1)
  have P1 := hide (P0.out.kept hk1)
  clear q0 q1 q2 q3 q4 q5 q6 q7 q8 q9 q10 cl cr fr lt hk1
  obtain ⟨⟨q0, q1, q2, q3, q4, q5, q6, q7, q8, q9, q10⟩, cl, cr, fr, lt⟩ := P1.out
  go_wp2_with fail
  refine (CV.out _).mono ?_
  rintro e w2 ⟨rfl, hk2⟩
  have K12 := hide (show Kept w1 w2 from hk2)
  have K2 := hide (show Kept w w2 from K1.out.trans' hk2)
  have P2 := hide (P1.out.kept hk2)
  clear q0 q1 q2 q3 q4 q5 q6 q7 q8 q9 q10 cl cr fr lt hk2
  obtain ⟨⟨q0, q1, q2, q3, q4, q5, q6, q7, q8, q9, q10⟩, cl, cr, fr, lt⟩ := P2.out
  go_wp2_with fail
  refine (CC.out _).mono ?_
  rintro e w3 ⟨rfl, hk3⟩
  have K23 := hide (show Kept w2 w3 from hk3)
  have K3 := hide (show Kept w w3 from K2.out.trans' hk3)
  have P3 := hide (P2.out.kept hk3)
  clear q0 q1 q2 q3 q4 q5 q6 q7 q8 q9 q10 cl cr fr lt hk3
  obtain ⟨⟨q0, q1, q2, q3, q4, q5, q6, q7, q8, q9, q10⟩, cl, cr, fr, lt⟩ := P3.out
  go_wp2_with fail
  refine (CR.out _).mono ?_
  rintro e w4' ⟨rfl, hk4⟩
  obtain ⟨w4, hw4⟩ : ∃ X, X = w4'.alloc (.cells #[.int .i64 0, .int .i64 0, .int .i64 0, .int .i64 0] 38) := ⟨_, rfl⟩
  have hk4' : Kept w3 w4 := by rw [hw4]; exact (show Kept w3 w4' from hk4).trans' ((Below.refl _ _).alloc (Nat.le_refl _) _)
  have BR4 : Hid (RBx w4 w4'.heap.size 0 0 0 0) := by show RBx _ _ _ _ _ _; rw [hw4]; exact RBx.new _ _ _ _ _ _
  have K4 := hide (show Kept w w4 from K3.out.trans' hk4')
  have P4 := hide (P3.out.kept hk4')
  go_upto_region 6 with fail
  rw [← hw4]
  clear hw4 hk4 hk4' q0 q1 q2 q3 q4 q5 q6 q7 q8 q9 q10 cl cr fr lt
  obtain ⟨⟨q0, q1, q2, q3, q4, q5, q6, q7, q8, q9, q10⟩, cl, cr, fr, lt⟩ := P4.out
  go_wp2_with fail
  refine (CA.out _).mono ?_
  rintro e w5 ⟨rfl, hk5⟩
  have K45 := hide (show Kept w4 w5 from hk5)
  have K5 := hide (show Kept w w5 from K4.out.trans' hk5)
  have P5 := hide (P4.out.kept hk5)
  clear q0 q1 q2 q3 q4 q5 q6 q7 q8 q9 q10 cl cr fr lt hk5
  obtain ⟨⟨q0, q1, q2, q3, q4, q5, q6, q7, q8, q9, q10⟩, cl, cr, fr, lt⟩ := P5.out
  go_wp2_with fail
  refine (CRS.out _).mono ?_
  rintro e w6' ⟨rfl, rfl⟩
  have hf1 : ∀ W, (binOp .eql 44 (.func (.func 60) #[] #[.pointer (some ⟨w5.heap.size, 0, none⟩)]) .nilFunc).run Tryz.prog W = .ok (.bool false) W := fun W => by kernel_rfl
  obtain ⟨Y, hY⟩ : ∃ Y, Y = w5.alloc (.cells #[.bool g.re.neg, .string g.re.n, .int .i64 g.re.e, .bool g.im.neg, .string g.im.n, .int .i64 g.im.e, .int .i64 g.exp, .int .i64 g.across, .int .i64 g.down, .int .i64 g.wide, .int .i64 g.high] 31) := ⟨_, rfl⟩
  have kY : Kept w5 Y := by rw [hY]; exact (Below.refl _ _).alloc (Nat.le_refl _) _
  have ZY : Hid (Y.heap.size = w5.heap.size + 1) := by show Y.heap.size = _; rw [hY]; simp
  have KY : Hid (Kept w Y) := K5.out.trans' kY
  have PY : Hid (GB Y w.heap.size g lv) := P5.out.kept kY
  have BRY : Hid (RBx Y w4'.heap.size 0 0 0 0) := (BR4.out.kept K45.out).kept kY
  have hG2 : GBox Y w5.heap.size g := by rw [hY]; exact GBox.new _ _ _ _ rfl
  rw [← hY]
  clear hY kY q0 q1 q2 q3 q4 q5 q6 q7 q8 q9 q10 cl cr fr lt
  go_wp2_with fail
  refine (wpIn_wide (n := 5)).1 (wpIn_rangeOffers (α := Nat) rfl (by decide) (gf := 60) (lb := #[.pointer (some ⟨w5.heap.size, 0, none⟩)]) rfl trivial (enters_of Tryz.func60 (by kernel_rfl) rfl)
    (rects_offersO (BKeep w5.heap.size) 4 (by omega) w5.heap.size Y.heap.size g (fun _ _ h hb => h.box hb) (fun _ _ h => h.1) HG.out Y (by have := ZY.out; omega) (Nat.le_refl _) hG2)
    (fun h k => h.trans k) (fun W l o o' _ h1 h2 _ => BKeep.putObj W l o o' h1 h2) (Below.refl _ _) (fun _ => rfl)
    (fun _ W => Below Y.heap.size Y W) (fun _ _ _ => False) (ownFrom_below (Nat.le_refl _) (Nat.le_refl _)) (fun _ s A B row h _ _ => h.elim) (Below.refl _ _)
    (fun _ _ _ => False) (fun _ _ _ A B row h _ _ => h.elim) (fun l pre x W K2 _ hR _ => absurd hR.2 (by have := HN0.out; omega)) (fun _ _ _ _ _ _ _ _ h _ => h.elim) ?done (fun D c pre W _ _ h _ => h.elim))
  case done =>
    rintro D xs W hD hxs hW hDef
    have KYW : Hid (Kept Y W) := hW
    have KW : Hid (Kept w W) := (show Kept w Y from KY.out).trans' hW
    have PW := hide (PY.out.kept hW)
    have BRW := hide (BRY.out.kept hW)
    have HDEF := hide hDef
    have hDs := hide hD
    clear hxs hW hDef hD
    obtain ⟨⟨q0, q1, q2, q3, q4, q5, q6, q7, q8, q9, q10⟩, cl, cr, fr, lt⟩ := PW.out
    obtain ⟨r0, r1, r2, r3⟩ := BRW.out
    have hrl := BRW.out.lt
    go_wp2_with fail
    refine (CL.out _ KW.out).mono ?_
    rintro e w10 ⟨rfl, hk10⟩
    have hDF : Defs Y.heap.size w10 [{ target := .collected D, args := #[] }] :=
      ⟨D, rfl, hDs.out, (hk10.block D (Array.getElem?_eq_some_iff.1 HDEF.out).1).trans HDEF.out, by simp, trivial⟩
    have HDF := hide hDF
    have P10 := hide (PW.out.kept hk10)
    obtain ⟨hE, hKE⟩ := P10.out.ret ((show Kept w W from KW.out).trans' hk10)
    have HE := hide hE
    have HKE := hide hKE
    have hsY : Y.heap.size ≤ w10.heap.size := Nat.le_trans KYW.out.size hk10.size
    have hws : w.heap.size ≤ Y.heap.size := KY.out.size
    have cr10 := P10.out.cr
    have fr10 := P10.out.fr
    have lt10 := P10.out.lt
    clear hk10 hDF hE hKE q0 q1 q2 q3 q4 q5 q6 q7 q8 q9 q10 cl cr fr lt r0 r1 r2 r3 hrl
    go_wp2_with fail
    refine leaves_defs (lo := Y.heap.size) _ _ (HDF.out.keeps fun k o h hc => (KeepsOthers.setCell w10 _ _).same k o h hc) (fun W' hb hcc => ?_) (by simpa [World.setCell] using hsY)
    have h9 := (hcc (w.heap.size + 1 + 1) 0 ⟨_, HE.out⟩).trans HE.out
    exact ⟨.bool true, by simp [results, Tryz.f7, go_sem, h9], rfl, HKE.out.trans (hb.mono hws)⟩
end Go.Proofs.YtneakieigiafpaaGreatDoor
