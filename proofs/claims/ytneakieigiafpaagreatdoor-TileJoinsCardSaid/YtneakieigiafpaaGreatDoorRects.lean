/- tile.Rects and its closure: a range over the rectangles of a grid. -/
import Derived.RangeFuncNested
import Derived.RangeFuncBound
import Derived.RangeFuncCalls
import Derived.RangeFuncLeaves
import Derived.Shelf.Abstract
import Derived.Shelf.RegionOpen
import Derived.WalkKit
import Derived.OwnWalkIn
import Derived.TacticsInMore
import Derived.LoopNIn
import Derived.LoopIn
import Derived.Test.YtneakieigiafpaaGreatDoorGriX4
namespace Go.Proofs.YtneakieigiafpaaGreatDoor
open Go.RowKit Go.Shelf
attribute [local go_sem] Oper.semAt_some

def rectsN (g : GrD) : Nat := (cntA g * cntD g).toNat
def encR (g : GrD) (k : Nat) : Array Value := #[.int .i64 (k : Int), .agg #[.int .i64 (rectX g k), .int .i64 (rectY g k), .int .i64 (rectW g k), .int .i64 (rectH g k)]]
/-- The grid in a box. -/
def GBox (W : World) (b : Nat) (g : GrD) : Prop := W.cell? ⟨b, 0, none⟩ = some (.bool g.re.neg) ∧ W.cell? ⟨b, 1, none⟩ = some (.string g.re.n) ∧ W.cell? ⟨b, 2, none⟩ = some (.int .i64 g.re.e) ∧ W.cell? ⟨b, 3, none⟩ = some (.bool g.im.neg) ∧ W.cell? ⟨b, 4, none⟩ = some (.string g.im.n) ∧ W.cell? ⟨b, 5, none⟩ = some (.int .i64 g.im.e) ∧ W.cell? ⟨b, 6, none⟩ = some (.int .i64 g.exp) ∧ W.cell? ⟨b, 7, none⟩ = some (.int .i64 g.across) ∧ W.cell? ⟨b, 8, none⟩ = some (.int .i64 g.down) ∧ W.cell? ⟨b, 9, none⟩ = some (.int .i64 g.wide) ∧ W.cell? ⟨b, 10, none⟩ = some (.int .i64 g.high)
theorem GBox.below {W W' : World} {b B : Nat} {g : GrD} (h : GBox W b g) (hb : Below B W W') (hlt : b < B) : GBox W' b g :=
  ⟨(hb.cell (p := ⟨b, 0, none⟩) hlt).trans h.1, (hb.cell (p := ⟨b, 1, none⟩) hlt).trans h.2.1, (hb.cell (p := ⟨b, 2, none⟩) hlt).trans h.2.2.1, (hb.cell (p := ⟨b, 3, none⟩) hlt).trans h.2.2.2.1, (hb.cell (p := ⟨b, 4, none⟩) hlt).trans h.2.2.2.2.1, (hb.cell (p := ⟨b, 5, none⟩) hlt).trans h.2.2.2.2.2.1, (hb.cell (p := ⟨b, 6, none⟩) hlt).trans h.2.2.2.2.2.2.1, (hb.cell (p := ⟨b, 7, none⟩) hlt).trans h.2.2.2.2.2.2.2.1, (hb.cell (p := ⟨b, 8, none⟩) hlt).trans h.2.2.2.2.2.2.2.2.1, (hb.cell (p := ⟨b, 9, none⟩) hlt).trans h.2.2.2.2.2.2.2.2.2.1, (hb.cell (p := ⟨b, 10, none⟩) hlt).trans h.2.2.2.2.2.2.2.2.2.2⟩
theorem GBox.new (W : World) (g : GrD) (t : TypeId) (b : Nat) (hb : b = W.heap.size) : GBox (W.alloc (.cells #[.bool g.re.neg, .string g.re.n, .int .i64 g.re.e, .bool g.im.neg, .string g.im.n, .int .i64 g.im.e, .int .i64 g.exp, .int .i64 g.across, .int .i64 g.down, .int .i64 g.wide, .int .i64 g.high] t)) b g := by
  subst hb; exact ⟨by simp, by simp, by simp, by simp, by simp, by simp, by simp, by simp, by simp, by simp, by simp⟩
theorem kept_grown {W W' : World} (h : Kept W W') : W.grownBy W' none := ⟨h.os, h.tape, h.output, h.size, fun k hk _ => h.block k hk⟩
theorem cnt_bnd (g : GrD) : 0 ≤ cntA g ∧ 0 ≤ cntD g ∧ cntA g ≤ 65536 ∧ cntD g ≤ 65536 ∧ cntA g * cntD g ≤ 65536 ∧ 0 ≤ cntA g * cntD g := by
  by_cases h : gridI g = 0
  · obtain ⟨hB, hm⟩ := gridI_ok h
    have h1 := hB.gA
    have h2 := hB.gD
    rw [show cntA g = gridA g by simp [cntA, h], show cntD g = gridD g by simp [cntD, h]]
    exact ⟨by omega, by omega, by omega, by omega, hm, Int.mul_nonneg (by omega) (by omega)⟩
  · rw [show cntA g = 0 by simp [cntA, h], show cntD g = 0 by simp [cntD, h]]
    omega

set_option maxRecDepth 100000 in
set_option maxHeartbeats 2000000 in
theorem rects1_in (n : Nat) (hn : 1 ≤ n) (l Bs n₀ : Nat) (g : GrD) (hg : g.ok) (hb : Bs < n₀) (J Jx : List Nat → World → Prop) (B : Nat) (hJ : AbidesFrom B J)
    (hY : ∀ k W, k < rectsN g → J (List.range k) W → YieldAt Fence.wide (n - 1) Tryz.prog l (encR g k) W fun e W' =>
      (e = .returned (.bool true) ∧ J (List.range k ++ [k]) W' ∧ Below n₀ W W') ∨ (e = .returned (.bool false) ∧ Jx (List.range k ++ [k]) W'))
    (W : World) (hn0 : n₀ ≤ W.heap.size) (hB : GBox W Bs g) (h0 : J [] W) :
    CallsIn Fence.wide n Tryz.prog 60 #[.func (.yield l) #[] #[], .pointer (some ⟨Bs, 0, none⟩)] W fun e W' => (∃ v, e = .returned v) ∧
      ((∃ ys, ys = List.range (rectsN g) ∧ J ys W') ∨ (∃ pre, (∃ k, k ≤ rectsN g ∧ pre = List.range k) ∧ Jx pre W')) := by
  have CN := hide (fun (X : World) => tcount_any g X hg)
  have CR : Hid (∀ (X : World) (k : Nat), k < rectsN g → Calls Tryz.prog 59 #[.agg #[.bool g.re.neg, .string g.re.n, .int .i64 g.re.e, .bool g.im.neg, .string g.im.n, .int .i64 g.im.e, .int .i64 g.exp, .int .i64 g.across, .int .i64 g.down, .int .i64 g.wide, .int .i64 g.high], .int .i64 k] X fun e w' => e = .returned (.agg #[.int .i64 (rectX g k), .int .i64 (rectY g k), .int .i64 (rectW g k), .int .i64 (rectH g k)]) ∧ Kept X w') := fun X k hk => by
    have hc := cnt_bnd g
    have hI : gridI g = 0 := by
      by_cases h : gridI g = 0
      · exact h
      · simp [rectsN, cntA, h] at hk
    exact rect_any g k X (gridI_ok hI).1 (by omega) (by unfold rectsN at hk; omega)
  obtain ⟨b1, b2, b3, b4, b5, b6⟩ := cnt_bnd g
  have HN := hide (show ((rectsN g : Nat) : Int) = cntA g * cntD g from Int.toNat_of_nonneg b6)
  obtain ⟨E, hE⟩ : ∃ E, E = gridI g := ⟨_, rfl⟩
  obtain ⟨N, hN⟩ : ∃ N, N = rectsN g := ⟨_, rfl⟩
  rw [← hE] at CN
  rw [← hN] at CR HN hY ⊢
  clear hE hN
  generalize cntA g = a at *
  generalize cntD g = d at *
  have HB := hide hB
  refine callsIn_of_wp Tryz.func60 rfl trivial ?_ rfl
  simp only [Tryz.ntmps60, List.size_toArray, List.length_cons, List.length_nil, Nat.reduceAdd, Nat.reduceSub, Array.replicate_succ, Array.replicate_zero, List.push_toArray, List.append_toArray, List.nil_append, List.cons_append]
  obtain ⟨q0, q1, q2, q3, q4, q5, q6, q7, q8, q9, q10⟩ := hB
  gi_wp2_with (refine ⟨trivial, ?_⟩; gi_at_call 19; refine (callsIn_wide.2 (CN.out _)).mono ?_; rintro e w1 ⟨rfl, hk1⟩)
  have hJ1 : J [] w1 := hJ [] W w1 none h0 (kept_grown hk1) (by simp)
  have HB1 := hide (HB.out.below (hk1.mono hn0) hb)
  have hn1 : n₀ ≤ w1.heap.size := Nat.le_trans hn0 hk1.size
  clear q0 q1 q2 q3 q4 q5 q6 q7 q8 q9 q10 hk1
  gi_loopw [16] (fun i wr => ∃ k : Nat, k ≤ N ∧ i = .int .i64 k ∧ J (List.range k) wr ∧ GBox wr Bs g ∧ n₀ ≤ wr.heap.size) (fun i _ => N - (intOf i).toNat)
  case atStart => exact ⟨0, Nat.zero_le _, rfl, hJ1, HB1.out, hn1⟩
  case round =>
    obtain ⟨k, hk, rfl, hJs, hbx, hsz⟩ := hrel
    have HBX := hide hbx
    by_cases hlt : k < N
    · have hlI : (k : Int) < a * d := by have := HN.out; omega
      obtain ⟨q0, q1, q2, q3, q4, q5, q6, q7, q8, q9, q10⟩ := hbx
      gi_wp2_with (refine ⟨trivial, ?_⟩; gi_at_call 59; refine (callsIn_wide.2 (CR.out _ k hlt)).mono ?_; rintro e w2 ⟨rfl, hk2⟩; obtain ⟨fn, tmps, assign, body, hy, hR⟩ := hY k w2 hlt (hJ _ wr w2 none hJs (kept_grown hk2) (by simp)); dsimp only [encR] at hy)
      have HBW := hide ((HBX.out.below (hk2.mono hsz) hb))
      have hsz2 : n₀ ≤ w2.heap.size := Nat.le_trans hsz hk2.size
      clear q0 q1 q2 q3 q4 q5 q6 q7 q8 q9 q10
      refine hR.mono ?_
      rintro e W3 (⟨rfl, hJ3, hk3⟩ | ⟨rfl, hJx3⟩)
      · have HB3 := hide (HBW.out.below hk3 hb)
        have HJ3 : Hid (J (List.range (k + 1)) W3) := by show J _ _; rw [List.range_succ]; exact hJ3
        have hsz3 : n₀ ≤ W3.heap.size := Nat.le_trans hsz2 hk3.size
        clear hk3 hJ3
        gi_wp2
        go_roundw
        case rel => exact ⟨k + 1, by omega, by simp, HJ3.out, HB3.out, hsz3⟩
        case measure => simp [intOf]; omega
      · have HX3 : Hid (Jx (List.range (k + 1)) W3) := by show Jx _ _; rw [List.range_succ]; exact hJx3
        gi_wp2
        refine bodyPost_ret (results_none rfl _ _ _) rfl ?_
        exact ⟨⟨_, rfl⟩, .inr ⟨_, ⟨k + 1, by omega, rfl⟩, HX3.out⟩⟩
    · have hge : ¬ (k : Int) < a * d := by have := HN.out; omega
      obtain rfl : k = N := by omega
      gi_wp2
      go_end0
      exact ⟨⟨_, rfl⟩, .inl hJs⟩
theorem rects_stops (n : Nat) (hn : 1 ≤ n) (Bs n₀ : Nat) (g : GrD) (hg : g.ok) (w : World) (hb : Bs < n₀) (hn₀ : n₀ ≤ w.heap.size) (hB : GBox w Bs g) :
    SeqStopsK Fence.wide n Tryz.prog 60 #[.pointer (some ⟨Bs, 0, none⟩)] (encR g) (Below n₀) (fun ys => ys = List.range (rectsN g)) (fun pre => ∃ k, k ≤ rectsN g ∧ pre = List.range k) (rectsN g) w := fun l J Jx W hW hJ _ hY h0 =>
  rects1_in n hn l Bs n₀ g hg hb J Jx _ hJ (fun k W1 hk hj => hY (List.range k) k W1 hj (by simp; exact hk)) W (Nat.le_trans hn₀ hW.size) (hB.below (hW.mono hn₀) hb) h0
/-- The same, each index with its bound. -/
theorem rects_stopsF (n : Nat) (hn : 1 ≤ n) (Bs n₀ : Nat) (g : GrD) (hg : g.ok) (w : World) (hb : Bs < n₀) (hn₀ : n₀ ≤ w.heap.size) (hB : GBox w Bs g) :
    SeqStopsK Fence.wide n Tryz.prog 60 #[.pointer (some ⟨Bs, 0, none⟩)] (fun k : Fin (rectsN g) => encR g k.val) (Below n₀) (fun ys => ys.map (fun k => k.val) = List.range (rectsN g)) (fun pre => ∃ k, k ≤ rectsN g ∧ pre.map (fun k => k.val) = List.range k) (rectsN g) w := by
  intro l J Jx W hW hJ hJx hY h0
  refine (rects1_in n hn l Bs n₀ g hg hb (fun pre W => ∃ pre' : List (Fin (rectsN g)), pre'.map (fun k => k.val) = pre ∧ J pre' W) (fun pre W => ∃ pre' : List (Fin (rectsN g)), pre'.map (fun k => k.val) = pre ∧ Jx pre' W) _
    (fun s A B row hs h1 h2 => by obtain ⟨p', e, h⟩ := hs; exact ⟨p', e, hJ p' A B row h h1 h2⟩)
    (fun k W1 hk hj => ?_) W (Nat.le_trans hn₀ hW.size) (hB.below (hW.mono hn₀) hb) ⟨[], rfl, h0⟩).mono ?_
  · obtain ⟨p', e, h⟩ := hj
    have hlen : p'.length < rectsN g := by have := congrArg List.length e; simp at this; omega
    refine (hY p' ⟨k, hk⟩ W1 h hlen).mono ?_
    rintro e1 W2 (⟨rfl, h1, h2⟩ | ⟨rfl, h1⟩)
    · exact .inl ⟨rfl, ⟨p' ++ [⟨k, hk⟩], by simp [e], h1⟩, h2⟩
    · exact .inr ⟨rfl, ⟨p' ++ [⟨k, hk⟩], by simp [e], h1⟩⟩
  · rintro e1 W2 ⟨hv, ⟨ys, rfl, p', e, h⟩ | ⟨pre, ⟨k, hk, rfl⟩, p', e, h⟩⟩
    · exact ⟨hv, .inl ⟨p', e, h⟩⟩
    · exact ⟨hv, .inr ⟨p', ⟨k, hk, e⟩, h⟩⟩
/-- tile.Rects hands back its closure, the grid in a box. -/
theorem rects_any (g : GrD) (w : World) : Calls Tryz.prog 22 #[.agg #[.bool g.re.neg, .string g.re.n, .int .i64 g.re.e, .bool g.im.neg, .string g.im.n, .int .i64 g.im.e, .int .i64 g.exp, .int .i64 g.across, .int .i64 g.down, .int .i64 g.wide, .int .i64 g.high]] w fun e w' => e = .returned (.func (.func 60) #[] #[.pointer (some ⟨w.heap.size, 0, none⟩)]) ∧ w' = w.alloc (.cells #[.bool g.re.neg, .string g.re.n, .int .i64 g.re.e, .bool g.im.neg, .string g.im.n, .int .i64 g.im.e, .int .i64 g.exp, .int .i64 g.across, .int .i64 g.down, .int .i64 g.wide, .int .i64 g.high] 31) := by
  go_enter Tryz.func22, Tryz.ntmps22
  go_wp2
  go_ret
  exact ⟨rfl, rfl⟩
end Go.Proofs.YtneakieigiafpaaGreatDoor
