/- A range over tile.Rects whose rounds write anywhere but into the iterator's own box. -/
import Derived.Test.YtneakieigiafpaaGreatDoorRects
import Derived.Test.YtneakieigiafpaaGreatDoorHeldR
namespace Go.Proofs.YtneakieigiafpaaGreatDoor
open Go.RowKit Go.Shelf
attribute [local go_sem] Oper.semAt_some

set_option maxRecDepth 100000 in
set_option maxHeartbeats 2000000 in
theorem rects1_inK (Kp : World → World → Prop) (n : Nat) (hn : 1 ≤ n) (l Bs n₀ : Nat) (g : GrD) (hK1 : ∀ X Y, Kp X Y → GBox X Bs g → GBox Y Bs g) (hK2 : ∀ X Y, Kp X Y → X.heap.size ≤ Y.heap.size) (hg : g.ok) (hb : Bs < n₀) (J Jx : List Nat → World → Prop) (B : Nat) (hJ : AbidesFrom B J)
    (hY : ∀ k W, k < rectsN g → J (List.range k) W → YieldAt Fence.wide (n - 1) Tryz.prog l (encR g k) W fun e W' =>
      (e = .returned (.bool true) ∧ J (List.range k ++ [k]) W' ∧ Kp W W') ∨ (e = .returned (.bool false) ∧ Jx (List.range k ++ [k]) W'))
    (W : World) (hn0 : n₀ ≤ W.heap.size) (hB : GBox W Bs g) (h0 : J [] W) :
    CallsIn Fence.wide n Tryz.prog 60 #[.func (.yield l) #[] #[], .pointer (some ⟨Bs, 0, none⟩)] W fun e W' => (∃ v, e = .returned v) ∧
      ((∃ ys, ys = List.range (rectsN g) ∧ J ys W') ∨ (∃ pre, (∃ k, k ≤ rectsN g ∧ pre = List.range k) ∧ Jx pre W')) := by
  have CN := hide (fun (X : World) => tcount_any g X hg)
  have CR : Hid (∀ (X : World) (k : Nat), k < rectsN g → Calls Tryz.prog 59 #[.agg #[.bool g.re.neg, .string g.re.n, .int .i64 g.re.e, .bool g.im.neg, .string g.im.n, .int .i64 g.im.e, .int .i64 g.exp, .int .i64 g.across, .int .i64 g.down, .int .i64 g.wide, .int .i64 g.high], .int .i64 k] X fun e w' => e = .returned (.agg #[.int .i64 (rectX g k), .int .i64 (rectY g k), .int .i64 (rectW g k), .int .i64 (rectH g k)]) ∧ Kept X w') := fun X k hk => by
    have hc := cnt_bnd g
    have hI : gridI g = 0 := by
      by_cases h : gridI g = 0
      · exact h
      · simp [rectsN, cntA, h] at hk
    exact rect_any g k X (gridI_ok hI).1 (by omega) (by unfold rectsN at hk; omega)
  obtain ⟨b1, b2, b3, b4, b5, b6⟩ := cnt_bnd g
  have HN := hide (show ((rectsN g : Nat) : Int) = cntA g * cntD g from Int.toNat_of_nonneg b6)
  obtain ⟨E, hE⟩ : ∃ E, E = gridI g := ⟨_, rfl⟩
  obtain ⟨N, hN⟩ : ∃ N, N = rectsN g := ⟨_, rfl⟩
  rw [← hE] at CN
  rw [← hN] at CR HN hY ⊢
  clear hE hN
  generalize cntA g = a at *
  generalize cntD g = d at *
  have HB := hide hB
  refine callsIn_of_wp Tryz.func60 rfl trivial ?_ rfl
  simp only [Tryz.ntmps60, List.size_toArray, List.length_cons, List.length_nil, Nat.reduceAdd, Nat.reduceSub, Array.replicate_succ, Array.replicate_zero, List.push_toArray, List.append_toArray, List.nil_append, List.cons_append]
  obtain ⟨q0, q1, q2, q3, q4, q5, q6, q7, q8, q9, q10⟩ := hB
  gi_wp2_with (refine ⟨trivial, ?_⟩; gi_at_call 19; refine (callsIn_wide.2 (CN.out _)).mono ?_; rintro e w1 ⟨rfl, hk1⟩)
  have hJ1 : J [] w1 := hJ [] W w1 none h0 (kept_grown hk1) (by simp)
  have HB1 := hide (HB.out.below (hk1.mono hn0) hb)
  have hn1 : n₀ ≤ w1.heap.size := Nat.le_trans hn0 hk1.size
  clear q0 q1 q2 q3 q4 q5 q6 q7 q8 q9 q10 hk1
  gi_loopw [16] (fun i wr => ∃ k : Nat, k ≤ N ∧ i = .int .i64 k ∧ J (List.range k) wr ∧ GBox wr Bs g ∧ n₀ ≤ wr.heap.size) (fun i _ => N - (intOf i).toNat)
  case atStart => exact ⟨0, Nat.zero_le _, rfl, hJ1, HB1.out, hn1⟩
  case round =>
    obtain ⟨k, hk, rfl, hJs, hbx, hsz⟩ := hrel
    have HBX := hide hbx
    by_cases hlt : k < N
    · have hlI : (k : Int) < a * d := by have := HN.out; omega
      obtain ⟨q0, q1, q2, q3, q4, q5, q6, q7, q8, q9, q10⟩ := hbx
      gi_wp2_with (refine ⟨trivial, ?_⟩; gi_at_call 59; refine (callsIn_wide.2 (CR.out _ k hlt)).mono ?_; rintro e w2 ⟨rfl, hk2⟩; obtain ⟨fn, tmps, assign, body, hy, hR⟩ := hY k w2 hlt (hJ _ wr w2 none hJs (kept_grown hk2) (by simp)); dsimp only [encR] at hy)
      have HBW := hide ((HBX.out.below (hk2.mono hsz) hb))
      have hsz2 : n₀ ≤ w2.heap.size := Nat.le_trans hsz hk2.size
      clear q0 q1 q2 q3 q4 q5 q6 q7 q8 q9 q10
      refine hR.mono ?_
      rintro e W3 (⟨rfl, hJ3, hk3⟩ | ⟨rfl, hJx3⟩)
      · have HB3 := hide (hK1 _ _ hk3 HBW.out)
        have HJ3 : Hid (J (List.range (k + 1)) W3) := by show J _ _; rw [List.range_succ]; exact hJ3
        have hsz3 : n₀ ≤ W3.heap.size := Nat.le_trans hsz2 (hK2 _ _ hk3)
        clear hk3 hJ3
        gi_wp2
        go_roundw
        case rel => exact ⟨k + 1, by omega, by simp, HJ3.out, HB3.out, hsz3⟩
        case measure => simp [intOf]; omega
      · have HX3 : Hid (Jx (List.range (k + 1)) W3) := by show Jx _ _; rw [List.range_succ]; exact hJx3
        gi_wp2
        refine bodyPost_ret (results_none rfl _ _ _) rfl ?_
        exact ⟨⟨_, rfl⟩, .inr ⟨_, ⟨k + 1, by omega, rfl⟩, HX3.out⟩⟩
    · have hge : ¬ (k : Int) < a * d := by have := HN.out; omega
      obtain rfl : k = N := by omega
      gi_wp2
      go_end0
      exact ⟨⟨_, rfl⟩, .inl hJs⟩
/-- tile.Rects's closure; a round may write wherever its box stays. -/
theorem rects_stopsK (Kp : World → World → Prop) (n : Nat) (hn : 1 ≤ n) (Bs n₀ : Nat) (g : GrD) (hK1 : ∀ X Y, Kp X Y → GBox X Bs g → GBox Y Bs g) (hK2 : ∀ X Y, Kp X Y → X.heap.size ≤ Y.heap.size) (hg : g.ok) (w : World) (hb : Bs < n₀) (hn₀ : n₀ ≤ w.heap.size) (hB : GBox w Bs g) :
    SeqStopsK Fence.wide n Tryz.prog 60 #[.pointer (some ⟨Bs, 0, none⟩)] (fun k : Fin (rectsN g) => encR g k.val) Kp (fun ys => ys.map (fun k => k.val) = List.range (rectsN g)) (fun pre => ∃ k, k ≤ rectsN g ∧ pre.map (fun k => k.val) = List.range k) (rectsN g) w := by
  intro l J Jx W hW hJ hJx hY h0
  refine (rects1_inK Kp n hn l Bs n₀ g hK1 hK2 hg hb (fun pre W => ∃ pre' : List (Fin (rectsN g)), pre'.map (fun k => k.val) = pre ∧ J pre' W) (fun pre W => ∃ pre' : List (Fin (rectsN g)), pre'.map (fun k => k.val) = pre ∧ Jx pre' W) _
    (fun s A B row hs h1 h2 => by obtain ⟨p', e, h⟩ := hs; exact ⟨p', e, hJ p' A B row h h1 h2⟩)
    (fun k W1 hk hj => ?_) W (Nat.le_trans hn₀ hW.size) (hB.below (hW.mono hn₀) hb) ⟨[], rfl, h0⟩).mono ?_
  · obtain ⟨p', e, h⟩ := hj
    have hlen : p'.length < rectsN g := by have := congrArg List.length e; simp at this; omega
    refine (hY p' ⟨k, hk⟩ W1 h hlen).mono ?_
    rintro e1 W2 (⟨rfl, h1, h2⟩ | ⟨rfl, h1⟩)
    · exact .inl ⟨rfl, ⟨p' ++ [⟨k, hk⟩], by simp [e], h1⟩, h2⟩
    · exact .inr ⟨rfl, ⟨p' ++ [⟨k, hk⟩], by simp [e], h1⟩⟩
  · rintro e1 W2 ⟨hv, ⟨ys, rfl, p', e, h⟩ | ⟨pre, ⟨k, hk, rfl⟩, p', e, h⟩⟩
    · exact ⟨hv, .inl ⟨p', e, h⟩⟩
    · exact ⟨hv, .inr ⟨p', ⟨k, hk, e⟩, h⟩⟩
/-- The block Bs stays as it is. -/
def BKeep (Bs : Nat) (X Y : World) : Prop := X.heap.size ≤ Y.heap.size ∧ ∀ o v, X.cell? ⟨Bs, o, none⟩ = some v → Y.cell? ⟨Bs, o, none⟩ = some v
theorem BKeep.trans {Bs : Nat} {X Y Z : World} (h : BKeep Bs X Y) (k : BKeep Bs Y Z) : BKeep Bs X Z := ⟨Nat.le_trans h.1 k.1, fun o v hv => k.2 o v (h.2 o v hv)⟩
theorem BKeep.refl (Bs : Nat) (X : World) : BKeep Bs X X := ⟨Nat.le_refl _, fun _ _ h => h⟩
theorem BKeep.of_below {Bs B : Nat} {X Y : World} (h : Below B X Y) (hb : Bs < B) : BKeep Bs X Y := ⟨h.size, fun o _ hv => (h.cell (p := ⟨Bs, o, none⟩) hb).trans hv⟩
theorem BKeep.of_kept {Bs : Nat} {X Y : World} (h : Kept X Y) : BKeep Bs X Y := ⟨h.size, fun _ _ hv => (h.cells _ _ (lt_of_cell hv)).trans hv⟩
theorem BKeep.setCell {Bs : Nat} {X : World} {p : Addr} (hne : Bs ≠ p.block) (u : Value) : BKeep Bs X (X.setCell p u) := ⟨by simp [World.setCell], fun o v hv => (World.cell?_setCell_other _ _ _ _ (fun e => hne (by rw [e]))).trans hv⟩
theorem BKeep.grown {Bs : Nat} {X Y : World} {row : Option Nat} (h : X.grownBy Y row) (hne : some Bs ≠ row) : BKeep Bs X Y := ⟨h.size, fun o _ hv => (h.cell_far ⟨Bs, o, none⟩ (lt_of_cell hv) hne).trans hv⟩
theorem BKeep.box {Bs : Nat} {X Y : World} {g : GrD} (h : BKeep Bs X Y) (hg : GBox X Bs g) : GBox Y Bs g := by
  obtain ⟨q0, q1, q2, q3, q4, q5, q6, q7, q8, q9, q10⟩ := hg
  exact ⟨h.2 _ _ q0, h.2 _ _ q1, h.2 _ _ q2, h.2 _ _ q3, h.2 _ _ q4, h.2 _ _ q5, h.2 _ _ q6, h.2 _ _ q7, h.2 _ _ q8, h.2 _ _ q9, h.2 _ _ q10⟩
theorem BKeep.putObj {Bs : Nat} (W : World) (l : Nat) (o o' : Obj) (hl : W.heap[l]? = some o) (ho : o.isCells = false) : BKeep Bs W (W.putObj l o') :=
  ⟨by simp, fun k v hv => (cell_kept hv (grownBy_putObj' W l o') (fun r e => by cases e; exact ⟨_, hl, ho⟩)).trans rfl⟩
end Go.Proofs.YtneakieigiafpaaGreatDoor
