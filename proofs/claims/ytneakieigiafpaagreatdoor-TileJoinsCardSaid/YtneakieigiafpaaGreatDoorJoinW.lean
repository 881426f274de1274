/- tile.Join, of tiles that are all there and in order, walked. -/
import Derived.Test.YtneakieigiafpaaGreatDoorJonX
import Derived.Test.YtneakieigiafpaaGreatDoorRects
import Derived.Deep.LoopGhost
import Derived.Deep.QuietTactic
import Derived.BigQuiet
import Derived.StillTailTactics
import Derived.IntWalk
import Derived.Outline
namespace Go.Proofs.YtneakieigiafpaaGreatDoor
open Go.RowKit

/-- The window in a box. -/
def WBox (W : World) (b : Nat) (g : GrD) : Prop := W.cell? ⟨b, 0, none⟩ = some (.bool g.re.neg) ∧ W.cell? ⟨b, 1, none⟩ = some (.string g.re.n) ∧ W.cell? ⟨b, 2, none⟩ = some (.int .i64 g.re.e) ∧ W.cell? ⟨b, 3, none⟩ = some (.bool g.im.neg) ∧ W.cell? ⟨b, 4, none⟩ = some (.string g.im.n) ∧ W.cell? ⟨b, 5, none⟩ = some (.int .i64 g.im.e) ∧ W.cell? ⟨b, 6, none⟩ = some (.int .i64 g.exp) ∧ W.cell? ⟨b, 7, none⟩ = some (.int .i64 g.across) ∧ W.cell? ⟨b, 8, none⟩ = some (.int .i64 g.down)
theorem WBox.kept {W W' : World} {b B : Nat} {g : GrD} (h : WBox W b g) (hb : Below B W W') (hlt : b < B) : WBox W' b g :=
  ⟨(hb.cell (p := ⟨b, 0, none⟩) hlt).trans h.1, (hb.cell (p := ⟨b, 1, none⟩) hlt).trans h.2.1, (hb.cell (p := ⟨b, 2, none⟩) hlt).trans h.2.2.1, (hb.cell (p := ⟨b, 3, none⟩) hlt).trans h.2.2.2.1, (hb.cell (p := ⟨b, 4, none⟩) hlt).trans h.2.2.2.2.1, (hb.cell (p := ⟨b, 5, none⟩) hlt).trans h.2.2.2.2.2.1, (hb.cell (p := ⟨b, 6, none⟩) hlt).trans h.2.2.2.2.2.2.1, (hb.cell (p := ⟨b, 7, none⟩) hlt).trans h.2.2.2.2.2.2.2.1, (hb.cell (p := ⟨b, 8, none⟩) hlt).trans h.2.2.2.2.2.2.2.2⟩
theorem WBox.new (W : World) (g : GrD) (t : TypeId) (b : Nat) (hb : b = W.heap.size) : WBox (W.alloc (.cells #[.bool g.re.neg, .string g.re.n, .int .i64 g.re.e, .bool g.im.neg, .string g.im.n, .int .i64 g.im.e, .int .i64 g.exp, .int .i64 g.across, .int .i64 g.down] t)) b g := by
  subst hb; exact ⟨by simp, by simp, by simp, by simp, by simp, by simp, by simp, by simp, by simp⟩
theorem info_witJ : (Tryz.prog.info? 69).map (fun i => (i.zero, i.size, i.bytes)) = some (some (.agg #[.int .u8 0, .int .i64 0, .int .i64 0]), 3, 24) := by kernel_rfl
theorem info_boolJ : (Tryz.prog.info? 4).map (fun i => (i.zero, i.size, i.bytes)) = some (some (.bool false), 1, 1) := by kernel_rfl
theorem info_witS : (Tryz.prog.info? 69).map (·.size) = some 3 := by kernel_rfl

set_option maxRecDepth 100000 in
set_option maxHeartbeats 3200000 in
theorem join_good (g : GrD) (A : Option Addr) (c N : Nat) (TS : List TilH) (w : World) (hg : g.ok) (hI : gridI g = 0) (hsz : g.across * g.down ≤ 4194304) (hT : Tils w A TS) (hN : TS.length = N) (hND : (N : Int) = gridA g * gridD g) (hc : N ≤ c)
    (hE : ∀ (k : Nat) (t : TilH), TS[k]? = some t → t.T.x = rectX g k ∧ t.T.y = rectY g k ∧ t.T.a = rectW g k ∧ t.T.d = rectH g k ∧ (t.n : Int) = rectW g k * rectH g k) :
    Calls Tryz.prog 32 #[.agg #[.bool g.re.neg, .string g.re.n, .int .i64 g.re.e, .bool g.im.neg, .string g.im.n, .int .i64 g.im.e, .int .i64 g.exp, .int .i64 g.across, .int .i64 g.down, .int .i64 g.wide, .int .i64 g.high], .slice A N c] w fun e w' => ∃ v, e = .returned (.tuple #[.agg #[.int .i64 0, .int .i64 0, .int .i64 g.across, .int .i64 g.down, v], .int .i64 0]) ∧
      Own w' w.heap.size 3 v (g.across * g.down).toNat (witV (joinC g (TS.map (·.T)) N 0)) ∧ Kept w w' := by
  obtain ⟨hB, hm⟩ := gridI_ok hI
  have CV := hide (fun (W : World) => tcount_any g W hg)
  rw [show cntA g = gridA g by simp [cntA, hI], show cntD g = gridD g by simp [cntD, hI], hI] at CV
  obtain ⟨a0, a1, d0, d1, w0, w1', h0, h1⟩ := id hB
  obtain ⟨ga0, ga1⟩ := hB.gA
  obtain ⟨gd0, gd1⟩ := hB.gD
  have m0 : 0 ≤ g.across * g.down := Int.mul_nonneg (by omega) (by omega)
  obtain ⟨M, hM⟩ : ∃ M : Nat, M = (g.across * g.down).toNat := ⟨_, rfl⟩
  have hMI : (M : Int) = g.across * g.down := by rw [hM]; exact Int.toNat_of_nonneg m0
  -- what each tile is
  have HRB : Hid (∀ (k : Nat) (t : TilH), TS[k]? = some t → 1 ≤ rectW g k ∧ 1 ≤ rectH g k ∧ 0 ≤ rectX g k ∧ rectX g k + rectW g k ≤ g.across ∧ 0 ≤ rectY g k ∧ rectY g k + rectH g k ≤ g.down ∧ atN g (rectX g k) (rectY g k) = k ∧ rectW g k * rectH g k ≤ 4194304 ∧ k < N) := fun k t ht => by
    have hk : k < N := by have := (List.getElem?_eq_some_iff.1 ht).1; omega
    obtain ⟨r1, r2, r3, r4⟩ := rect_in hB (n := (k : Int)) (by omega) (by omega)
    have hx1 : rectX g k + 1 ≤ g.across := by
      have hA := hB.gA.1
      have m1 := Int.emod_lt_of_pos (k : Int) (show 0 < gridA g by omega)
      exact piece_pos w0 m1
    have hy1 : rectY g k + 1 ≤ g.down := by
      have hq : (k : Int) / gridA g < gridD g := Int.ediv_lt_of_lt_mul (by omega) (by rw [Int.mul_comm]; omega)
      exact piece_pos h0 hq
    have hw1 : 1 ≤ rectW g k := by unfold rectW; omega
    have hh1 : 1 ≤ rectH g k := by unfold rectH; omega
    refine ⟨hw1, hh1, r1, r2, r3, r4, (in_rect hB _ _ k r1 (by omega) r3 (by omega)).1 (by omega), ?_, hk⟩
    have : rectW g k * rectH g k ≤ g.across * g.down := Int.mul_le_mul (by omega) (by omega) (by omega) (by omega)
    omega
  have CA : Hid (∀ (k : Nat) (t : TilH) (W : World), TS[k]? = some t → Calls Tryz.prog 21 #[.agg #[.bool g.re.neg, .string g.re.n, .int .i64 g.re.e, .bool g.im.neg, .string g.im.n, .int .i64 g.im.e, .int .i64 g.exp, .int .i64 g.across, .int .i64 g.down, .int .i64 g.wide, .int .i64 g.high], .int .i64 (rectX g k), .int .i64 (rectY g k)] W fun e w' => e = .returned (.tuple #[.int .i64 (k : Int), .int .i64 0]) ∧ Kept W w') := fun k t W ht => by
    obtain ⟨r1, r2, r3, r4, r5, r6, r7, -, -⟩ := HRB.out k t ht
    have := tat_in g (rectX g k) (rectY g k) W hg hI r3 r5 (by omega) (by omega)
    rwa [r7] at this
  have CRC : Hid (∀ (k : Nat) (t : TilH) (W : World), TS[k]? = some t → Calls Tryz.prog 59 #[.agg #[.bool g.re.neg, .string g.re.n, .int .i64 g.re.e, .bool g.im.neg, .string g.im.n, .int .i64 g.im.e, .int .i64 g.exp, .int .i64 g.across, .int .i64 g.down, .int .i64 g.wide, .int .i64 g.high], .int .i64 (k : Int)] W fun e w' => e = .returned (.agg #[.int .i64 (rectX g k), .int .i64 (rectY g k), .int .i64 (rectW g k), .int .i64 (rectH g k)]) ∧ Kept W w') := fun k t W ht =>
    rect_any g k W hB (by omega) (by have := HRB.out k t ht; omega)
  have CRT : Hid (∀ (k : Nat) (t : TilH) (W : World), TS[k]? = some t → Calls Tryz.prog 64 #[.agg #[.int .i64 (rectX g k), .int .i64 (rectY g k), .int .i64 (rectW g k), .int .i64 (rectH g k), .slice t.A t.n t.c]] W fun e w' => e = .returned (.bool true) ∧ Kept W w') := fun k t W ht => by
    obtain ⟨r1, r2, r3, r4, r5, r6, r7, r8, r9⟩ := HRB.out k t ht
    have := tright_any (rectX g k) (rectY g k) (rectW g k) (rectH g k) t.A t.n t.c W (by omega) (by omega) (by omega) (by omega) (by omega) (by omega)
    rwa [show tileB (rectX g k) (rectY g k) (rectW g k) (rectH g k) t.n = true by
      have e5 := (hE k t ht).2.2.2.2
      simp [tileB, rightB, r3, r5]; omega] at this
  have HE := hide hE
  have HT := hide hT
  have HB := hide hB
  have HN := hide hN
  have HMI := hide hMI
  have hMn : M ≤ 4194304 := by omega
  have hNn : N ≤ 65536 := by omega
  have JZ := hide (joinC_zero hB (TS.map (·.T)))
  rw [← hM] at JZ
  have HM := hide hM
  obtain ⟨i1, hi, hi0, hi1, hi2⟩ := info_parts info_witJ
  obtain ⟨i2, hj, hj0, hj1, hj2⟩ := info_parts info_boolJ
  obtain ⟨MV, hMV⟩ : ∃ V, V = (List.replicate N (Value.bool false)).toArray := ⟨_, rfl⟩
  obtain ⟨ZV, hZV⟩ : ∃ V, V = (witV (List.replicate M wit0)).toArray := ⟨_, rfl⟩
  have mk1 : ∀ W, (Instr.makeSlice 94 (.int .i64 (gridA g * gridD g)) (.int .i64 (gridA g * gridD g))).run Tryz.prog W = .ok (.slice (some ⟨W.heap.size, 0, none⟩) N N) (W.alloc (.cells MV 4)) := fun W => by
    have h9 := run_make (P := Tryz.prog) W 94 4 i2 (.bool false) Tryz.underlying94 hj hj0 .i64 .i64 (N : Int) (N : Int) (by omega) (Int.le_refl _) (by rw [hj2]; omega) (by omega)
    rw [hj1, Nat.mul_one, Int.toNat_natCast, show (Value.bool false).cells = #[.bool false] from rfl, made_truths, ← hMV, hND] at h9
    exact h9
  have mk2 : ∀ W, (Instr.makeSlice 54 (.int .i64 (g.across * g.down)) (.int .i64 (g.across * g.down))).run Tryz.prog W = .ok (.slice (some ⟨W.heap.size, 0, none⟩) M M) (W.alloc (.cells ZV 69)) := fun W => by
    have h9 := run_make (P := Tryz.prog) W 54 69 i1 (.agg #[.int .u8 0, .int .i64 0, .int .i64 0]) Tryz.underlying54 hi hi0 .i64 .i64 (M : Int) (M : Int) (by omega) (Int.le_refl _) (by rw [hi2]; omega) (by omega)
    rw [hi1, Int.toNat_natCast, show (Value.agg #[.int .u8 0, .int .i64 0, .int .i64 0]).cells = #[.int .u8 0, .int .i64 0, .int .i64 0] from rfl, made_wits, ← hZV, hMI] at h9
    exact h9
  obtain ⟨X0, hX0⟩ : ∃ X, X = ((w.alloc (.cells #[.bool g.re.neg, .string g.re.n, .int .i64 g.re.e, .bool g.im.neg, .string g.im.n, .int .i64 g.im.e, .int .i64 g.exp, .int .i64 g.across, .int .i64 g.down, .int .i64 g.wide, .int .i64 g.high] 31)).alloc (.cells #[.int .i64 0, .int .i64 0, .int .i64 0, .int .i64 0, .slice none 0 0] 56)) := ⟨_, rfl⟩
  have K0 : Hid (Kept w X0) := by rw [hX0]; exact ((Below.refl _ _).alloc (Nat.le_refl _) _).alloc (by simp) _
  have z0 : X0.heap.size = w.heap.size + 2 := by rw [hX0]; simp
  have S0 : Hid (∀ W, Kept X0 W → GBox W w.heap.size g ∧ T0Box W (w.heap.size + 1)) := fun W hW => by
    have hW' : Below X0.heap.size X0 W := hW
    have g0 : GBox X0 w.heap.size g := by rw [hX0]; exact (GBox.new w g _ _ rfl).below ((Below.refl _ _).alloc (Nat.le_refl _) _) (by simp)
    have t0 : T0Box X0 (w.heap.size + 1) := by rw [hX0]; exact T0Box.new _ _ _ (by simp)
    exact ⟨g0.below hW' (by omega), t0.kept hW⟩
  have HMV := hide hMV
  have HZV := hide hZV
  have hSA : g.across * g.down ≤ 4194304 := hsz
  have nSA : ¬ 4194304 < g.across * g.down := by omega
  clear hE hT hB hN hMI hM hg hI hsz hMV hZV hi hi0 hi1 hi2 hj hj0 hj1 hj2
  go_enter Tryz.func32, Tryz.ntmps32
  obtain ⟨⟨q0, q1, q2, q3, q4, q5, q6, q7, q8, q9, q10⟩, tb⟩ := S0.out X0 (Below.refl _ _)
  clear tb
  go_wp2_with fail
  rw [← hX0]
  clear hX0 q0 q1 q2 q3 q4 q5 q6 q7 q8 q9 q10
  refine (CV.out _).mono ?_
  rintro e w1 ⟨rfl, hk1⟩
  have K1 := hide (show Kept X0 w1 from hk1)
  obtain ⟨⟨q0, q1, q2, q3, q4, q5, q6, q7, q8, q9, q10⟩, tb⟩ := S0.out w1 hk1
  have hz1 := tb.lt
  clear tb hk1
  obtain ⟨X1, hX1⟩ : ∃ X, X = w1.alloc (.cells #[.bool g.re.neg, .string g.re.n, .int .i64 g.re.e, .bool g.im.neg, .string g.im.n, .int .i64 g.im.e, .int .i64 g.exp, .int .i64 g.across, .int .i64 g.down] 29) := ⟨_, rfl⟩
  obtain ⟨X2, hX2⟩ : ∃ X, X = X1.alloc (.cells MV 4) := ⟨_, rfl⟩
  have z1 : X1.heap.size = w1.heap.size + 1 := by rw [hX1]; simp
  have z2 : X2.heap.size = w1.heap.size + 2 := by rw [hX2]; simp; omega
  have k12 : Kept X1 X2 := by rw [hX2]; exact (Below.refl _ _).alloc (Nat.le_refl _) _
  have k11 : Kept w1 X1 := by rw [hX1]; exact (Below.refl _ _).alloc (Nat.le_refl _) _
  have HB1 : Hid (WBox X1 w1.heap.size g) := by show WBox _ _ _; rw [hX1]; exact WBox.new w1 g _ _ rfl
  have MB : Hid ((∀ j, j < N → X2.cell? ⟨w1.heap.size + 1, j, none⟩ = some (.bool (decide (j < 0)))) ∧ ∀ j, X2.frozen? ⟨w1.heap.size + 1, j, none⟩ = false) := by
    rw [← z1]
    show _ ∧ _
    rw [hX2]
    refine ⟨fun j hj => ?_, fun j => fresh_frozen _ _ _ _⟩
    rw [World.cell?_alloc_mark, HMV.out]
    simp [hj]
  go_upto_region 8 with fail
  rw [← hX1, ← hX2]
  clear q0 q1 q2 q3 q4 q5 q6 q7 q8 q9 q10
  have K11 := hide k11
  have K12 := hide k12
  have HX := hide hX2
  clear hX1 hX2 k11 k12
  go_cut [11] (fun v wx => ∃ p q, v = .pointer (some ⟨q, 0, none⟩) ∧ JAt X1 wx (w1.heap.size + 1) p q N M g.across g.down 0 (List.replicate M wit0) 69)
  case first =>
    obtain ⟨-, -, -, -, -, -, -, c7, c8⟩ := HB1.out.kept K12.out (by omega)
    have HS := hide (And.intro c7 c8)
    have e9 : IntKind.i64.wrap (g.across * g.down) = g.across * g.down := IntWalk.i64_in _ (by omega)
    have e9' := e9
    refine wp_region_L (fun W => W.cell? ⟨w1.heap.size, 7, none⟩ = some (.int .i64 g.across) ∧ W.cell? ⟨w1.heap.size, 8, none⟩ = some (.int .i64 g.down)) 13 (by kernel_rfl) ?_ (fun hHeld => ?_)
    · first | assumption | exact HS.out | go_keep
    refine wpAnyL_take (i := 0) (v := ?_) (some 41) rfl rfl (by kernel_rfl) (by kernel_rfl) (by kernel_rfl) (by kernel_rfl) (fun _ _ _ h => h) (Or.inl ⟨by rfl, ?_⟩) (by assumption) ?_
    rotate_left
    · intro w hSw; (try dsimp only at hSw); go_simp; (try with_reducible rfl)
    try simp only [Act.put, List.setIfInBounds_toArray, List.set_cons_zero, List.set_cons_succ]
    refine wpAnyL_take (i := 1) (v := ?_) (some 42) rfl rfl (by kernel_rfl) (by kernel_rfl) (by kernel_rfl) (by kernel_rfl) (fun _ _ _ h => h) (Or.inl ⟨by rfl, ?_⟩) (by assumption) ?_
    rotate_left
    · intro w hSw; (try dsimp only at hSw); go_simp; (try with_reducible rfl)
    try simp only [Act.put, List.setIfInBounds_toArray, List.set_cons_zero, List.set_cons_succ]
    refine wpAnyL_take (i := 2) (v := ?_) (some 43) rfl rfl (by kernel_rfl) (by kernel_rfl) (by kernel_rfl) (by kernel_rfl) (fun _ _ _ h => h) (Or.inl ⟨by rfl, ?_⟩) (by assumption) ?_
    rotate_left
    · intro w hSw; (try dsimp only at hSw); go_simp; (try with_reducible rfl)
    try simp only [Act.put, List.setIfInBounds_toArray, List.set_cons_zero, List.set_cons_succ]
    refine wpAnyL_take (i := 3) (v := ?_) (some 44) rfl rfl (by kernel_rfl) (by kernel_rfl) (by kernel_rfl) (by kernel_rfl) (fun _ _ _ h => h) (Or.inl ⟨by rfl, ?_⟩) (by assumption) ?_
    rotate_left
    · intro w hSw; (try dsimp only at hSw); go_simp; (try with_reducible rfl)
    try simp only [Act.put, List.setIfInBounds_toArray, List.set_cons_zero, List.set_cons_succ]
    refine wpAnyL_take (i := 4) (v := ?_) (some 45) rfl rfl (by kernel_rfl) (by kernel_rfl) (by kernel_rfl) (by kernel_rfl) (fun _ _ _ h => h) (Or.inl ⟨by rfl, ?_⟩) (by assumption) ?_
    rotate_left
    · intro w hSw; (try dsimp only at hSw); go_simp; (try with_reducible rfl)
    try simp only [Act.put, List.setIfInBounds_toArray, List.set_cons_zero, List.set_cons_succ]
    refine wpAnyL_take (i := 5) (v := ?_) (some 46) rfl rfl (by kernel_rfl) (by kernel_rfl) (by kernel_rfl) (by kernel_rfl) (fun _ _ _ h => h) (Or.inl ⟨by rfl, ?_⟩) (by assumption) ?_
    rotate_left
    · intro w hSw; (try dsimp only at hSw); go_simp; (try with_reducible rfl)
    try simp only [Act.put, List.setIfInBounds_toArray, List.set_cons_zero, List.set_cons_succ]
    refine wpAnyL_take (i := 6) (v := ?_) (some 47) rfl rfl (by kernel_rfl) (by kernel_rfl) (by kernel_rfl) (by kernel_rfl) (fun _ _ _ h => h) (Or.inl ⟨by rfl, ?_⟩) (by assumption) ?_
    rotate_left
    · intro w hSw; (try dsimp only at hSw); go_simp; (try with_reducible rfl)
    try simp only [Act.put, List.setIfInBounds_toArray, List.set_cons_zero, List.set_cons_succ]
    refine wpAnyL_take (i := 7) (v := ?_) (some 48) rfl rfl (by kernel_rfl) (by kernel_rfl) (by kernel_rfl) (by kernel_rfl) (fun _ _ _ h => h) (Or.inl ⟨by rfl, ?_⟩) (by assumption) ?_
    rotate_left
    · intro w hSw; (try dsimp only at hSw); go_simp; (try with_reducible rfl)
    try simp only [Act.put, List.setIfInBounds_toArray, List.set_cons_zero, List.set_cons_succ]
    refine wpAnyL_take (i := 8) (v := ?_) (some 49) rfl rfl (by kernel_rfl) (by kernel_rfl) (by kernel_rfl) (by kernel_rfl) (fun _ _ _ h => h) (Or.inl ⟨by rfl, ?_⟩) (by assumption) ?_
    rotate_left
    · intro w hSw; (try dsimp only at hSw); go_simp; (try with_reducible rfl)
    try simp only [Act.put, List.setIfInBounds_toArray, List.set_cons_zero, List.set_cons_succ]
    refine wpAnyL_take (i := 9) (v := ?_) (some 50) rfl rfl (by kernel_rfl) (by kernel_rfl) (by kernel_rfl) (by kernel_rfl) (fun _ _ _ h => h) (Or.inl ⟨by rfl, ?_⟩) (by assumption) ?_
    rotate_left
    · intro w hSw; (try dsimp only at hSw); go_simp; (try with_reducible rfl)
    try simp only [Act.put, List.setIfInBounds_toArray, List.set_cons_zero, List.set_cons_succ]
    refine wpAnyL_two (i := 10) (j := 12) (by kernel_rfl) rfl rfl (fun K hK => ?_) (fun K hK => ?_)
    · skip
      go_simp
      refine hK.out _ _ ?_ (fun hHeld => ?_)
      · first | assumption | exact HS.out | go_keep
      clear hK K
      try simp only [Act.put, List.setIfInBounds_toArray, List.set_cons_zero, List.set_cons_succ]
      refine wpAnyL_take (i := 11) (v := ?_) (some 52) rfl rfl (by kernel_rfl) (by kernel_rfl) (by kernel_rfl) (by kernel_rfl) (fun _ _ _ h => h) (Or.inl ⟨by rfl, ?_⟩) (by assumption) ?_
      rotate_left
      · intro w hSw; (try dsimp only at hSw); go_simp; (try with_reducible rfl)
      try simp only [Act.put, List.setIfInBounds_toArray, List.set_cons_zero, List.set_cons_succ]
      refine wpAnyL_one (i := 12) (by kernel_rfl) rfl (fun K hK => ?_)
      go_simp
      refine hK.out _ _ ?_ (fun hHeld => ?_)
      · first | assumption | exact HS.out | go_keep
      clear hK K
      try simp only [Act.put, List.setIfInBounds_toArray, List.set_cons_zero, List.set_cons_succ]
      refine wpAnyL_end (by kernel_rfl) rfl (fun K hK => ?_)
      go_simp
      refine hK.out _ _ ?_
      clear hK K
      try simp only [Act.put, List.setIfInBounds_toArray, List.set_cons_zero, List.set_cons_succ]
      refine wpAnyL_done (by kernel_rfl) ?_ _
      go_wp2_with fail
      go_meet
      rw [HZV.out]
      exact ⟨_, _, rfl, JAt.new1 (by have := K12.out; unfold Kept at this; rwa [z1] at this) MB.out.1 MB.out.2 (by omega) z2.symm rfl⟩
    · skip
      go_simp
      refine hK.out _ _ ?_ (fun hHeld => ?_)
      · first | assumption | exact HS.out | go_keep
      clear hK K
      try simp only [Act.put, List.setIfInBounds_toArray, List.set_cons_zero, List.set_cons_succ]
      refine wpAnyL_one (i := 10) (by kernel_rfl) rfl (fun K hK => ?_)
      go_simp
      refine hK.out _ _ ?_ (fun hHeld => ?_)
      · first | assumption | exact HS.out | go_keep
      clear hK K
      try simp only [Act.put, List.setIfInBounds_toArray, List.set_cons_zero, List.set_cons_succ]
      refine wpAnyL_take (i := 11) (v := ?_) (some 52) rfl rfl (by kernel_rfl) (by kernel_rfl) (by kernel_rfl) (by kernel_rfl) (fun _ _ _ h => h) (Or.inl ⟨by rfl, ?_⟩) (by assumption) ?_
      rotate_left
      · intro w hSw; (try dsimp only at hSw); go_simp; (try with_reducible rfl)
      try simp only [Act.put, List.setIfInBounds_toArray, List.set_cons_zero, List.set_cons_succ]
      refine wpAnyL_end (by kernel_rfl) rfl (fun K hK => ?_)
      go_simp
      refine hK.out _ _ ?_
      clear hK K
      try simp only [Act.put, List.setIfInBounds_toArray, List.set_cons_zero, List.set_cons_succ]
      refine wpAnyL_done (by kernel_rfl) ?_ _
      go_wp2_with fail
      go_meet
      rw [HZV.out]
      exact ⟨_, _, rfl, JAt.new2 (by have := K12.out; unfold Kept at this; rwa [z1] at this) MB.out.1 MB.out.2 (by omega) z2.symm rfl⟩
  case rest =>
  obtain ⟨p, q, rfl, hJ0⟩ := hcut
  rw [← JZ.out] at hJ0
  clear mk1 mk2 HX MB z2 K12 HMV HZV JZ nSA hSA m0 ga0 ga1 gd0 gd1 a0 d0 h0 w0 h1 w1'
  obtain ⟨mb, hmb⟩ : ∃ mb, mb = w1.heap.size + 1 := ⟨_, rfl⟩
  rw [← hmb] at hJ0
  have HX1 : Hid (∀ W, Below mb X1 W → Kept w1 W ∧ Kept X0 W ∧ Kept w W ∧ WBox W w1.heap.size g) := fun W hW => by
    have k1 : Kept w1 W := K11.out.trans (hW.mono (by omega))
    have k0 : Kept X0 W := K1.out.trans' k1
    exact ⟨k1, k0, K0.out.trans' k0, HB1.out.kept hW (by omega)⟩
  have HJ0 := hide hJ0
  obtain ⟨-, -, -, -, -, -, -, c7, c8⟩ := (HX1.out wc hJ0.below).2.2.2
  clear hJ0
  rw [← hmb]
  have HMB := hide hmb
  clear hmb
  go_wp2_with fail
  go_loopg [55] N (fun gh ix wy => ∃ k : Nat, k + gh = N ∧ ix = .int .i64 k ∧ JAt X1 wy mb p q N M g.across g.down k (joinC g (TS.map (·.T)) k 0) 69)
  case atStart => exact ⟨0, by omega, rfl, HJ0.out⟩
  case round =>
    clear HJ0 c7 c8
    obtain ⟨k, hkg, rfl, hJ⟩ := hrel
    obtain ⟨kw1, kx0, kw, bw⟩ := HX1.out wr hJ.below
    cases gk with
    | zero =>
      have hge : ¬ (k : Int) < N := by omega
      obtain rfl : k = N := by omega
      have CM := hide (contains_met mb k wr (by omega) (fun j hj => by rw [hJ.met j hj]; simp [hj]))
      have tb := (S0.out wr kx0).2
      obtain ⟨t0, t1, t2, t3, t4, f0, f1, f2, f3, f4⟩ := id tb
      have hq0 := hJ.q0
      have hq1 := hJ.q1
      have hq2 := hJ.q2
      have hq3 := hJ.q3
      have hq4 := hJ.q4
      have hzt := tb.lt
      have HJ := hide hJ
      have HKW := hide kw
      clear hJ kw1 kx0 kw bw tb
      go_wp2_with fail
      refine CM.out.mono ?_
      rintro e w9 ⟨rfl, rfl⟩
      go_wp2_with fail
      have hpq := HJ.out.mp
      have h5 : Kept w ((((((w9.setCell ⟨w.heap.size + 1, 0, none⟩ (.int .i64 0)).setCell ⟨w.heap.size + 1, 1, none⟩ (.int .i64 0)).setCell ⟨w.heap.size + 1, 2, none⟩ (.int .i64 g.across)).setCell ⟨w.heap.size + 1, 3, none⟩ (.int .i64 g.down)).setCell ⟨w.heap.size + 1, 4, none⟩ (.slice (some ⟨p, 0, none⟩) M M))) :=
        ((((HKW.out.setCell (p := ⟨w.heap.size + 1, 0, none⟩) (by simp) _).setCell (p := ⟨w.heap.size + 1, 1, none⟩) (by simp) _).setCell (p := ⟨w.heap.size + 1, 2, none⟩) (by simp) _).setCell (p := ⟨w.heap.size + 1, 3, none⟩) (by simp) _).setCell (p := ⟨w.heap.size + 1, 4, none⟩) (by simp) _
      have hOW : Own w9 w.heap.size 3 (.slice (some ⟨p, 0, none⟩) M M) M (witV (joinC g (TS.map (·.T)) k 0)) := HJ.out.own (by rw [joinC_length, HM.out]) (by unfold maxLen; omega) (by have := HMB.out; omega)
      have hne : ∀ j, (Value.slice (some ⟨p, 0, none⟩) M M).ownBlock = some j → j ≠ w.heap.size + 1 := fun j hj => by
        have : p = j := by simpa [Value.ownBlock] using hj
        have := HMB.out
        omega
      exact bodyPost_ret (v := .tuple #[.agg #[.int .i64 0, .int .i64 0, .int .i64 g.across, .int .i64 g.down, .slice (some ⟨p, 0, none⟩) M M], .int .i64 0]) (by simp [results, Tryz.results32, go_sem, t0, t1, t2, t3, t4]) rfl
        ⟨_, rfl, by rw [← HM.out]; exact ((((hOW.far (p := ⟨w.heap.size + 1, 0, none⟩) hne _).far (p := ⟨w.heap.size + 1, 1, none⟩) hne _).far (p := ⟨w.heap.size + 1, 2, none⟩) hne _).far (p := ⟨w.heap.size + 1, 3, none⟩) hne _).far (p := ⟨w.heap.size + 1, 4, none⟩) hne _, h5⟩
    | succ g2 =>
      obtain ⟨wo, rfl⟩ : ∃ wo : World, wo = wr := ⟨_, rfl⟩
      obtain ⟨t, ht⟩ : ∃ t, TS[k]? = some t := ⟨_, List.getElem?_eq_getElem (by have := HN.out; omega)⟩
      obtain ⟨tb, toff, hAe, x0, x1, x2, x3, x4⟩ := Tils.at_ (HT.out.kept kw) ht
      obtain ⟨e0, e1, e2, e3, e4⟩ := HE.out k t ht
      have ta := (HT.out.kept kw).each t (List.mem_of_getElem? ht)
      obtain ⟨r1, r2, r3, r4, r5, r6, r7, r8, r9⟩ := HRB.out k t ht
      rw [e0] at x0
      rw [e1] at x1
      rw [e2] at x2
      rw [e3] at x3
      have CA9 := hide (fun W => CA.out k t W ht)
      have CRC9 := hide (fun W => CRC.out k t W ht)
      have CRT9 := hide (fun W => CRT.out k t W ht)
      have HRW := hide (HT.out.each t (List.mem_of_getElem? ht)).row
      have HCap := hide ta.cap
      have HLen := hide ta.len
      have HSP := hide (fun (j f : Nat) (j1 : (j : Int) < rectH g k) (hf : (f : Int) = (rectY g k + j) * g.across + rectX g k) => joinC_splice HB.out (TS.map (·.T)) (n := (k : Int)) (k := (j : Int)) (by omega) (by omega) (by omega) j1 (T := t.T) (by rw [Int.toNat_natCast, List.getElem?_map, ht]; rfl) (by rw [ta.len]; exact e4) (by omega) hf)
      have HDN := hide (joinC_done HB.out (TS.map (·.T)) (k : Int))
      have hlt : (k : Int) < N := by omega
      have hbl := lt_of_cell x0
      have h4 : (t.n : Int) = rectW g k * rectH g k := e4
      have HPW := hide (show p < wo.heap.size ∧ mb < p from ⟨hJ.pl, hJ.mp⟩)
      subst hAe
      clear ta e0 e1 e2 e3 e4 r7 ht
      generalize rectX g k = X at *
      generalize rectY g k = Y at *
      generalize rectW g k = U at *
      generalize rectH g k = V at *
      have H4 := hide h4
      clear h4
      have HKW := hide kw
      have HJ := hide hJ
      have HK := hide (And.intro kw1 (And.intro kx0 (And.intro kw bw)))
      clear hJ kw1 kx0 kw bw
      obtain ⟨W3, hW3⟩ : ∃ W3, W3 = wo.alloc (.cells #[.int .i64 X, .int .i64 Y, .int .i64 U, .int .i64 V, .slice t.A t.n t.c] 56) := ⟨_, rfl⟩
      have k3 : Kept wo W3 := by rw [hW3]; exact (Below.refl _ _).alloc (Nat.le_refl _) _
      have HT3 : Hid (LBox W3 wo.heap.size X Y U V t.A t.n t.c) := by show LBox _ _ _ _ _ _ _ _ _; rw [hW3]; exact LBox.new _ _ _ _ _ _ _ _ _ _ rfl
      have z3 : W3.heap.size = wo.heap.size + 1 := by rw [hW3]; simp
      have HJ3 := hide (HJ.out.kept k3)
      go_upto_region 12 with fail
      rw [← hW3]
      clear hW3 k3 x0 x1 x2 x3 x4
      clear HJ HK
      obtain ⟨l0, l1, l2, l3, l4⟩ := HT3.out
      have hl3 := HT3.out.lt
      go_wp2_with fail
      refine (CRT9.out _).mono ?_
      rintro e w4 ⟨rfl, hk4⟩
      have HT4 := hide (HT3.out.kept hk4)
      have HJ4 := hide (HJ3.out.kept hk4)
      clear l0 l1 l2 l3 l4 hk4 hl3
      obtain ⟨l0, l1, l2, l3, l4⟩ := HT4.out
      have hl4 := HT4.out.lt
      obtain ⟨⟨q0, q1, q2, q3, q4, q5, q6, q7, q8, q9, q10⟩, -⟩ := S0.out w4 (HX1.out w4 HJ4.out.below).2.1
      go_wp2_with fail
      refine (CA9.out _).mono ?_
      rintro e w5 ⟨rfl, hk5⟩
      have HT5 := hide (HT4.out.kept hk5)
      have HJ5 := hide (HJ4.out.kept hk5)
      clear l0 l1 l2 l3 l4 hl4 hk5 q0 q1 q2 q3 q4 q5 q6 q7 q8 q9 q10
      go_upto_region 15 with fail
      go_cut [89] (fun v wz => v = .bool false ∧ Kept w5 wz)
      case first =>
        have HS : Hid (∀ W, Kept w5 W → (W.cell? ⟨w.heap.size, 0, none⟩ = some (.bool g.re.neg) ∧ W.cell? ⟨w.heap.size, 1, none⟩ = some (.string g.re.n) ∧ W.cell? ⟨w.heap.size, 2, none⟩ = some (.int .i64 g.re.e) ∧ W.cell? ⟨w.heap.size, 3, none⟩ = some (.bool g.im.neg) ∧ W.cell? ⟨w.heap.size, 4, none⟩ = some (.string g.im.n) ∧ W.cell? ⟨w.heap.size, 5, none⟩ = some (.int .i64 g.im.e) ∧ W.cell? ⟨w.heap.size, 6, none⟩ = some (.int .i64 g.exp) ∧ W.cell? ⟨w.heap.size, 7, none⟩ = some (.int .i64 g.across) ∧ W.cell? ⟨w.heap.size, 8, none⟩ = some (.int .i64 g.down) ∧ W.cell? ⟨w.heap.size, 9, none⟩ = some (.int .i64 g.wide) ∧ W.cell? ⟨w.heap.size, 10, none⟩ = some (.int .i64 g.high)) ∧ W.cell? ⟨wo.heap.size, 0, none⟩ = some (.int .i64 X) ∧ W.cell? ⟨wo.heap.size, 1, none⟩ = some (.int .i64 Y) ∧ W.cell? ⟨wo.heap.size, 2, none⟩ = some (.int .i64 U) ∧ W.cell? ⟨wo.heap.size, 3, none⟩ = some (.int .i64 V) ∧ W.cell? ⟨mb, k, none⟩ = some (.bool false)) := fun W hW => by
          have hT := HT5.out.kept hW
          have hJ := HJ5.out.kept hW
          have hG := (S0.out W (HX1.out W hJ.below).2.1).1
          exact ⟨hG, hT.t0, hT.t1, hT.t2, hT.t3, by rw [hJ.met k r9]; simp⟩
        have HD : Hid (Kept w5 w5.drew) := (Below.refl _ _).drew
        have HS0 := hide (HS.out _ HD.out)
        have hrq : ∀ W, (Op.equalIn 10000 38 (.agg #[.int .i64 X, .int .i64 Y, .int .i64 U, .int .i64 V]) (.agg #[.int .i64 X, .int .i64 Y, .int .i64 U, .int .i64 V])).run Tryz.prog W = .ok true W := rect_same X Y U V
        refine wp_region_L (fun W => (W.cell? ⟨w.heap.size, 0, none⟩ = some (.bool g.re.neg) ∧ W.cell? ⟨w.heap.size, 1, none⟩ = some (.string g.re.n) ∧ W.cell? ⟨w.heap.size, 2, none⟩ = some (.int .i64 g.re.e) ∧ W.cell? ⟨w.heap.size, 3, none⟩ = some (.bool g.im.neg) ∧ W.cell? ⟨w.heap.size, 4, none⟩ = some (.string g.im.n) ∧ W.cell? ⟨w.heap.size, 5, none⟩ = some (.int .i64 g.im.e) ∧ W.cell? ⟨w.heap.size, 6, none⟩ = some (.int .i64 g.exp) ∧ W.cell? ⟨w.heap.size, 7, none⟩ = some (.int .i64 g.across) ∧ W.cell? ⟨w.heap.size, 8, none⟩ = some (.int .i64 g.down) ∧ W.cell? ⟨w.heap.size, 9, none⟩ = some (.int .i64 g.wide) ∧ W.cell? ⟨w.heap.size, 10, none⟩ = some (.int .i64 g.high)) ∧ W.cell? ⟨wo.heap.size, 0, none⟩ = some (.int .i64 X) ∧ W.cell? ⟨wo.heap.size, 1, none⟩ = some (.int .i64 Y) ∧ W.cell? ⟨wo.heap.size, 2, none⟩ = some (.int .i64 U) ∧ W.cell? ⟨wo.heap.size, 3, none⟩ = some (.int .i64 V) ∧ W.cell? ⟨mb, k, none⟩ = some (.bool false)) 999 (by kernel_rfl) ?_ (fun hHeld => ?_)
        · first | exact HS0.out | assumption
        refine wpAnyL_take (i := 0) (v := ?_) (some 74) rfl rfl (by kernel_rfl) (by kernel_rfl) (by kernel_rfl) (by kernel_rfl) (fun _ _ _ h => h) (Or.inl ⟨by rfl, ?_⟩) (by assumption) ?_
        rotate_left
        · intro w hSw; (try dsimp only at hSw); go_simp; (try with_reducible rfl)
        try simp only [Act.put, List.setIfInBounds_toArray, List.set_cons_zero, List.set_cons_succ]
        refine wpAnyL_take (i := 1) (v := Value.bool false) (some 75) rfl rfl (by kernel_rfl) (by kernel_rfl) (by kernel_rfl) (by kernel_rfl) (fun _ _ _ h => h) (Or.inl ⟨by rfl, ?_⟩) (by assumption) ?_
        · intro w hSw; (try dsimp only at hSw); go_simp
        try simp only [Act.put, List.setIfInBounds_toArray, List.set_cons_zero, List.set_cons_succ]
        refine wpAnyL_take (i := 2) (v := Value.bool false) (some 76) rfl rfl (by kernel_rfl) (by kernel_rfl) (by kernel_rfl) (by kernel_rfl) (fun _ _ _ h => h) (Or.inl ⟨by rfl, ?_⟩) (by assumption) ?_
        · intro w hSw; (try dsimp only at hSw); go_simp
        try simp only [Act.put, List.setIfInBounds_toArray, List.set_cons_zero, List.set_cons_succ]
        refine wpAnyL_take (i := 3) (v := ?_) (some 77) rfl rfl (by kernel_rfl) (by kernel_rfl) (by kernel_rfl) (by kernel_rfl) (fun _ _ _ h => h) (Or.inl ⟨by rfl, ?_⟩) (by assumption) ?_
        rotate_left
        · intro w hSw; (try dsimp only at hSw); go_simp; (try with_reducible rfl)
        try simp only [Act.put, List.setIfInBounds_toArray, List.set_cons_zero, List.set_cons_succ]
        refine wpAnyL_take (i := 4) (v := ?_) (some 78) rfl rfl (by kernel_rfl) (by kernel_rfl) (by kernel_rfl) (by kernel_rfl) (fun _ _ _ h => h) (Or.inl ⟨by rfl, ?_⟩) (by assumption) ?_
        rotate_left
        · intro w hSw; (try dsimp only at hSw); go_simp; (try with_reducible rfl)
        try simp only [Act.put, List.setIfInBounds_toArray, List.set_cons_zero, List.set_cons_succ]
        refine wpAnyL_take (i := 6) (v := ?_) (some 80) rfl rfl (by kernel_rfl) (by kernel_rfl) (by kernel_rfl) (by kernel_rfl) (fun _ _ _ h => h) (Or.inl ⟨by rfl, ?_⟩) (by assumption) ?_
        rotate_left
        · intro w hSw; (try dsimp only at hSw); go_simp; (try with_reducible rfl)
        try simp only [Act.put, List.setIfInBounds_toArray, List.set_cons_zero, List.set_cons_succ]
        refine wpAnyL_take (i := 7) (v := ?_) (some 81) rfl rfl (by kernel_rfl) (by kernel_rfl) (by kernel_rfl) (by kernel_rfl) (fun _ _ _ h => h) (Or.inl ⟨by rfl, ?_⟩) (by assumption) ?_
        rotate_left
        · intro w hSw; (try dsimp only at hSw); go_simp; (try with_reducible rfl)
        try simp only [Act.put, List.setIfInBounds_toArray, List.set_cons_zero, List.set_cons_succ]
        refine wpAnyL_one (i := 5) (by kernel_rfl) rfl (fun K hK => ?_)
        go_simp
        (refine (CRC9.out _).mono ?_; rintro e w6 ⟨rfl, hk6⟩; have K6 := hide (HD.out.trans' hk6); have hS6 := HS.out w6 K6.out; clear hk6)
        refine hK.out _ _ ?_ (fun hHeld => ?_)
        · first | exact HS0.out | assumption
        clear hK K
        try simp only [Act.put, List.setIfInBounds_toArray, List.set_cons_zero, List.set_cons_succ]
        refine wpAnyL_take (i := 8) (v := Value.bool false) (some 82) rfl rfl (by kernel_rfl) (by kernel_rfl) (by kernel_rfl) (by kernel_rfl) (fun _ _ _ h => h) (Or.inl ⟨by rfl, ?_⟩) (by assumption) ?_
        · intro w hSw; (try dsimp only at hSw); go_simp
        try simp only [Act.put, List.setIfInBounds_toArray, List.set_cons_zero, List.set_cons_succ]
        refine wpAnyL_take (i := 9) (v := Value.bool false) (some 83) rfl rfl (by kernel_rfl) (by kernel_rfl) (by kernel_rfl) (by kernel_rfl) (fun _ _ _ h => h) (Or.inl ⟨by rfl, ?_⟩) (by assumption) ?_
        · intro w hSw; (try dsimp only at hSw); go_simp
        try simp only [Act.put, List.setIfInBounds_toArray, List.set_cons_zero, List.set_cons_succ]
        refine wpAnyL_take (i := 10) (v := Value.bool false) (some 84) rfl rfl (by kernel_rfl) (by kernel_rfl) (by kernel_rfl) (by kernel_rfl) (fun _ _ _ h => h) (Or.inl ⟨by rfl, ?_⟩) (by assumption) ?_
        · intro w hSw; (try dsimp only at hSw); go_simp
        try simp only [Act.put, List.setIfInBounds_toArray, List.set_cons_zero, List.set_cons_succ]
        refine wpAnyL_take (i := 11) (v := ?_) (some 85) rfl rfl (by kernel_rfl) (by kernel_rfl) (by kernel_rfl) (by kernel_rfl) (fun _ _ _ h => h) (Or.inl ⟨by rfl, ?_⟩) (by assumption) ?_
        rotate_left
        · intro w hSw; (try dsimp only at hSw); go_simp; (try with_reducible rfl)
        try simp only [Act.put, List.setIfInBounds_toArray, List.set_cons_zero, List.set_cons_succ]
        refine wpAnyL_take (i := 12) (v := ?_) (some 86) rfl rfl (by kernel_rfl) (by kernel_rfl) (by kernel_rfl) (by kernel_rfl) (fun _ _ _ h => h) (Or.inl ⟨by rfl, ?_⟩) (by assumption) ?_
        rotate_left
        · intro w hSw; (try dsimp only at hSw); go_simp; (try with_reducible rfl)
        try simp only [Act.put, List.setIfInBounds_toArray, List.set_cons_zero, List.set_cons_succ]
        refine wpAnyL_take (i := 13) (v := ?_) (some 87) rfl rfl (by kernel_rfl) (by kernel_rfl) (by kernel_rfl) (by kernel_rfl) (fun _ _ _ h => h) (Or.inl ⟨by rfl, ?_⟩) (by assumption) ?_
        rotate_left
        · intro w hSw; (try dsimp only at hSw); go_simp; (try with_reducible rfl)
        try simp only [Act.put, List.setIfInBounds_toArray, List.set_cons_zero, List.set_cons_succ]
        refine wpAnyL_take (i := 14) (v := Value.bool false) (some 88) rfl rfl (by kernel_rfl) (by kernel_rfl) (by kernel_rfl) (by kernel_rfl) (fun _ _ _ h => h) (Or.inl ⟨by rfl, ?_⟩) (by assumption) ?_
        · intro w hSw; (try dsimp only at hSw); go_simp
        try simp only [Act.put, List.setIfInBounds_toArray, List.set_cons_zero, List.set_cons_succ]
        refine wpAnyL_take (i := 15) (v := Value.bool false) (some 89) rfl rfl (by kernel_rfl) (by kernel_rfl) (by kernel_rfl) (by kernel_rfl) (fun _ _ _ h => h) (Or.inl ⟨by rfl, ?_⟩) (by assumption) ?_
        · intro w hSw; (try dsimp only at hSw); go_simp
        try simp only [Act.put, List.setIfInBounds_toArray, List.set_cons_zero, List.set_cons_succ]
        refine wpAnyL_done (by kernel_rfl) ?_ _
        clear hS6
        go_wp2_with fail
        go_meet
        exact ⟨rfl, K6.out⟩
      case rest =>
      obtain ⟨rfl, hkc⟩ := hcut
      have HTc := hide (HT5.out.kept hkc)
      have HJc := hide (HJ5.out.kept hkc)
      have mt := HJc.out.met k r9
      rw [show decide (k < k) = false by simp] at mt
      have mf := HJc.out.free k
      clear hkc
      have hmw : mb < wo.heap.size := by have h9 := HPW.out; omega
      obtain ⟨W6, hW6⟩ : ∃ W6, W6 = wc.setCell ⟨mb, k, none⟩ (.bool true) := ⟨_, rfl⟩
      have HJ6 : Hid (JAt X1 W6 mb p q N M g.across g.down (k + 1) (joinC g (TS.map (·.T)) k 0) 69) := by show JAt _ _ _ _ _ _ _ _ _ _ _ _; rw [hW6]; exact HJc.out.meet r9
      have HT6 : Hid (LBox W6 wo.heap.size X Y U V t.A t.n t.c) := by
        show LBox _ _ _ _ _ _ _ _ _
        rw [hW6]
        exact HTc.out.far fun o => World.cell?_setCell_other _ _ _ _ (fun e => by cases e; omega)
      go_upto_region 18 with fail
      rw [← hW6]
      clear hW6 mt mf HT3 HT4 HT5 HTc HJ3 HJ4 HJ5 HJc
      obtain ⟨l0, l1, l2, l3, l4⟩ := HT6.out
      have hl6 := HT6.out.lt
      go_wp2_with fail
      clear l0 l1 l2 l3 l4 hl6
      go_loopg [97] V.toNat (fun gh ix wy => ∃ j : Nat, j + gh = V.toNat ∧ ix = .int .i64 j ∧ JAt X1 wy mb p q N M g.across g.down (k + 1) (joinC g (TS.map (·.T)) k j) 69 ∧ LBox wy wo.heap.size X Y U V t.A t.n t.c)
      case atStart => exact ⟨0, by omega, rfl, HJ6.out, HT6.out⟩
      case round =>
        clear HJ6 HT6
        obtain ⟨j, hjg, rfl, hJ, hT⟩ := hrel
        cases gk with
        | zero =>
          have hge : ¬ (j : Int) < V := by omega
          have hjV : (j : Int) = V := by omega
          have HJ9 : Hid (JAt X1 wr mb p q N M g.across g.down (k + 1) (joinC g (TS.map (·.T)) ((k + 1 : Nat) : Int) 0) 69) := by
            show JAt _ _ _ _ _ _ _ _ _ _ _ _
            rw [Int.natCast_add]
            rw [hjV] at hJ
            have h9 := HDN.out
            rw [h9] at hJ
            exact hJ
          clear hJ hT hjV
          go_wp2_with fail
          go_roundg g2
          case measure => omega
          case rel => exact ⟨k + 1, by omega, by go_num, HJ9.out⟩
        | succ g3 =>
          have hjV : (j : Int) < V := by omega
          have s1 : 0 ≤ (Y + j) * g.across := Int.mul_nonneg (by omega) (by omega)
          have s2 : (Y + j) * g.across + g.across ≤ M := by
            have h9 : (Y + j + 1) * g.across ≤ g.down * g.across := Int.mul_le_mul_of_nonneg_right (by omega) (by omega)
            rw [Int.add_mul (Y + j), Int.one_mul, Int.mul_comm g.down] at h9
            have := HMI.out
            omega
          have s3 : 0 ≤ (j : Int) * U := Int.mul_nonneg (by omega) (by omega)
          have s4 : (j : Int) * U + U ≤ t.n := by
            have h9 : ((j : Int) + 1) * U ≤ V * U := Int.mul_le_mul_of_nonneg_right (by omega) (by omega)
            rw [Int.add_mul, Int.one_mul, Int.mul_comm V, ← H4.out] at h9
            exact h9
          obtain ⟨f, hf⟩ : ∃ f : Nat, (f : Int) = (Y + j) * g.across + X := ⟨((Y + j) * g.across + X).toNat, Int.toNat_of_nonneg (by omega)⟩
          have hfM : (f : Int) + U ≤ M := by omega
          have HS := hide (HSP.out j f hjV hf)
          have HKT : Hid (Kept w wr) := (HX1.out wr hJ.below).2.2.1
          obtain ⟨l0, l1, l2, l3, l4⟩ := id hT
          have hlt9 := hT.lt
          have hb9 := (HX1.out wr hJ.below).2.2.2
          obtain ⟨-, -, -, -, -, -, -, c7, c8⟩ := hb9
          have o4 := hJ.q4
          have HJ9 := hide hJ
          have HT9 := hide hT
          have HF := hide hf
          clear hJ hT hf
          go_upto_region 22 with fail
          rw [← HF.out]
          clear s1 s2 c7 c8 l0 l1 l3
          have s5 : (t.n : Int) ≤ 4194304 := by have := H4.out; omega
          have u1 : IntKind.i64.wrap ((f : Int) + U) = f + U := IntWalk.i64_in _ (by omega)
          have u2 : IntKind.i64.wrap ((j : Int) * U) = j * U := IntWalk.i64_in _ (by omega)
          have v1 : (f : Int) ≤ f + U := by omega
          have v2 : ¬ M = f := by omega
          have v3 : ¬ t.c = ((j : Int) * U).toNat := by have := HCap.out; omega
          have v4 : (j : Int) * U ≤ (t.n : Int) := by omega
          have v5 : (t.n : Int) ≤ (t.c : Int) := by have := HCap.out; omega
          have v6 : 0 ≤ (f : Int) + U := by omega
          go_still_tail 17, (by kernel_rfl)
          change wpList _ _ _ _ _ wr.drew
          obtain ⟨D, hD⟩ : ∃ D, D = (t.T.c.drop ((j : Int) * U).toNat).take U.toNat := ⟨_, rfl⟩
          have hDl : D.length = U.toNat := by rw [hD, List.length_take, List.length_drop, HLen.out]; omega
          have hcl : (joinC g (TS.map (·.T)) k j).length = M := by rw [joinC_length, HM.out]
          obtain ⟨tb2, to2, hAe, hrow⟩ : ∃ b o, t.A = some ⟨b, o, none⟩ ∧ ∀ i u, (witV t.T.c)[i]? = some u → wr.cell? ⟨b, o + i, none⟩ = some u := by
            rcases HRW.out.kept HKT.out with h | h
            · exfalso
              have h9 : (witV t.T.c).length = 0 := by rw [h]; rfl
              rw [witV_length, HLen.out] at h9
              omega
            · exact h
          refine wpList_copy_wit _ rfl (.tmp 120) (.tmp 128) 54 54 69 rfl Tryz.underlying54 info_witS p f ?dl ?dc ((⟨tb2, to2, none⟩ : Addr).add (((j : Int) * U).toNat * 3)) (t.n - ((j : Int) * U).toNat) (t.c - ((j : Int) * U).toNat) (joinC g (TS.map TilH.T) k j) D 69 (show wr.drew.heap[p]? = _ from HJ9.out.row) ?h1 ?h2 ?h3 ?h4 (by rw [hDl]; show f + U.toNat ≤ (joinC g (TS.map (·.T)) k j).length; rw [hcl]; omega) ?h5
          case h1 => conv => lhs; whnf
          case h2 =>
            conv => lhs; whnf
            rw [hAe]
            rfl
          case h3 =>
            rw [hDl]
            show U.toNat = min _ _
            omega
          case h4 =>
            intro i v hv
            rw [hD, ← witV_take, ← witV_drop, List.getElem?_take] at hv
            split at hv
            · rw [List.getElem?_drop] at hv
              have h9 := hrow _ _ hv
              rw [add_zero_addr, add_zero_addr, Nat.add_assoc]
              exact h9
            · cases hv
          case h5 =>
            obtain ⟨W7, hW7⟩ : ∃ W7, W7 = wr.drew.setRow p (witV ((joinC g (TS.map TilH.T) k j).take f ++ (D ++ (joinC g (TS.map TilH.T) k j).drop (f + D.length)))).toArray := ⟨_, rfl⟩
            have HJ7 : Hid (JAt X1 W7 mb p q N M g.across g.down (k + 1) (joinC g (TS.map (·.T)) k ((j + 1 : Nat) : Int)) 69) := by
              show JAt _ _ _ _ _ _ _ _ _ _ _ _
              rw [Int.natCast_add]
              have h9 := HS.out
              rw [← hD, ← hDl] at h9
              rw [show ((1 : Nat) : Int) = 1 from rfl, h9, hW7]
              exact (HJ9.out.kept ((Below.refl _ wr).drew)).lay
            have HT7 : Hid (LBox W7 wo.heap.size X Y U V t.A t.n t.c) := by
              show LBox _ _ _ _ _ _ _ _ _
              rw [hW7]
              exact HT9.out.far fun o => World.cell?_of_block (a := ⟨wo.heap.size, o, none⟩) (heap_setRow_other wr.drew p wo.heap.size _ (by have := HPW.out; omega))
            rw [← hW7]
            clear hW7 hD hDl hcl hAe hrow HS HJ9 HT9 HF l2 l4 hlt9 o4 u1 u2 v1 v2 v3 v4 v5 v6 s5
            go_wp2_with fail
            go_roundg g3
            case measure => omega
            case rel => exact ⟨j + 1, by omega, by go_num, HJ7.out, HT7.out⟩
end Go.Proofs.YtneakieigiafpaaGreatDoor

