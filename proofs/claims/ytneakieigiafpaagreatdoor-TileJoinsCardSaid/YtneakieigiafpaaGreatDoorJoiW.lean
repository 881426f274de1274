/- tile.Join, of any tiles, walked (written by gen/joiw.py). -/
import Derived.Test.YtneakieigiafpaaGreatDoorJoiPM
import Derived.Test.YtneakieigiafpaaGreatDoorJoinW
import Derived.Test.YtneakieigiafpaaGreatDoorGriX4
namespace Go.Proofs.YtneakieigiafpaaGreatDoor
open Go.RowKit

/-- What comes of putting tiles together. -/
def joinE (g : GrD) (L : List TilD) : Int := if gridI g = 0 then (if 4194304 < g.across * g.down then 4 else if joinOK g L then 0 else 250) else gridI g
def JoinPost (w : World) (g : GrD) (E : Int) (L : List TilD) (e : Ending) (w' : World) : Prop :=
  (if E = 0 then ∃ v, e = .returned (.tuple #[.agg #[.int .i64 0, .int .i64 0, .int .i64 g.across, .int .i64 g.down, v], .int .i64 0]) ∧ Own w' w.heap.size 3 v (g.across * g.down).toNat (witV (baseC g L))
   else e = .returned (.tuple #[.agg #[.int .i64 0, .int .i64 0, .int .i64 0, .int .i64 0, .slice none 0 0], .int .i64 E])) ∧ Kept w w'
theorem join_err {w W : World} {g : GrD} {E : Int} {L : List TilD} (hE : E ≠ 0) (h : T0Box W (w.heap.size + 1)) (hk : Kept w W) :
    JoinPost w g E L (.returned (.tuple #[.agg #[.int .i64 0, .int .i64 0, .int .i64 0, .int .i64 0, .slice none 0 0], .int .i64 E])) (((((W.setCell ⟨w.heap.size + 1, 0, none⟩ (.int .i64 0)).setCell ⟨w.heap.size + 1, 1, none⟩ (.int .i64 0)).setCell ⟨w.heap.size + 1, 2, none⟩ (.int .i64 0)).setCell ⟨w.heap.size + 1, 3, none⟩ (.int .i64 0)).setCell ⟨w.heap.size + 1, 4, none⟩ (.slice none 0 0)) := by
  refine ⟨by rw [if_neg hE], ?_⟩
  exact ((((hk.setCell (p := ⟨w.heap.size + 1, 0, none⟩) (by simp) _).setCell (p := ⟨w.heap.size + 1, 1, none⟩) (by simp) _).setCell (p := ⟨w.heap.size + 1, 2, none⟩) (by simp) _).setCell (p := ⟨w.heap.size + 1, 3, none⟩) (by simp) _).setCell (p := ⟨w.heap.size + 1, 4, none⟩) (by simp) _
theorem rect_cmp (X Y U V X' Y' U' V' : Int) (W : World) : (Op.equalIn 10000 38 (.agg #[.int .i64 X, .int .i64 Y, .int .i64 U, .int .i64 V]) (.agg #[.int .i64 X', .int .i64 Y', .int .i64 U', .int .i64 V'])).run Tryz.prog W = .ok (decide (X = X' ∧ Y = Y' ∧ U = U' ∧ V = V')) W := by
  have h66 : Tryz.prog.fieldsOf 38 = #[{ name := "Column", type := 3, offset := 0, embedded := false, tag := "", pkgPath := "", byteOffset := 0 },
          { name := "Row", type := 3, offset := 1, embedded := false, tag := "", pkgPath := "", byteOffset := 8 },
          { name := "Across", type := 3, offset := 2, embedded := false, tag := "", pkgPath := "", byteOffset := 16 },
          { name := "Down", type := 3, offset := 3, embedded := false, tag := "", pkgPath := "", byteOffset := 24 }] := by kernel_rfl
  have h67 : Tryz.prog.stoodInHeld 38 = false := by kernel_rfl
  have hp : Tryz.prog.plainKey 3 = true := by kernel_rfl
  have p := fun (x y u v : Int) (off : Nat) (w : Value) (h : (#[.int .i64 x, .int .i64 y, .int .i64 u, .int .i64 v] : Array Value)[off]? = some w) => run_part_plain (P := Tryz.prog) (w := W) hp (off := off) h
  have p0 := p X Y U V 0 (.int .i64 X) rfl
  have p1 := p X Y U V 1 (.int .i64 Y) rfl
  have p2 := p X Y U V 2 (.int .i64 U) rfl
  have p3 := p X Y U V 3 (.int .i64 V) rfl
  have r0 := p X' Y' U' V' 0 (.int .i64 X') rfl
  have r1 := p X' Y' U' V' 1 (.int .i64 Y') rfl
  have r2 := p X' Y' U' V' 2 (.int .i64 U') rfl
  have r3 := p X' Y' U' V' 3 (.int .i64 V') rfl
  have e : ∀ a b : Int, (Op.equalIn 9999 3 (.int .i64 a) (.int .i64 b)).run Tryz.prog W = .ok (a == b) W := fun a b => run_equalIn_int (P := Tryz.prog) W 9998 3 .i64 .i64 a b Tryz.underlying3
  have e0 := e X X'
  have e1 := e Y Y'
  have e2 := e U U'
  have e3 := e V V'
  rw [show decide (X = X' ∧ Y = Y' ∧ U = U' ∧ V = V') = ((X == X') && ((Y == Y') && ((U == U') && (V == V')))) by rw [Bool.eq_iff_iff]; simp]
  rw [show (10000 : Nat) = 9999 + 1 from rfl, run_equalIn_agg W 9999 38 _ _ (by rw [h66]; exact Tryz.underlying38) h67, h66]
  generalize (X == X') = b0 at *
  generalize (Y == Y') = b1 at *
  generalize (U == U') = b2 at *
  generalize (V == V') = b3 at *
  cases b0 <;> cases b1 <;> cases b2 <;> cases b3 <;> simp [Op.eqFields, p0, p1, p2, p3, r0, r1, r2, r3, e0, e1, e2, e3]

set_option maxRecDepth 100000 in
set_option maxHeartbeats 6400000 in
theorem tjoin_any (g : GrD) (A : Option Addr) (c Z : Nat) (TS : List TilH) (w : World) (hg : g.ok) (hT : Tils w A TS) (hZ : TS.length = Z) (hZ1 : Z ≤ 9223372036854775807) (hc : Z ≤ c) :
    Calls Tryz.prog 32 #[.agg #[.bool g.re.neg, .string g.re.n, .int .i64 g.re.e, .bool g.im.neg, .string g.im.n, .int .i64 g.im.e, .int .i64 g.exp, .int .i64 g.across, .int .i64 g.down, .int .i64 g.wide, .int .i64 g.high], .slice A Z c] w (JoinPost w g (joinE g (TS.map (·.T))) (TS.map (·.T))) := by
  obtain ⟨L, hL⟩ : ∃ L, L = TS.map (·.T) := ⟨_, rfl⟩
  rw [← hL]
  obtain ⟨E, hE⟩ : ∃ E, E = joinE g L := ⟨_, rfl⟩
  rw [← hE]
  have CV := hide (fun (W : World) => tcount_any g W hg)
  obtain ⟨X0, hX0⟩ : ∃ X, X = ((w.alloc (.cells #[.bool g.re.neg, .string g.re.n, .int .i64 g.re.e, .bool g.im.neg, .string g.im.n, .int .i64 g.im.e, .int .i64 g.exp, .int .i64 g.across, .int .i64 g.down, .int .i64 g.wide, .int .i64 g.high] 31)).alloc (.cells #[.int .i64 0, .int .i64 0, .int .i64 0, .int .i64 0, .slice none 0 0] 56)) := ⟨_, rfl⟩
  have K0 : Hid (Kept w X0) := by rw [hX0]; exact ((Below.refl _ _).alloc (Nat.le_refl _) _).alloc (by simp) _
  have z0 : X0.heap.size = w.heap.size + 2 := by rw [hX0]; simp
  have S0 : Hid (∀ W, Kept X0 W → GBox W w.heap.size g ∧ T0Box W (w.heap.size + 1)) := fun W hW => by
    have hW' : Below X0.heap.size X0 W := hW
    have g0 : GBox X0 w.heap.size g := by rw [hX0]; exact (GBox.new w g _ _ rfl).below ((Below.refl _ _).alloc (Nat.le_refl _) _) (by simp)
    have t0 : T0Box X0 (w.heap.size + 1) := by rw [hX0]; exact T0Box.new _ _ _ (by simp)
    exact ⟨g0.below hW' (by omega), t0.kept hW⟩
  by_cases hI : gridI g = 0
  rotate_left
  · obtain rfl : E = gridI g := by rw [hE]; simp [joinE, hI]
    clear hE
    generalize gridI g = I at *
    clear hT hZ hg
    go_enter Tryz.func32, Tryz.ntmps32
    obtain ⟨⟨q0, q1, q2, q3, q4, q5, q6, q7, q8, q9, q10⟩, tb⟩ := S0.out X0 (Below.refl _ _)
    clear tb
    go_wp2_with fail
    rw [← hX0]
    clear hX0 q0 q1 q2 q3 q4 q5 q6 q7 q8 q9 q10
    refine (CV.out _).mono ?_
    rintro e w1 ⟨rfl, hk1⟩
    have K1 := hide (K0.out.trans' hk1)
    have TB := hide (S0.out w1 hk1).2
    have hz1 := TB.out.lt
    obtain ⟨t0, t1, t2, t3, t4, f0, f1, f2, f3, f4⟩ := TB.out
    clear hk1
    go_wp2_with fail
    exact bodyPost_ret (v := .tuple #[.agg #[.int .i64 0, .int .i64 0, .int .i64 0, .int .i64 0, .slice none 0 0], .int .i64 I]) (by simp [results, Tryz.results32, go_sem, t0, t1, t2, t3, t4]) rfl (join_err (by omega) TB.out K1.out)
  obtain ⟨hB, hm⟩ := gridI_ok hI
  rw [show cntA g = gridA g by simp [cntA, hI], show cntD g = gridD g by simp [cntD, hI], hI] at CV
  obtain ⟨a0, a1, d0, d1, w0, w1', h0, h1⟩ := id hB
  obtain ⟨ga0, ga1⟩ := hB.gA
  obtain ⟨gd0, gd1⟩ := hB.gD
  have m0 : 0 ≤ g.across * g.down := Int.mul_nonneg (by omega) (by omega)
  have m9 : g.across * g.down ≤ 65536 * g.down := Int.mul_le_mul_of_nonneg_right a1 (by omega)
  by_cases hsz : g.across * g.down ≤ 4194304
  rotate_left
  · obtain rfl : E = 4 := by rw [hE]; simp [joinE, hI]; omega
    have e9 : IntKind.i64.wrap (g.across * g.down) = g.across * g.down := IntWalk.i64_in _ (by omega)
    have hgt : 4194304 < g.across * g.down := by omega
    clear hE hT hZ hg hB hI a0 a1 d0 d1 w0 w1' h0 h1 m0 m9 hsz
    go_enter Tryz.func32, Tryz.ntmps32
    obtain ⟨⟨q0, q1, q2, q3, q4, q5, q6, q7, q8, q9, q10⟩, tb⟩ := S0.out X0 (Below.refl _ _)
    clear tb
    go_wp2_with fail
    rw [← hX0]
    clear hX0 q0 q1 q2 q3 q4 q5 q6 q7 q8 q9 q10
    refine (CV.out _).mono ?_
    rintro e w1 ⟨rfl, hk1⟩
    obtain ⟨⟨q0, q1, q2, q3, q4, q5, q6, q7, q8, q9, q10⟩, tb⟩ := S0.out w1 hk1
    have hz1 := tb.lt
    clear tb
    obtain ⟨X1, hX1⟩ : ∃ X, X = w1.alloc (.cells #[.bool g.re.neg, .string g.re.n, .int .i64 g.re.e, .bool g.im.neg, .string g.im.n, .int .i64 g.im.e, .int .i64 g.exp, .int .i64 g.across, .int .i64 g.down] 29) := ⟨_, rfl⟩
    have k11 : Kept w1 X1 := by rw [hX1]; exact (Below.refl _ _).alloc (Nat.le_refl _) _
    have HB1 : Hid (WBox X1 w1.heap.size g) := by show WBox _ _ _; rw [hX1]; exact WBox.new w1 g _ _ rfl
    have TB := hide (S0.out X1 (hk1.trans' k11)).2
    have K1 := hide (K0.out.trans' (hk1.trans' k11))
    clear hk1 k11
    go_upto_region 5 with fail
    rw [← hX1]
    clear hX1 q0 q1 q2 q3 q4 q5 q6 q7 q8 q9 q10
    obtain ⟨-, -, -, -, -, -, -, c7, c8⟩ := HB1.out
    obtain ⟨t0, t1, t2, t3, t4, f0, f1, f2, f3, f4⟩ := TB.out
    have hz2 := TB.out.lt
    go_wp2_with fail
    exact bodyPost_ret (v := .tuple #[.agg #[.int .i64 0, .int .i64 0, .int .i64 0, .int .i64 0, .slice none 0 0], .int .i64 4]) (by simp [results, Tryz.results32, go_sem, t0, t1, t2, t3, t4]) rfl (join_err (by omega) TB.out K1.out)
  obtain ⟨M, hM⟩ : ∃ M : Nat, M = (g.across * g.down).toNat := ⟨_, rfl⟩
  have hMI : (M : Int) = g.across * g.down := by rw [hM]; exact Int.toNat_of_nonneg m0
  have g0 : 0 ≤ gridA g * gridD g := Int.mul_nonneg (by omega) (by omega)
  obtain ⟨N, hND⟩ : ∃ N : Nat, (N : Int) = gridA g * gridD g := ⟨(gridA g * gridD g).toNat, Int.toNat_of_nonneg g0⟩
  obtain ⟨JB, hJB⟩ : ∃ JB, joinB g [] L = JB := ⟨_, rfl⟩
  have HE250 : Hid (JB = false → E = 250) := fun h9 => by rw [hE]; unfold joinE joinOK; rw [hJB, h9, if_pos hI, if_neg (by omega)]; rfl
  have HEL : Hid (¬ (L.length : Int) = gridA g * gridD g → E = 250) := fun h9 => by rw [hE]; unfold joinE joinOK; rw [decide_eq_false h9, Bool.and_false, if_pos hI, if_neg (by omega)]; rfl
  have HE0 : Hid (JB = true → (L.length : Int) = gridA g * gridD g → E = 0) := fun h8 h9 => by rw [hE]; unfold joinE joinOK; rw [hJB, h8, decide_eq_true h9, if_pos hI, if_neg (by omega)]; rfl
  have HJB := hide hJB
  have HLL : Hid (L.length = Z) := by show _ = _; rw [hL, List.length_map, hZ]
  have HLT : Hid (∀ (k : Nat) (t : TilH), TS[k]? = some t → L[k]? = some t.T) := fun k t ht => by rw [hL, List.getElem?_map, ht]; rfl
  have HT := hide hT
  have HB := hide hB
  have HZ := hide hZ
  have HMI := hide hMI
  have HND := hide hND
  have HG := hide hg
  have HI := hide hI
  have hMn : M ≤ 4194304 := by omega
  have hNn : N ≤ 65536 := by omega
  have JZ := hide (baseC_nil g)
  rw [← hM] at JZ
  have HM := hide hM
  obtain ⟨i1, hi, hi0, hi1, hi2⟩ := info_parts info_witJ
  obtain ⟨i2, hj, hj0, hj1, hj2⟩ := info_parts info_boolJ
  obtain ⟨MV, hMV⟩ : ∃ V, V = (List.replicate N (Value.bool false)).toArray := ⟨_, rfl⟩
  obtain ⟨ZV, hZV⟩ : ∃ V, V = (witV (List.replicate M wit0)).toArray := ⟨_, rfl⟩
  have mk1 : ∀ W, (Instr.makeSlice 94 (.int .i64 (gridA g * gridD g)) (.int .i64 (gridA g * gridD g))).run Tryz.prog W = .ok (.slice (some ⟨W.heap.size, 0, none⟩) N N) (W.alloc (.cells MV 4)) := fun W => by
    have h9 := run_make (P := Tryz.prog) W 94 4 i2 (.bool false) Tryz.underlying94 hj hj0 .i64 .i64 (N : Int) (N : Int) (by omega) (Int.le_refl _) (by rw [hj2]; omega) (by omega)
    rw [hj1, Nat.mul_one, Int.toNat_natCast, show (Value.bool false).cells = #[.bool false] from rfl, made_truths, ← hMV, hND] at h9
    exact h9
  have mk2 : ∀ W, (Instr.makeSlice 54 (.int .i64 (g.across * g.down)) (.int .i64 (g.across * g.down))).run Tryz.prog W = .ok (.slice (some ⟨W.heap.size, 0, none⟩) M M) (W.alloc (.cells ZV 69)) := fun W => by
    have h9 := run_make (P := Tryz.prog) W 54 69 i1 (.agg #[.int .u8 0, .int .i64 0, .int .i64 0]) Tryz.underlying54 hi hi0 .i64 .i64 (M : Int) (M : Int) (by omega) (Int.le_refl _) (by rw [hi2]; omega) (by omega)
    rw [hi1, Int.toNat_natCast, show (Value.agg #[.int .u8 0, .int .i64 0, .int .i64 0]).cells = #[.int .u8 0, .int .i64 0, .int .i64 0] from rfl, made_wits, ← hZV, hMI] at h9
    exact h9
  have HMV := hide hMV
  have HZV := hide hZV
  have hSA : g.across * g.down ≤ 4194304 := hsz
  have nSA : ¬ 4194304 < g.across * g.down := by omega
  clear hE hT hB hZ hMI hM hg hI hsz hMV hZV hi hi0 hi1 hi2 hj hj0 hj1 hj2 hL hJB m9
  go_enter Tryz.func32, Tryz.ntmps32
  obtain ⟨⟨q0, q1, q2, q3, q4, q5, q6, q7, q8, q9, q10⟩, tb⟩ := S0.out X0 (Below.refl _ _)
  clear tb
  go_wp2_with fail
  rw [← hX0]
  clear hX0 q0 q1 q2 q3 q4 q5 q6 q7 q8 q9 q10
  refine (CV.out _).mono ?_
  rintro e w1 ⟨rfl, hk1⟩
  have K1 := hide (show Kept X0 w1 from hk1)
  obtain ⟨⟨q0, q1, q2, q3, q4, q5, q6, q7, q8, q9, q10⟩, tb⟩ := S0.out w1 hk1
  have hz1 := tb.lt
  clear tb hk1
  obtain ⟨X1, hX1⟩ : ∃ X, X = w1.alloc (.cells #[.bool g.re.neg, .string g.re.n, .int .i64 g.re.e, .bool g.im.neg, .string g.im.n, .int .i64 g.im.e, .int .i64 g.exp, .int .i64 g.across, .int .i64 g.down] 29) := ⟨_, rfl⟩
  obtain ⟨X2, hX2⟩ : ∃ X, X = X1.alloc (.cells MV 4) := ⟨_, rfl⟩
  have z1 : X1.heap.size = w1.heap.size + 1 := by rw [hX1]; simp
  have z2 : X2.heap.size = w1.heap.size + 2 := by rw [hX2]; simp; omega
  have k12 : Kept X1 X2 := by rw [hX2]; exact (Below.refl _ _).alloc (Nat.le_refl _) _
  have k11 : Kept w1 X1 := by rw [hX1]; exact (Below.refl _ _).alloc (Nat.le_refl _) _
  have HB1 : Hid (WBox X1 w1.heap.size g) := by show WBox _ _ _; rw [hX1]; exact WBox.new w1 g _ _ rfl
  have MB : Hid ((∀ j, j < N → X2.cell? ⟨w1.heap.size + 1, j, none⟩ = some (.bool (decide (j < 0)))) ∧ ∀ j, X2.frozen? ⟨w1.heap.size + 1, j, none⟩ = false) := by
    rw [← z1]
    show _ ∧ _
    rw [hX2]
    refine ⟨fun j hj => ?_, fun j => fresh_frozen _ _ _ _⟩
    rw [World.cell?_alloc_mark, HMV.out]
    simp [hj]
  go_upto_region 8 with fail
  rw [← hX1, ← hX2]
  clear q0 q1 q2 q3 q4 q5 q6 q7 q8 q9 q10
  have K11 := hide k11
  have K12 := hide k12
  have HX := hide hX2
  clear hX1 hX2 k11 k12
  go_cut [11] (fun v wx => ∃ p q, v = .pointer (some ⟨q, 0, none⟩) ∧ JAt X1 wx (w1.heap.size + 1) p q N M g.across g.down 0 (List.replicate M wit0) 69)
  case first =>
    obtain ⟨-, -, -, -, -, -, -, c7, c8⟩ := HB1.out.kept K12.out (by omega)
    have HS := hide (And.intro c7 c8)
    have e9 : IntKind.i64.wrap (g.across * g.down) = g.across * g.down := IntWalk.i64_in _ (by omega)
    have e9' := e9
    refine wp_region_L (fun W => W.cell? ⟨w1.heap.size, 7, none⟩ = some (.int .i64 g.across) ∧ W.cell? ⟨w1.heap.size, 8, none⟩ = some (.int .i64 g.down)) 13 (by kernel_rfl) ?_ (fun hHeld => ?_)
    · first | assumption | exact HS.out | go_keep
    refine wpAnyL_take (i := 0) (v := ?_) (some 41) rfl rfl (by kernel_rfl) (by kernel_rfl) (by kernel_rfl) (by kernel_rfl) (fun _ _ _ h => h) (Or.inl ⟨by rfl, ?_⟩) (by assumption) ?_
    rotate_left
    · intro w hSw; (try dsimp only at hSw); go_simp; (try with_reducible rfl)
    try simp only [Act.put, List.setIfInBounds_toArray, List.set_cons_zero, List.set_cons_succ]
    refine wpAnyL_take (i := 1) (v := ?_) (some 42) rfl rfl (by kernel_rfl) (by kernel_rfl) (by kernel_rfl) (by kernel_rfl) (fun _ _ _ h => h) (Or.inl ⟨by rfl, ?_⟩) (by assumption) ?_
    rotate_left
    · intro w hSw; (try dsimp only at hSw); go_simp; (try with_reducible rfl)
    try simp only [Act.put, List.setIfInBounds_toArray, List.set_cons_zero, List.set_cons_succ]
    refine wpAnyL_take (i := 2) (v := ?_) (some 43) rfl rfl (by kernel_rfl) (by kernel_rfl) (by kernel_rfl) (by kernel_rfl) (fun _ _ _ h => h) (Or.inl ⟨by rfl, ?_⟩) (by assumption) ?_
    rotate_left
    · intro w hSw; (try dsimp only at hSw); go_simp; (try with_reducible rfl)
    try simp only [Act.put, List.setIfInBounds_toArray, List.set_cons_zero, List.set_cons_succ]
    refine wpAnyL_take (i := 3) (v := ?_) (some 44) rfl rfl (by kernel_rfl) (by kernel_rfl) (by kernel_rfl) (by kernel_rfl) (fun _ _ _ h => h) (Or.inl ⟨by rfl, ?_⟩) (by assumption) ?_
    rotate_left
    · intro w hSw; (try dsimp only at hSw); go_simp; (try with_reducible rfl)
    try simp only [Act.put, List.setIfInBounds_toArray, List.set_cons_zero, List.set_cons_succ]
    refine wpAnyL_take (i := 4) (v := ?_) (some 45) rfl rfl (by kernel_rfl) (by kernel_rfl) (by kernel_rfl) (by kernel_rfl) (fun _ _ _ h => h) (Or.inl ⟨by rfl, ?_⟩) (by assumption) ?_
    rotate_left
    · intro w hSw; (try dsimp only at hSw); go_simp; (try with_reducible rfl)
    try simp only [Act.put, List.setIfInBounds_toArray, List.set_cons_zero, List.set_cons_succ]
    refine wpAnyL_take (i := 5) (v := ?_) (some 46) rfl rfl (by kernel_rfl) (by kernel_rfl) (by kernel_rfl) (by kernel_rfl) (fun _ _ _ h => h) (Or.inl ⟨by rfl, ?_⟩) (by assumption) ?_
    rotate_left
    · intro w hSw; (try dsimp only at hSw); go_simp; (try with_reducible rfl)
    try simp only [Act.put, List.setIfInBounds_toArray, List.set_cons_zero, List.set_cons_succ]
    refine wpAnyL_take (i := 6) (v := ?_) (some 47) rfl rfl (by kernel_rfl) (by kernel_rfl) (by kernel_rfl) (by kernel_rfl) (fun _ _ _ h => h) (Or.inl ⟨by rfl, ?_⟩) (by assumption) ?_
    rotate_left
    · intro w hSw; (try dsimp only at hSw); go_simp; (try with_reducible rfl)
    try simp only [Act.put, List.setIfInBounds_toArray, List.set_cons_zero, List.set_cons_succ]
    refine wpAnyL_take (i := 7) (v := ?_) (some 48) rfl rfl (by kernel_rfl) (by kernel_rfl) (by kernel_rfl) (by kernel_rfl) (fun _ _ _ h => h) (Or.inl ⟨by rfl, ?_⟩) (by assumption) ?_
    rotate_left
    · intro w hSw; (try dsimp only at hSw); go_simp; (try with_reducible rfl)
    try simp only [Act.put, List.setIfInBounds_toArray, List.set_cons_zero, List.set_cons_succ]
    refine wpAnyL_take (i := 8) (v := ?_) (some 49) rfl rfl (by kernel_rfl) (by kernel_rfl) (by kernel_rfl) (by kernel_rfl) (fun _ _ _ h => h) (Or.inl ⟨by rfl, ?_⟩) (by assumption) ?_
    rotate_left
    · intro w hSw; (try dsimp only at hSw); go_simp; (try with_reducible rfl)
    try simp only [Act.put, List.setIfInBounds_toArray, List.set_cons_zero, List.set_cons_succ]
    refine wpAnyL_take (i := 9) (v := ?_) (some 50) rfl rfl (by kernel_rfl) (by kernel_rfl) (by kernel_rfl) (by kernel_rfl) (fun _ _ _ h => h) (Or.inl ⟨by rfl, ?_⟩) (by assumption) ?_
    rotate_left
    · intro w hSw; (try dsimp only at hSw); go_simp; (try with_reducible rfl)
    try simp only [Act.put, List.setIfInBounds_toArray, List.set_cons_zero, List.set_cons_succ]
    refine wpAnyL_two (i := 10) (j := 12) (by kernel_rfl) rfl rfl (fun K hK => ?_) (fun K hK => ?_)
    · skip
      go_simp
      refine hK.out _ _ ?_ (fun hHeld => ?_)
      · first | assumption | exact HS.out | go_keep
      clear hK K
      try simp only [Act.put, List.setIfInBounds_toArray, List.set_cons_zero, List.set_cons_succ]
      refine wpAnyL_take (i := 11) (v := ?_) (some 52) rfl rfl (by kernel_rfl) (by kernel_rfl) (by kernel_rfl) (by kernel_rfl) (fun _ _ _ h => h) (Or.inl ⟨by rfl, ?_⟩) (by assumption) ?_
      rotate_left
      · intro w hSw; (try dsimp only at hSw); go_simp; (try with_reducible rfl)
      try simp only [Act.put, List.setIfInBounds_toArray, List.set_cons_zero, List.set_cons_succ]
      refine wpAnyL_one (i := 12) (by kernel_rfl) rfl (fun K hK => ?_)
      go_simp
      refine hK.out _ _ ?_ (fun hHeld => ?_)
      · first | assumption | exact HS.out | go_keep
      clear hK K
      try simp only [Act.put, List.setIfInBounds_toArray, List.set_cons_zero, List.set_cons_succ]
      refine wpAnyL_end (by kernel_rfl) rfl (fun K hK => ?_)
      go_simp
      refine hK.out _ _ ?_
      clear hK K
      try simp only [Act.put, List.setIfInBounds_toArray, List.set_cons_zero, List.set_cons_succ]
      refine wpAnyL_done (by kernel_rfl) ?_ _
      go_wp2_with fail
      go_meet
      rw [HZV.out]
      exact ⟨_, _, rfl, JAt.new1 (by have := K12.out; unfold Kept at this; rwa [z1] at this) MB.out.1 MB.out.2 (by omega) z2.symm rfl⟩
    · skip
      go_simp
      refine hK.out _ _ ?_ (fun hHeld => ?_)
      · first | assumption | exact HS.out | go_keep
      clear hK K
      try simp only [Act.put, List.setIfInBounds_toArray, List.set_cons_zero, List.set_cons_succ]
      refine wpAnyL_one (i := 10) (by kernel_rfl) rfl (fun K hK => ?_)
      go_simp
      refine hK.out _ _ ?_ (fun hHeld => ?_)
      · first | assumption | exact HS.out | go_keep
      clear hK K
      try simp only [Act.put, List.setIfInBounds_toArray, List.set_cons_zero, List.set_cons_succ]
      refine wpAnyL_take (i := 11) (v := ?_) (some 52) rfl rfl (by kernel_rfl) (by kernel_rfl) (by kernel_rfl) (by kernel_rfl) (fun _ _ _ h => h) (Or.inl ⟨by rfl, ?_⟩) (by assumption) ?_
      rotate_left
      · intro w hSw; (try dsimp only at hSw); go_simp; (try with_reducible rfl)
      try simp only [Act.put, List.setIfInBounds_toArray, List.set_cons_zero, List.set_cons_succ]
      refine wpAnyL_end (by kernel_rfl) rfl (fun K hK => ?_)
      go_simp
      refine hK.out _ _ ?_
      clear hK K
      try simp only [Act.put, List.setIfInBounds_toArray, List.set_cons_zero, List.set_cons_succ]
      refine wpAnyL_done (by kernel_rfl) ?_ _
      go_wp2_with fail
      go_meet
      rw [HZV.out]
      exact ⟨_, _, rfl, JAt.new2 (by have := K12.out; unfold Kept at this; rwa [z1] at this) MB.out.1 MB.out.2 (by omega) z2.symm rfl⟩
  case rest =>
  obtain ⟨p, q, rfl, hJ0⟩ := hcut
  rw [← JZ.out] at hJ0
  clear mk1 mk2 HX MB z2 K12 HMV HZV JZ nSA hSA m0 ga0 ga1 gd0 gd1 a0 d0 h0 w0 h1 w1'
  obtain ⟨mb, hmb⟩ : ∃ mb, mb = w1.heap.size + 1 := ⟨_, rfl⟩
  rw [← hmb] at hJ0
  have HX1 : Hid (∀ W, Below mb X1 W → Kept w1 W ∧ Kept X0 W ∧ Kept w W ∧ WBox W w1.heap.size g) := fun W hW => by
    have k1 : Kept w1 W := K11.out.trans (hW.mono (by omega))
    have k0 : Kept X0 W := K1.out.trans' k1
    exact ⟨k1, k0, K0.out.trans' k0, HB1.out.kept hW (by omega)⟩
  have HJ0 := hide hJ0
  obtain ⟨-, -, -, -, -, -, -, c7, c8⟩ := (HX1.out wc hJ0.below).2.2.2
  clear hJ0
  rw [← hmb]
  have HMB := hide hmb
  clear hmb
  go_wp2_with fail
  go_loopg [55] Z (fun gh ix wy => ∃ k : Nat, k + gh = Z ∧ ix = .int .i64 k ∧ JG X1 wy mb p q N M g.across g.down (fun j => metJ g (L.take k) j) (baseC g (L.take k)) 69 ∧ PInv g (L.take k) ∧ joinB g (L.take k) (L.drop k) = JB)
  case atStart => exact ⟨0, by omega, rfl, (JG.of HJ0.out).met' (fun j _ => by simp [metJ]), PInv.nil g, HJB.out⟩
  case round =>
    clear HJ0 c7 c8
    obtain ⟨k, hkg, rfl, hJ, hP, hJb⟩ := hrel
    obtain ⟨kw1, kx0, kw, bw⟩ := HX1.out wr hJ.below
    cases gk with
    | zero =>
      have hge : ¬ (k : Int) < Z := by omega
      obtain rfl : k = Z := by omega
      rw [List.take_of_length_le (by rw [HLL.out]; exact Nat.le_refl _)] at hJ hP hJb
      rw [List.drop_eq_nil_of_le (by rw [HLL.out]; exact Nat.le_refl _)] at hJb
      obtain rfl : JB = true := by rw [← hJb]; unfold joinB; rfl
      have HALL := hide (join_all HB.out hP HND.out)
      have CM := hide (fun B hB => contains_any mb N (fun j => metJ g L j) wr (by omega) (fun j hj => hJ.met j hj) B hB)
      have TB := hide (S0.out wr kx0).2
      obtain ⟨t0, t1, t2, t3, t4, f0, f1, f2, f3, f4⟩ := TB.out
      have hq0 := hJ.q0
      have hq1 := hJ.q1
      have hq2 := hJ.q2
      have hq3 := hJ.q3
      have hq4 := hJ.q4
      have hzt := TB.out.lt
      have HJ := hide hJ
      have HKW := hide kw
      clear hJ kw1 kx0 kw bw hP hJb
      by_cases hl : (L.length : Int) = gridA g * gridD g
      · obtain rfl : E = 0 := HE0.out rfl hl
        have CM0 := hide (CM.out false (by
          have h9 := HALL.out.2 hl
          constructor
          · intro h; cases h
          · rintro ⟨j, hj, hm⟩; rw [h9 j hj] at hm; cases hm))
        clear CM hl
        go_wp2_with fail
        refine CM0.out.mono ?_
        rintro e w9 ⟨rfl, rfl⟩
        go_wp2_with fail
        have hpq := HJ.out.mp
        have h5 : Kept w ((((((w9.setCell ⟨w.heap.size + 1, 0, none⟩ (.int .i64 0)).setCell ⟨w.heap.size + 1, 1, none⟩ (.int .i64 0)).setCell ⟨w.heap.size + 1, 2, none⟩ (.int .i64 g.across)).setCell ⟨w.heap.size + 1, 3, none⟩ (.int .i64 g.down)).setCell ⟨w.heap.size + 1, 4, none⟩ (.slice (some ⟨p, 0, none⟩) M M))) :=
          ((((HKW.out.setCell (p := ⟨w.heap.size + 1, 0, none⟩) (by simp) _).setCell (p := ⟨w.heap.size + 1, 1, none⟩) (by simp) _).setCell (p := ⟨w.heap.size + 1, 2, none⟩) (by simp) _).setCell (p := ⟨w.heap.size + 1, 3, none⟩) (by simp) _).setCell (p := ⟨w.heap.size + 1, 4, none⟩) (by simp) _
        have hOW : Own w9 w.heap.size 3 (.slice (some ⟨p, 0, none⟩) M M) M (witV (baseC g L)) := HJ.out.own (by rw [baseC_length, HM.out]) (by unfold maxLen; omega) (by have := HMB.out; omega)
        have hne : ∀ j, (Value.slice (some ⟨p, 0, none⟩) M M).ownBlock = some j → j ≠ w.heap.size + 1 := fun j hj => by
          have : p = j := by simpa [Value.ownBlock] using hj
          have := HMB.out
          omega
        exact bodyPost_ret (v := .tuple #[.agg #[.int .i64 0, .int .i64 0, .int .i64 g.across, .int .i64 g.down, .slice (some ⟨p, 0, none⟩) M M], .int .i64 0]) (by simp [results, Tryz.results32, go_sem, t0, t1, t2, t3, t4]) rfl
          ⟨by rw [if_pos rfl]; exact ⟨_, rfl, by rw [← HM.out]; exact ((((hOW.far (p := ⟨w.heap.size + 1, 0, none⟩) hne _).far (p := ⟨w.heap.size + 1, 1, none⟩) hne _).far (p := ⟨w.heap.size + 1, 2, none⟩) hne _).far (p := ⟨w.heap.size + 1, 3, none⟩) hne _).far (p := ⟨w.heap.size + 1, 4, none⟩) hne _⟩, h5⟩
      · obtain rfl : E = 250 := HEL.out hl
        have CM0 := hide (CM.out true (by
          refine ⟨fun _ => ?_, fun _ => rfl⟩
          apply Classical.byContradiction
          intro hno
          exact hl (HALL.out.1 fun j hj => by
            cases hc : metJ g L j with
            | true => rfl
            | false => exact absurd ⟨j, hj, hc⟩ hno)))
        clear CM hl
        go_wp2_with fail
        refine CM0.out.mono ?_
        rintro e w9 ⟨rfl, rfl⟩
        go_wp2_with fail
        exact bodyPost_ret (v := .tuple #[.agg #[.int .i64 0, .int .i64 0, .int .i64 0, .int .i64 0, .slice none 0 0], .int .i64 250]) (by simp [results, Tryz.results32, go_sem, t0, t1, t2, t3, t4]) rfl (join_err (by omega) TB.out HKW.out)
    | succ g2 =>
      obtain ⟨wo, rfl⟩ : ∃ wo : World, wo = wr := ⟨_, rfl⟩
      obtain ⟨t, ht⟩ : ∃ t, TS[k]? = some t := ⟨_, List.getElem?_eq_getElem (by have := HZ.out; omega)⟩
      obtain ⟨tb, toff, hAe, x0, x1, x2, x3, x4⟩ := Tils.at_ (HT.out.kept kw) ht
      have ta := (HT.out.kept kw).each t (List.mem_of_getElem? ht)
      have hLk := HLT.out k t ht
      have hST := joinB_step g L k t.T hLk
      rw [hJb] at hST
      have HST := hide hST
      have HTK : Hid (L.take (k + 1) = L.take k ++ [t.T]) := by show _ = _; rw [List.take_add_one, hLk]; rfl
      have HRW := hide (HT.out.each t (List.mem_of_getElem? ht)).row
      have HCap := hide ta.cap
      have HLen := hide ta.len
      have CRT9 := hide (fun W => tright_any t.T.x t.T.y t.T.a t.T.d t.A t.n t.c W ta.a0 ta.a1 ta.d0 ta.d1 ta.x0 ta.y0)
      have CA9 := hide (fun W => tat_any g t.T.x t.T.y W HG.out ta.x0 ta.x1 ta.y0 ta.y1)
      have hlt : (k : Int) < Z := by omega
      have hbl := lt_of_cell x0
      have HPW := hide (show p < wo.heap.size ∧ mb < p from ⟨hJ.pl, hJ.mp⟩)
      have HJ := hide hJ
      have HP := hide hP
      subst hAe
      clear ta hLk hST ht hJb hJ hP kw1 kx0 kw bw
      obtain ⟨W3, hW3⟩ : ∃ W3, W3 = wo.alloc (.cells #[.int .i64 t.T.x, .int .i64 t.T.y, .int .i64 t.T.a, .int .i64 t.T.d, .slice t.A t.n t.c] 56) := ⟨_, rfl⟩
      have k3 : Kept wo W3 := by rw [hW3]; exact (Below.refl _ _).alloc (Nat.le_refl _) _
      have HT3 : Hid (LBox W3 wo.heap.size t.T.x t.T.y t.T.a t.T.d t.A t.n t.c) := by show LBox _ _ _ _ _ _ _ _ _; rw [hW3]; exact LBox.new _ _ _ _ _ _ _ _ _ _ rfl
      have z3 : W3.heap.size = wo.heap.size + 1 := by rw [hW3]; simp
      have HJ3 := hide (HJ.out.kept k3)
      go_upto_region 12 with fail
      rw [← hW3]
      clear hW3 k3 x0 x1 x2 x3 x4
      obtain ⟨l0, l1, l2, l3, l4⟩ := HT3.out
      have hl3 := HT3.out.lt
      cases hBt : tileB t.T.x t.T.y t.T.a t.T.d t.n with
      | false =>
        rw [hBt] at CRT9
        obtain rfl : E = 250 := HE250.out (by rw [HST.out]; simp [goodJ, fitJ, HLen.out, hBt])
        clear hBt
        go_wp2_with fail
        refine (CRT9.out _).mono ?_
        rintro e w4 ⟨rfl, hk4⟩
        have HJ4 := hide (HJ3.out.kept hk4)
        have TB4 := hide (S0.out w4 (HX1.out w4 HJ4.out.below).2.1).2
        have HK4 := hide (HX1.out w4 HJ4.out.below).2.2.1
        clear l0 l1 l2 l3 l4 hk4 hl3
        obtain ⟨t0, t1, t2, t3, t4, f0, f1, f2, f3, f4⟩ := TB4.out
        have hz4 := TB4.out.lt
        go_wp2_with fail
        exact bodyPost_ret (v := .tuple #[.agg #[.int .i64 0, .int .i64 0, .int .i64 0, .int .i64 0, .slice none 0 0], .int .i64 250]) (by simp [results, Tryz.results32, go_sem, t0, t1, t2, t3, t4]) rfl (join_err (by omega) TB4.out HK4.out)
      | true =>
        rw [hBt] at CRT9
        obtain ⟨v1, v2, v3, v4, v5, v6, v7⟩ := mayB_bounds (tileB_may hBt)
        have hxy : 0 ≤ t.T.x ∧ 0 ≤ t.T.y := by simp [tileB] at hBt; omega
        by_cases hin : t.T.x < g.across ∧ t.T.y < g.down
        rotate_left
        · have hbad : goodJ g (L.take k) t.T = false := by rw [goodJ, fitJ, decide_eq_false (fun h => hin ⟨h.1, h.2.1⟩), Bool.and_false, Bool.false_and]
          obtain rfl : E = 250 := HE250.out (by rw [HST.out, hbad, Bool.false_and])
          have CA8 : Hid (∀ W, Calls Tryz.prog 21 #[.agg #[.bool g.re.neg, .string g.re.n, .int .i64 g.re.e, .bool g.im.neg, .string g.im.n, .int .i64 g.im.e, .int .i64 g.exp, .int .i64 g.across, .int .i64 g.down, .int .i64 g.wide, .int .i64 g.high], .int .i64 t.T.x, .int .i64 t.T.y] W fun e w' => e = .returned (.tuple #[.int .i64 0, .int .i64 241]) ∧ Kept W w') := fun W => (CA9.out W).mono (by
            rintro e w' ⟨h1, h2⟩
            rw [if_pos HI.out, if_neg (by omega)] at h1
            exact ⟨h1, h2⟩)
          clear hBt CA9 v1 v2 v3 v4 v5 v6 v7 hxy hin hbad
          go_wp2_with fail
          refine (CRT9.out _).mono ?_
          rintro e w4 ⟨rfl, hk4⟩
          have HT4 := hide (HT3.out.kept hk4)
          have HJ4 := hide (HJ3.out.kept hk4)
          clear l0 l1 l2 l3 l4 hk4 hl3
          obtain ⟨l0, l1, l2, l3, l4⟩ := HT4.out
          have hl4 := HT4.out.lt
          obtain ⟨⟨q0, q1, q2, q3, q4, q5, q6, q7, q8, q9, q10⟩, -⟩ := S0.out w4 (HX1.out w4 HJ4.out.below).2.1
          go_wp2_with fail
          refine (CA8.out _).mono ?_
          rintro e w5 ⟨rfl, hk5⟩
          have HT5 := hide (HT4.out.kept hk5)
          have HJ5 := hide (HJ4.out.kept hk5)
          clear l0 l1 l2 l3 l4 hl4 hk5 q0 q1 q2 q3 q4 q5 q6 q7 q8 q9 q10
          go_upto_region 15 with fail
          have HS : Hid (∀ W, Kept w5 W → ((W.cell? ⟨w.heap.size, 0, none⟩ = some (.bool g.re.neg) ∧ W.cell? ⟨w.heap.size, 1, none⟩ = some (.string g.re.n) ∧ W.cell? ⟨w.heap.size, 2, none⟩ = some (.int .i64 g.re.e) ∧ W.cell? ⟨w.heap.size, 3, none⟩ = some (.bool g.im.neg) ∧ W.cell? ⟨w.heap.size, 4, none⟩ = some (.string g.im.n) ∧ W.cell? ⟨w.heap.size, 5, none⟩ = some (.int .i64 g.im.e) ∧ W.cell? ⟨w.heap.size, 6, none⟩ = some (.int .i64 g.exp) ∧ W.cell? ⟨w.heap.size, 7, none⟩ = some (.int .i64 g.across) ∧ W.cell? ⟨w.heap.size, 8, none⟩ = some (.int .i64 g.down) ∧ W.cell? ⟨w.heap.size, 9, none⟩ = some (.int .i64 g.wide) ∧ W.cell? ⟨w.heap.size, 10, none⟩ = some (.int .i64 g.high)) ∧ W.cell? ⟨wo.heap.size, 0, none⟩ = some (.int .i64 t.T.x) ∧ W.cell? ⟨wo.heap.size, 1, none⟩ = some (.int .i64 t.T.y) ∧ W.cell? ⟨wo.heap.size, 2, none⟩ = some (.int .i64 t.T.a) ∧ W.cell? ⟨wo.heap.size, 3, none⟩ = some (.int .i64 t.T.d))) := fun W hW => by
            have hT := HT5.out.kept hW
            have hJ := HJ5.out.kept hW
            have hG := (S0.out W (HX1.out W hJ.below).2.1).1
            exact ⟨hG, hT.t0, hT.t1, hT.t2, hT.t3⟩
          have HD : Hid (Kept w5 w5.drew) := (Below.refl _ _).drew
          have HS0 := hide (HS.out _ HD.out)
          refine wp_region_L (fun W => (W.cell? ⟨w.heap.size, 0, none⟩ = some (.bool g.re.neg) ∧ W.cell? ⟨w.heap.size, 1, none⟩ = some (.string g.re.n) ∧ W.cell? ⟨w.heap.size, 2, none⟩ = some (.int .i64 g.re.e) ∧ W.cell? ⟨w.heap.size, 3, none⟩ = some (.bool g.im.neg) ∧ W.cell? ⟨w.heap.size, 4, none⟩ = some (.string g.im.n) ∧ W.cell? ⟨w.heap.size, 5, none⟩ = some (.int .i64 g.im.e) ∧ W.cell? ⟨w.heap.size, 6, none⟩ = some (.int .i64 g.exp) ∧ W.cell? ⟨w.heap.size, 7, none⟩ = some (.int .i64 g.across) ∧ W.cell? ⟨w.heap.size, 8, none⟩ = some (.int .i64 g.down) ∧ W.cell? ⟨w.heap.size, 9, none⟩ = some (.int .i64 g.wide) ∧ W.cell? ⟨w.heap.size, 10, none⟩ = some (.int .i64 g.high)) ∧ W.cell? ⟨wo.heap.size, 0, none⟩ = some (.int .i64 t.T.x) ∧ W.cell? ⟨wo.heap.size, 1, none⟩ = some (.int .i64 t.T.y) ∧ W.cell? ⟨wo.heap.size, 2, none⟩ = some (.int .i64 t.T.a) ∧ W.cell? ⟨wo.heap.size, 3, none⟩ = some (.int .i64 t.T.d)) 999 (by kernel_rfl) ?_ (fun hHeld => ?_)
          · first | exact HS0.out | assumption
          refine wpAnyL_take (i := 0) (v := ?_) (some 74) rfl rfl (by kernel_rfl) (by kernel_rfl) (by kernel_rfl) (by kernel_rfl) (fun _ _ _ h => h) (Or.inl ⟨by rfl, ?_⟩) (by assumption) ?_
          rotate_left
          · intro w hSw; (try dsimp only at hSw); go_simp; (try with_reducible rfl)
          try simp only [Act.put, List.setIfInBounds_toArray, List.set_cons_zero, List.set_cons_succ]
          refine wpAnyL_take (i := 1) (v := Value.bool true) (some 75) rfl rfl (by kernel_rfl) (by kernel_rfl) (by kernel_rfl) (by kernel_rfl) (fun _ _ _ h => h) (Or.inl ⟨by rfl, ?_⟩) (by assumption) ?_
          · intro w hSw; (try dsimp only at hSw); go_simp
          try simp only [Act.put, List.setIfInBounds_toArray, List.set_cons_zero, List.set_cons_succ]
          refine wpAnyL_take (i := 2) (v := Value.bool true) (some 76) rfl rfl (by kernel_rfl) (by kernel_rfl) (by kernel_rfl) (by kernel_rfl) (fun _ _ _ h => h) (Or.inl ⟨by rfl, ?_⟩) (by assumption) ?_
          · intro w hSw; (try dsimp only at hSw); go_simp
          try simp only [Act.put, List.setIfInBounds_toArray, List.set_cons_zero, List.set_cons_succ]
          refine wpAnyL_take (i := 3) (v := undef) (some 77) rfl rfl (by kernel_rfl) (by kernel_rfl) (by kernel_rfl) (by kernel_rfl) (fun _ _ _ h => h) (Or.inr ⟨by rfl, rfl⟩) (by assumption) ?_
          try simp only [Act.put, List.setIfInBounds_toArray, List.set_cons_zero, List.set_cons_succ]
          refine wpAnyL_take (i := 4) (v := undef) (some 78) rfl rfl (by kernel_rfl) (by kernel_rfl) (by kernel_rfl) (by kernel_rfl) (fun _ _ _ h => h) (Or.inr ⟨by rfl, rfl⟩) (by assumption) ?_
          try simp only [Act.put, List.setIfInBounds_toArray, List.set_cons_zero, List.set_cons_succ]
          refine wpAnyL_take (i := 5) (v := undef) (some 79) rfl rfl (by kernel_rfl) (by kernel_rfl) (by kernel_rfl) (by kernel_rfl) (fun _ _ _ h => h) (Or.inr ⟨by rfl, rfl⟩) (by assumption) ?_
          try simp only [Act.put, List.setIfInBounds_toArray, List.set_cons_zero, List.set_cons_succ]
          refine wpAnyL_take (i := 6) (v := undef) (some 80) rfl rfl (by kernel_rfl) (by kernel_rfl) (by kernel_rfl) (by kernel_rfl) (fun _ _ _ h => h) (Or.inr ⟨by rfl, rfl⟩) (by assumption) ?_
          try simp only [Act.put, List.setIfInBounds_toArray, List.set_cons_zero, List.set_cons_succ]
          refine wpAnyL_take (i := 7) (v := undef) (some 81) rfl rfl (by kernel_rfl) (by kernel_rfl) (by kernel_rfl) (by kernel_rfl) (fun _ _ _ h => h) (Or.inr ⟨by rfl, rfl⟩) (by assumption) ?_
          try simp only [Act.put, List.setIfInBounds_toArray, List.set_cons_zero, List.set_cons_succ]
          refine wpAnyL_take (i := 8) (v := undef) (some 82) rfl rfl (by kernel_rfl) (by kernel_rfl) (by kernel_rfl) (by kernel_rfl) (fun _ _ _ h => h) (Or.inr ⟨by rfl, rfl⟩) (by assumption) ?_
          try simp only [Act.put, List.setIfInBounds_toArray, List.set_cons_zero, List.set_cons_succ]
          refine wpAnyL_take (i := 9) (v := Value.bool true) (some 83) rfl rfl (by kernel_rfl) (by kernel_rfl) (by kernel_rfl) (by kernel_rfl) (fun _ _ _ h => h) (Or.inl ⟨by rfl, ?_⟩) (by assumption) ?_
          · intro w hSw; (try dsimp only at hSw); go_simp
          try simp only [Act.put, List.setIfInBounds_toArray, List.set_cons_zero, List.set_cons_succ]
          refine wpAnyL_take (i := 10) (v := Value.bool true) (some 84) rfl rfl (by kernel_rfl) (by kernel_rfl) (by kernel_rfl) (by kernel_rfl) (fun _ _ _ h => h) (Or.inl ⟨by rfl, ?_⟩) (by assumption) ?_
          · intro w hSw; (try dsimp only at hSw); go_simp
          try simp only [Act.put, List.setIfInBounds_toArray, List.set_cons_zero, List.set_cons_succ]
          refine wpAnyL_take (i := 11) (v := undef) (some 85) rfl rfl (by kernel_rfl) (by kernel_rfl) (by kernel_rfl) (by kernel_rfl) (fun _ _ _ h => h) (Or.inr ⟨by rfl, rfl⟩) (by assumption) ?_
          try simp only [Act.put, List.setIfInBounds_toArray, List.set_cons_zero, List.set_cons_succ]
          refine wpAnyL_take (i := 12) (v := undef) (some 86) rfl rfl (by kernel_rfl) (by kernel_rfl) (by kernel_rfl) (by kernel_rfl) (fun _ _ _ h => h) (Or.inr ⟨by rfl, rfl⟩) (by assumption) ?_
          try simp only [Act.put, List.setIfInBounds_toArray, List.set_cons_zero, List.set_cons_succ]
          refine wpAnyL_take (i := 13) (v := undef) (some 87) rfl rfl (by kernel_rfl) (by kernel_rfl) (by kernel_rfl) (by kernel_rfl) (fun _ _ _ h => h) (Or.inr ⟨by rfl, rfl⟩) (by assumption) ?_
          try simp only [Act.put, List.setIfInBounds_toArray, List.set_cons_zero, List.set_cons_succ]
          refine wpAnyL_take (i := 14) (v := undef) (some 88) rfl rfl (by kernel_rfl) (by kernel_rfl) (by kernel_rfl) (by kernel_rfl) (fun _ _ _ h => h) (Or.inr ⟨by rfl, rfl⟩) (by assumption) ?_
          try simp only [Act.put, List.setIfInBounds_toArray, List.set_cons_zero, List.set_cons_succ]
          refine wpAnyL_take (i := 15) (v := Value.bool true) (some 89) rfl rfl (by kernel_rfl) (by kernel_rfl) (by kernel_rfl) (by kernel_rfl) (fun _ _ _ h => h) (Or.inl ⟨by rfl, ?_⟩) (by assumption) ?_
          · intro w hSw; (try dsimp only at hSw); go_simp
          try simp only [Act.put, List.setIfInBounds_toArray, List.set_cons_zero, List.set_cons_succ]
          refine wpAnyL_done (by kernel_rfl) ?_ _
          obtain ⟨w6, hw6⟩ : ∃ w6, w6 = w5.drew := ⟨_, rfl⟩
          rw [← hw6]
          have K6 : Hid (Kept w5 w6) := by show Kept w5 w6; rw [hw6]; exact HD.out
          clear hw6 HS0 HD
          have TB9 := hide (S0.out w6 (HX1.out w6 (HJ5.out.kept K6.out).below).2.1).2
          have HK9 := hide (HX1.out w6 (HJ5.out.kept K6.out).below).2.2.1
          obtain ⟨t0, t1, t2, t3, t4, f0, f1, f2, f3, f4⟩ := TB9.out
          have hz9 := TB9.out.lt
          go_wp2_with fail
          exact bodyPost_ret (v := .tuple #[.agg #[.int .i64 0, .int .i64 0, .int .i64 0, .int .i64 0, .slice none 0 0], .int .i64 250]) (by simp [results, Tryz.results32, go_sem, t0, t1, t2, t3, t4]) rfl (join_err (by omega) TB9.out HK9.out)
        obtain ⟨n, hn⟩ : ∃ n : Nat, (n : Int) = nT g t.T := ⟨(nT g t.T).toNat, Int.toNat_of_nonneg (at_bnd HB.out (x := t.T.x) (y := t.T.y) (by simp [inG]; omega)).1⟩
        have r9 : n < N := by
          have h9 : nT g t.T < gridA g * gridD g := (at_bnd HB.out (x := t.T.x) (y := t.T.y) (by simp [inG]; omega)).2
          have := HND.out
          omega
        have CA8 : Hid (∀ W, Calls Tryz.prog 21 #[.agg #[.bool g.re.neg, .string g.re.n, .int .i64 g.re.e, .bool g.im.neg, .string g.im.n, .int .i64 g.im.e, .int .i64 g.exp, .int .i64 g.across, .int .i64 g.down, .int .i64 g.wide, .int .i64 g.high], .int .i64 t.T.x, .int .i64 t.T.y] W fun e w' => e = .returned (.tuple #[.int .i64 (n : Int), .int .i64 0]) ∧ Kept W w') := fun W => (CA9.out W).mono (by
          rintro e w' ⟨h1, h2⟩
          rw [if_pos HI.out, if_pos ⟨hxy.1, hxy.2, hin.1, hin.2⟩] at h1
          rw [hn]
          exact ⟨h1, h2⟩)
        have CRC9 := hide (fun W => rect_any g n W HB.out (by omega) (by omega))
        by_cases hrq : rectX g n = t.T.x ∧ rectY g n = t.T.y ∧ rectW g n = t.T.a ∧ rectH g n = t.T.d
        rotate_left
        · have hbad : goodJ g (L.take k) t.T = false := by rw [goodJ, fitJ, decide_eq_false (fun h => hrq (by rw [hn]; exact h.2.2)), Bool.and_false, Bool.false_and]
          obtain rfl : E = 250 := HE250.out (by rw [HST.out, hbad, Bool.false_and])
          have hre : ∀ W, (Op.equalIn 10000 38 (.agg #[.int .i64 (rectX g n), .int .i64 (rectY g n), .int .i64 (rectW g n), .int .i64 (rectH g n)]) (.agg #[.int .i64 t.T.x, .int .i64 t.T.y, .int .i64 t.T.a, .int .i64 t.T.d])).run Tryz.prog W = .ok false W := fun W => by rw [rect_cmp, decide_eq_false hrq]
          clear hBt CA9 v1 v2 v3 v4 v5 v6 v7 hxy hin hn hrq hbad
          go_wp2_with fail
          refine (CRT9.out _).mono ?_
          rintro e w4 ⟨rfl, hk4⟩
          have HT4 := hide (HT3.out.kept hk4)
          have HJ4 := hide (HJ3.out.kept hk4)
          clear l0 l1 l2 l3 l4 hk4 hl3
          obtain ⟨l0, l1, l2, l3, l4⟩ := HT4.out
          have hl4 := HT4.out.lt
          obtain ⟨⟨q0, q1, q2, q3, q4, q5, q6, q7, q8, q9, q10⟩, -⟩ := S0.out w4 (HX1.out w4 HJ4.out.below).2.1
          go_wp2_with fail
          refine (CA8.out _).mono ?_
          rintro e w5 ⟨rfl, hk5⟩
          have HT5 := hide (HT4.out.kept hk5)
          have HJ5 := hide (HJ4.out.kept hk5)
          clear l0 l1 l2 l3 l4 hl4 hk5 q0 q1 q2 q3 q4 q5 q6 q7 q8 q9 q10
          go_upto_region 15 with fail
          have HS : Hid (∀ W, Kept w5 W → ((W.cell? ⟨w.heap.size, 0, none⟩ = some (.bool g.re.neg) ∧ W.cell? ⟨w.heap.size, 1, none⟩ = some (.string g.re.n) ∧ W.cell? ⟨w.heap.size, 2, none⟩ = some (.int .i64 g.re.e) ∧ W.cell? ⟨w.heap.size, 3, none⟩ = some (.bool g.im.neg) ∧ W.cell? ⟨w.heap.size, 4, none⟩ = some (.string g.im.n) ∧ W.cell? ⟨w.heap.size, 5, none⟩ = some (.int .i64 g.im.e) ∧ W.cell? ⟨w.heap.size, 6, none⟩ = some (.int .i64 g.exp) ∧ W.cell? ⟨w.heap.size, 7, none⟩ = some (.int .i64 g.across) ∧ W.cell? ⟨w.heap.size, 8, none⟩ = some (.int .i64 g.down) ∧ W.cell? ⟨w.heap.size, 9, none⟩ = some (.int .i64 g.wide) ∧ W.cell? ⟨w.heap.size, 10, none⟩ = some (.int .i64 g.high)) ∧ W.cell? ⟨wo.heap.size, 0, none⟩ = some (.int .i64 t.T.x) ∧ W.cell? ⟨wo.heap.size, 1, none⟩ = some (.int .i64 t.T.y) ∧ W.cell? ⟨wo.heap.size, 2, none⟩ = some (.int .i64 t.T.a) ∧ W.cell? ⟨wo.heap.size, 3, none⟩ = some (.int .i64 t.T.d))) := fun W hW => by
            have hT := HT5.out.kept hW
            have hJ := HJ5.out.kept hW
            have hG := (S0.out W (HX1.out W hJ.below).2.1).1
            exact ⟨hG, hT.t0, hT.t1, hT.t2, hT.t3⟩
          have HD : Hid (Kept w5 w5.drew) := (Below.refl _ _).drew
          have HS0 := hide (HS.out _ HD.out)
          refine wp_region_L (fun W => (W.cell? ⟨w.heap.size, 0, none⟩ = some (.bool g.re.neg) ∧ W.cell? ⟨w.heap.size, 1, none⟩ = some (.string g.re.n) ∧ W.cell? ⟨w.heap.size, 2, none⟩ = some (.int .i64 g.re.e) ∧ W.cell? ⟨w.heap.size, 3, none⟩ = some (.bool g.im.neg) ∧ W.cell? ⟨w.heap.size, 4, none⟩ = some (.string g.im.n) ∧ W.cell? ⟨w.heap.size, 5, none⟩ = some (.int .i64 g.im.e) ∧ W.cell? ⟨w.heap.size, 6, none⟩ = some (.int .i64 g.exp) ∧ W.cell? ⟨w.heap.size, 7, none⟩ = some (.int .i64 g.across) ∧ W.cell? ⟨w.heap.size, 8, none⟩ = some (.int .i64 g.down) ∧ W.cell? ⟨w.heap.size, 9, none⟩ = some (.int .i64 g.wide) ∧ W.cell? ⟨w.heap.size, 10, none⟩ = some (.int .i64 g.high)) ∧ W.cell? ⟨wo.heap.size, 0, none⟩ = some (.int .i64 t.T.x) ∧ W.cell? ⟨wo.heap.size, 1, none⟩ = some (.int .i64 t.T.y) ∧ W.cell? ⟨wo.heap.size, 2, none⟩ = some (.int .i64 t.T.a) ∧ W.cell? ⟨wo.heap.size, 3, none⟩ = some (.int .i64 t.T.d)) 999 (by kernel_rfl) ?_ (fun hHeld => ?_)
          · first | exact HS0.out | assumption
          refine wpAnyL_take (i := 0) (v := ?_) (some 74) rfl rfl (by kernel_rfl) (by kernel_rfl) (by kernel_rfl) (by kernel_rfl) (fun _ _ _ h => h) (Or.inl ⟨by rfl, ?_⟩) (by assumption) ?_
          rotate_left
          · intro w hSw; (try dsimp only at hSw); go_simp; (try with_reducible rfl)
          try simp only [Act.put, List.setIfInBounds_toArray, List.set_cons_zero, List.set_cons_succ]
          refine wpAnyL_take (i := 1) (v := Value.bool false) (some 75) rfl rfl (by kernel_rfl) (by kernel_rfl) (by kernel_rfl) (by kernel_rfl) (fun _ _ _ h => h) (Or.inl ⟨by rfl, ?_⟩) (by assumption) ?_
          · intro w hSw; (try dsimp only at hSw); go_simp
          try simp only [Act.put, List.setIfInBounds_toArray, List.set_cons_zero, List.set_cons_succ]
          refine wpAnyL_take (i := 2) (v := Value.bool false) (some 76) rfl rfl (by kernel_rfl) (by kernel_rfl) (by kernel_rfl) (by kernel_rfl) (fun _ _ _ h => h) (Or.inl ⟨by rfl, ?_⟩) (by assumption) ?_
          · intro w hSw; (try dsimp only at hSw); go_simp
          try simp only [Act.put, List.setIfInBounds_toArray, List.set_cons_zero, List.set_cons_succ]
          refine wpAnyL_take (i := 3) (v := ?_) (some 77) rfl rfl (by kernel_rfl) (by kernel_rfl) (by kernel_rfl) (by kernel_rfl) (fun _ _ _ h => h) (Or.inl ⟨by rfl, ?_⟩) (by assumption) ?_
          rotate_left
          · intro w hSw; (try dsimp only at hSw); go_simp; (try with_reducible rfl)
          try simp only [Act.put, List.setIfInBounds_toArray, List.set_cons_zero, List.set_cons_succ]
          refine wpAnyL_take (i := 4) (v := ?_) (some 78) rfl rfl (by kernel_rfl) (by kernel_rfl) (by kernel_rfl) (by kernel_rfl) (fun _ _ _ h => h) (Or.inl ⟨by rfl, ?_⟩) (by assumption) ?_
          rotate_left
          · intro w hSw; (try dsimp only at hSw); go_simp; (try with_reducible rfl)
          try simp only [Act.put, List.setIfInBounds_toArray, List.set_cons_zero, List.set_cons_succ]
          refine wpAnyL_take (i := 6) (v := ?_) (some 80) rfl rfl (by kernel_rfl) (by kernel_rfl) (by kernel_rfl) (by kernel_rfl) (fun _ _ _ h => h) (Or.inl ⟨by rfl, ?_⟩) (by assumption) ?_
          rotate_left
          · intro w hSw; (try dsimp only at hSw); go_simp; (try with_reducible rfl)
          try simp only [Act.put, List.setIfInBounds_toArray, List.set_cons_zero, List.set_cons_succ]
          refine wpAnyL_take (i := 7) (v := ?_) (some 81) rfl rfl (by kernel_rfl) (by kernel_rfl) (by kernel_rfl) (by kernel_rfl) (fun _ _ _ h => h) (Or.inl ⟨by rfl, ?_⟩) (by assumption) ?_
          rotate_left
          · intro w hSw; (try dsimp only at hSw); go_simp; (try with_reducible rfl)
          try simp only [Act.put, List.setIfInBounds_toArray, List.set_cons_zero, List.set_cons_succ]
          refine wpAnyL_one (i := 5) (by kernel_rfl) rfl (fun K hK => ?_)
          go_simp
          (refine (CRC9.out _).mono ?_; rintro e w6 ⟨rfl, hk6⟩; have K6 := hide (HD.out.trans' hk6); have hS6 := HS.out w6 K6.out; clear hk6)
          refine hK.out _ _ ?_ (fun hHeld => ?_)
          · first | exact HS0.out | assumption
          clear hK K
          try simp only [Act.put, List.setIfInBounds_toArray, List.set_cons_zero, List.set_cons_succ]
          refine wpAnyL_take (i := 8) (v := Value.bool true) (some 82) rfl rfl (by kernel_rfl) (by kernel_rfl) (by kernel_rfl) (by kernel_rfl) (fun _ _ _ h => h) (Or.inl ⟨by rfl, ?_⟩) (by assumption) ?_
          · intro w hSw; (try dsimp only at hSw); go_simp
          try simp only [Act.put, List.setIfInBounds_toArray, List.set_cons_zero, List.set_cons_succ]
          refine wpAnyL_take (i := 9) (v := Value.bool true) (some 83) rfl rfl (by kernel_rfl) (by kernel_rfl) (by kernel_rfl) (by kernel_rfl) (fun _ _ _ h => h) (Or.inl ⟨by rfl, ?_⟩) (by assumption) ?_
          · intro w hSw; (try dsimp only at hSw); go_simp
          try simp only [Act.put, List.setIfInBounds_toArray, List.set_cons_zero, List.set_cons_succ]
          refine wpAnyL_take (i := 10) (v := Value.bool true) (some 84) rfl rfl (by kernel_rfl) (by kernel_rfl) (by kernel_rfl) (by kernel_rfl) (fun _ _ _ h => h) (Or.inl ⟨by rfl, ?_⟩) (by assumption) ?_
          · intro w hSw; (try dsimp only at hSw); go_simp
          try simp only [Act.put, List.setIfInBounds_toArray, List.set_cons_zero, List.set_cons_succ]
          refine wpAnyL_take (i := 11) (v := undef) (some 85) rfl rfl (by kernel_rfl) (by kernel_rfl) (by kernel_rfl) (by kernel_rfl) (fun _ _ _ h => h) (Or.inr ⟨by rfl, rfl⟩) (by assumption) ?_
          try simp only [Act.put, List.setIfInBounds_toArray, List.set_cons_zero, List.set_cons_succ]
          refine wpAnyL_take (i := 12) (v := undef) (some 86) rfl rfl (by kernel_rfl) (by kernel_rfl) (by kernel_rfl) (by kernel_rfl) (fun _ _ _ h => h) (Or.inr ⟨by rfl, rfl⟩) (by assumption) ?_
          try simp only [Act.put, List.setIfInBounds_toArray, List.set_cons_zero, List.set_cons_succ]
          refine wpAnyL_take (i := 13) (v := undef) (some 87) rfl rfl (by kernel_rfl) (by kernel_rfl) (by kernel_rfl) (by kernel_rfl) (fun _ _ _ h => h) (Or.inr ⟨by rfl, rfl⟩) (by assumption) ?_
          try simp only [Act.put, List.setIfInBounds_toArray, List.set_cons_zero, List.set_cons_succ]
          refine wpAnyL_take (i := 14) (v := undef) (some 88) rfl rfl (by kernel_rfl) (by kernel_rfl) (by kernel_rfl) (by kernel_rfl) (fun _ _ _ h => h) (Or.inr ⟨by rfl, rfl⟩) (by assumption) ?_
          try simp only [Act.put, List.setIfInBounds_toArray, List.set_cons_zero, List.set_cons_succ]
          refine wpAnyL_take (i := 15) (v := Value.bool true) (some 89) rfl rfl (by kernel_rfl) (by kernel_rfl) (by kernel_rfl) (by kernel_rfl) (fun _ _ _ h => h) (Or.inl ⟨by rfl, ?_⟩) (by assumption) ?_
          · intro w hSw; (try dsimp only at hSw); go_simp
          try simp only [Act.put, List.setIfInBounds_toArray, List.set_cons_zero, List.set_cons_succ]
          refine wpAnyL_done (by kernel_rfl) ?_ _
          clear hS6
          have TB9 := hide (S0.out w6 (HX1.out w6 (HJ5.out.kept K6.out).below).2.1).2
          have HK9 := hide (HX1.out w6 (HJ5.out.kept K6.out).below).2.2.1
          obtain ⟨t0, t1, t2, t3, t4, f0, f1, f2, f3, f4⟩ := TB9.out
          have hz9 := TB9.out.lt
          go_wp2_with fail
          exact bodyPost_ret (v := .tuple #[.agg #[.int .i64 0, .int .i64 0, .int .i64 0, .int .i64 0, .slice none 0 0], .int .i64 250]) (by simp [results, Tryz.results32, go_sem, t0, t1, t2, t3, t4]) rfl (join_err (by omega) TB9.out HK9.out)
        have hre : ∀ W, (Op.equalIn 10000 38 (.agg #[.int .i64 (rectX g n), .int .i64 (rectY g n), .int .i64 (rectW g n), .int .i64 (rectH g n)]) (.agg #[.int .i64 t.T.x, .int .i64 t.T.y, .int .i64 t.T.a, .int .i64 t.T.d])).run Tryz.prog W = .ok true W := fun W => by rw [rect_cmp, decide_eq_true hrq]
        have hfit : fitJ g t.T = true := by rw [fitJ, HLen.out, hBt, ← hn, decide_eq_true ⟨hin.1, hin.2, hrq⟩]; rfl
        cases hmt : metJ g (L.take k) n with
        | true =>
          have hbad : goodJ g (L.take k) t.T = false := by rw [goodJ, ← hn, hmt]; simp
          obtain rfl : E = 250 := HE250.out (by rw [HST.out, hbad, Bool.false_and])
          have r9' : (n : Int) < gridA g * gridD g := by omega
          have HMT := hide hmt
          clear hBt CA9 v1 v2 v3 v4 v5 v6 v7 hxy hin hn hrq hfit hmt hbad
          go_wp2_with fail
          refine (CRT9.out _).mono ?_
          rintro e w4 ⟨rfl, hk4⟩
          have HT4 := hide (HT3.out.kept hk4)
          have HJ4 := hide (HJ3.out.kept hk4)
          clear l0 l1 l2 l3 l4 hk4 hl3
          obtain ⟨l0, l1, l2, l3, l4⟩ := HT4.out
          have hl4 := HT4.out.lt
          obtain ⟨⟨q0, q1, q2, q3, q4, q5, q6, q7, q8, q9, q10⟩, -⟩ := S0.out w4 (HX1.out w4 HJ4.out.below).2.1
          go_wp2_with fail
          refine (CA8.out _).mono ?_
          rintro e w5 ⟨rfl, hk5⟩
          have HT5 := hide (HT4.out.kept hk5)
          have HJ5 := hide (HJ4.out.kept hk5)
          clear l0 l1 l2 l3 l4 hl4 hk5 q0 q1 q2 q3 q4 q5 q6 q7 q8 q9 q10
          go_upto_region 15 with fail
          have HS : Hid (∀ W, Kept w5 W → ((W.cell? ⟨w.heap.size, 0, none⟩ = some (.bool g.re.neg) ∧ W.cell? ⟨w.heap.size, 1, none⟩ = some (.string g.re.n) ∧ W.cell? ⟨w.heap.size, 2, none⟩ = some (.int .i64 g.re.e) ∧ W.cell? ⟨w.heap.size, 3, none⟩ = some (.bool g.im.neg) ∧ W.cell? ⟨w.heap.size, 4, none⟩ = some (.string g.im.n) ∧ W.cell? ⟨w.heap.size, 5, none⟩ = some (.int .i64 g.im.e) ∧ W.cell? ⟨w.heap.size, 6, none⟩ = some (.int .i64 g.exp) ∧ W.cell? ⟨w.heap.size, 7, none⟩ = some (.int .i64 g.across) ∧ W.cell? ⟨w.heap.size, 8, none⟩ = some (.int .i64 g.down) ∧ W.cell? ⟨w.heap.size, 9, none⟩ = some (.int .i64 g.wide) ∧ W.cell? ⟨w.heap.size, 10, none⟩ = some (.int .i64 g.high)) ∧ W.cell? ⟨wo.heap.size, 0, none⟩ = some (.int .i64 t.T.x) ∧ W.cell? ⟨wo.heap.size, 1, none⟩ = some (.int .i64 t.T.y) ∧ W.cell? ⟨wo.heap.size, 2, none⟩ = some (.int .i64 t.T.a) ∧ W.cell? ⟨wo.heap.size, 3, none⟩ = some (.int .i64 t.T.d) ∧ W.cell? ⟨mb, n, none⟩ = some (.bool true))) := fun W hW => by
            have hT := HT5.out.kept hW
            have hJ := HJ5.out.kept hW
            have hG := (S0.out W (HX1.out W hJ.below).2.1).1
            exact ⟨hG, hT.t0, hT.t1, hT.t2, hT.t3, by rw [hJ.met n r9, HMT.out]⟩
          have HD : Hid (Kept w5 w5.drew) := (Below.refl _ _).drew
          have HS0 := hide (HS.out _ HD.out)
          refine wp_region_L (fun W => (W.cell? ⟨w.heap.size, 0, none⟩ = some (.bool g.re.neg) ∧ W.cell? ⟨w.heap.size, 1, none⟩ = some (.string g.re.n) ∧ W.cell? ⟨w.heap.size, 2, none⟩ = some (.int .i64 g.re.e) ∧ W.cell? ⟨w.heap.size, 3, none⟩ = some (.bool g.im.neg) ∧ W.cell? ⟨w.heap.size, 4, none⟩ = some (.string g.im.n) ∧ W.cell? ⟨w.heap.size, 5, none⟩ = some (.int .i64 g.im.e) ∧ W.cell? ⟨w.heap.size, 6, none⟩ = some (.int .i64 g.exp) ∧ W.cell? ⟨w.heap.size, 7, none⟩ = some (.int .i64 g.across) ∧ W.cell? ⟨w.heap.size, 8, none⟩ = some (.int .i64 g.down) ∧ W.cell? ⟨w.heap.size, 9, none⟩ = some (.int .i64 g.wide) ∧ W.cell? ⟨w.heap.size, 10, none⟩ = some (.int .i64 g.high)) ∧ W.cell? ⟨wo.heap.size, 0, none⟩ = some (.int .i64 t.T.x) ∧ W.cell? ⟨wo.heap.size, 1, none⟩ = some (.int .i64 t.T.y) ∧ W.cell? ⟨wo.heap.size, 2, none⟩ = some (.int .i64 t.T.a) ∧ W.cell? ⟨wo.heap.size, 3, none⟩ = some (.int .i64 t.T.d) ∧ W.cell? ⟨mb, n, none⟩ = some (.bool true)) 999 (by kernel_rfl) ?_ (fun hHeld => ?_)
          · first | exact HS0.out | assumption
          refine wpAnyL_take (i := 0) (v := ?_) (some 74) rfl rfl (by kernel_rfl) (by kernel_rfl) (by kernel_rfl) (by kernel_rfl) (fun _ _ _ h => h) (Or.inl ⟨by rfl, ?_⟩) (by assumption) ?_
          rotate_left
          · intro w hSw; (try dsimp only at hSw); go_simp; (try with_reducible rfl)
          try simp only [Act.put, List.setIfInBounds_toArray, List.set_cons_zero, List.set_cons_succ]
          refine wpAnyL_take (i := 1) (v := Value.bool false) (some 75) rfl rfl (by kernel_rfl) (by kernel_rfl) (by kernel_rfl) (by kernel_rfl) (fun _ _ _ h => h) (Or.inl ⟨by rfl, ?_⟩) (by assumption) ?_
          · intro w hSw; (try dsimp only at hSw); go_simp
          try simp only [Act.put, List.setIfInBounds_toArray, List.set_cons_zero, List.set_cons_succ]
          refine wpAnyL_take (i := 2) (v := Value.bool false) (some 76) rfl rfl (by kernel_rfl) (by kernel_rfl) (by kernel_rfl) (by kernel_rfl) (fun _ _ _ h => h) (Or.inl ⟨by rfl, ?_⟩) (by assumption) ?_
          · intro w hSw; (try dsimp only at hSw); go_simp
          try simp only [Act.put, List.setIfInBounds_toArray, List.set_cons_zero, List.set_cons_succ]
          refine wpAnyL_take (i := 3) (v := ?_) (some 77) rfl rfl (by kernel_rfl) (by kernel_rfl) (by kernel_rfl) (by kernel_rfl) (fun _ _ _ h => h) (Or.inl ⟨by rfl, ?_⟩) (by assumption) ?_
          rotate_left
          · intro w hSw; (try dsimp only at hSw); go_simp; (try with_reducible rfl)
          try simp only [Act.put, List.setIfInBounds_toArray, List.set_cons_zero, List.set_cons_succ]
          refine wpAnyL_take (i := 4) (v := ?_) (some 78) rfl rfl (by kernel_rfl) (by kernel_rfl) (by kernel_rfl) (by kernel_rfl) (fun _ _ _ h => h) (Or.inl ⟨by rfl, ?_⟩) (by assumption) ?_
          rotate_left
          · intro w hSw; (try dsimp only at hSw); go_simp; (try with_reducible rfl)
          try simp only [Act.put, List.setIfInBounds_toArray, List.set_cons_zero, List.set_cons_succ]
          refine wpAnyL_take (i := 6) (v := ?_) (some 80) rfl rfl (by kernel_rfl) (by kernel_rfl) (by kernel_rfl) (by kernel_rfl) (fun _ _ _ h => h) (Or.inl ⟨by rfl, ?_⟩) (by assumption) ?_
          rotate_left
          · intro w hSw; (try dsimp only at hSw); go_simp; (try with_reducible rfl)
          try simp only [Act.put, List.setIfInBounds_toArray, List.set_cons_zero, List.set_cons_succ]
          refine wpAnyL_take (i := 7) (v := ?_) (some 81) rfl rfl (by kernel_rfl) (by kernel_rfl) (by kernel_rfl) (by kernel_rfl) (fun _ _ _ h => h) (Or.inl ⟨by rfl, ?_⟩) (by assumption) ?_
          rotate_left
          · intro w hSw; (try dsimp only at hSw); go_simp; (try with_reducible rfl)
          try simp only [Act.put, List.setIfInBounds_toArray, List.set_cons_zero, List.set_cons_succ]
          refine wpAnyL_one (i := 5) (by kernel_rfl) rfl (fun K hK => ?_)
          go_simp
          (refine (CRC9.out _).mono ?_; rintro e w6 ⟨rfl, hk6⟩; have K6 := hide (HD.out.trans' hk6); have hS6 := HS.out w6 K6.out; clear hk6)
          refine hK.out _ _ ?_ (fun hHeld => ?_)
          · first | exact HS0.out | assumption
          clear hK K
          try simp only [Act.put, List.setIfInBounds_toArray, List.set_cons_zero, List.set_cons_succ]
          refine wpAnyL_take (i := 8) (v := Value.bool false) (some 82) rfl rfl (by kernel_rfl) (by kernel_rfl) (by kernel_rfl) (by kernel_rfl) (fun _ _ _ h => h) (Or.inl ⟨by rfl, ?_⟩) (by assumption) ?_
          · intro w hSw; (try dsimp only at hSw); go_simp
          try simp only [Act.put, List.setIfInBounds_toArray, List.set_cons_zero, List.set_cons_succ]
          refine wpAnyL_take (i := 9) (v := Value.bool false) (some 83) rfl rfl (by kernel_rfl) (by kernel_rfl) (by kernel_rfl) (by kernel_rfl) (fun _ _ _ h => h) (Or.inl ⟨by rfl, ?_⟩) (by assumption) ?_
          · intro w hSw; (try dsimp only at hSw); go_simp
          try simp only [Act.put, List.setIfInBounds_toArray, List.set_cons_zero, List.set_cons_succ]
          refine wpAnyL_take (i := 10) (v := Value.bool false) (some 84) rfl rfl (by kernel_rfl) (by kernel_rfl) (by kernel_rfl) (by kernel_rfl) (fun _ _ _ h => h) (Or.inl ⟨by rfl, ?_⟩) (by assumption) ?_
          · intro w hSw; (try dsimp only at hSw); go_simp
          try simp only [Act.put, List.setIfInBounds_toArray, List.set_cons_zero, List.set_cons_succ]
          refine wpAnyL_take (i := 11) (v := ?_) (some 85) rfl rfl (by kernel_rfl) (by kernel_rfl) (by kernel_rfl) (by kernel_rfl) (fun _ _ _ h => h) (Or.inl ⟨by rfl, ?_⟩) (by assumption) ?_
          rotate_left
          · intro w hSw; (try dsimp only at hSw); go_simp; (try with_reducible rfl)
          try simp only [Act.put, List.setIfInBounds_toArray, List.set_cons_zero, List.set_cons_succ]
          refine wpAnyL_take (i := 12) (v := ?_) (some 86) rfl rfl (by kernel_rfl) (by kernel_rfl) (by kernel_rfl) (by kernel_rfl) (fun _ _ _ h => h) (Or.inl ⟨by rfl, ?_⟩) (by assumption) ?_
          rotate_left
          · intro w hSw; (try dsimp only at hSw); go_simp; (try with_reducible rfl)
          try simp only [Act.put, List.setIfInBounds_toArray, List.set_cons_zero, List.set_cons_succ]
          refine wpAnyL_take (i := 13) (v := ?_) (some 87) rfl rfl (by kernel_rfl) (by kernel_rfl) (by kernel_rfl) (by kernel_rfl) (fun _ _ _ h => h) (Or.inl ⟨by rfl, ?_⟩) (by assumption) ?_
          rotate_left
          · intro w hSw; (try dsimp only at hSw); go_simp; (try with_reducible rfl)
          try simp only [Act.put, List.setIfInBounds_toArray, List.set_cons_zero, List.set_cons_succ]
          refine wpAnyL_take (i := 14) (v := Value.bool true) (some 88) rfl rfl (by kernel_rfl) (by kernel_rfl) (by kernel_rfl) (by kernel_rfl) (fun _ _ _ h => h) (Or.inl ⟨by rfl, ?_⟩) (by assumption) ?_
          · intro w hSw; (try dsimp only at hSw); go_simp
          try simp only [Act.put, List.setIfInBounds_toArray, List.set_cons_zero, List.set_cons_succ]
          refine wpAnyL_take (i := 15) (v := Value.bool true) (some 89) rfl rfl (by kernel_rfl) (by kernel_rfl) (by kernel_rfl) (by kernel_rfl) (fun _ _ _ h => h) (Or.inl ⟨by rfl, ?_⟩) (by assumption) ?_
          · intro w hSw; (try dsimp only at hSw); go_simp
          try simp only [Act.put, List.setIfInBounds_toArray, List.set_cons_zero, List.set_cons_succ]
          refine wpAnyL_done (by kernel_rfl) ?_ _
          clear hS6
          have TB9 := hide (S0.out w6 (HX1.out w6 (HJ5.out.kept K6.out).below).2.1).2
          have HK9 := hide (HX1.out w6 (HJ5.out.kept K6.out).below).2.2.1
          obtain ⟨t0, t1, t2, t3, t4, f0, f1, f2, f3, f4⟩ := TB9.out
          have hz9 := TB9.out.lt
          go_wp2_with fail
          exact bodyPost_ret (v := .tuple #[.agg #[.int .i64 0, .int .i64 0, .int .i64 0, .int .i64 0, .slice none 0 0], .int .i64 250]) (by simp [results, Tryz.results32, go_sem, t0, t1, t2, t3, t4]) rfl (join_err (by omega) TB9.out HK9.out)
        | false =>
          have hgood : goodJ g (L.take k) t.T = true := by rw [goodJ, hfit, ← hn, hmt]; rfl
          have hlies := (fitJ_lies HB.out hfit).1
          have HP2 : Hid (PInv g (L.take (k + 1))) := by show PInv _ _; rw [HTK.out]; exact HP.out.step hgood
          have HJb2 : Hid (joinB g (L.take (k + 1)) (L.drop (k + 1)) = JB) := by show _ = _; rw [HST.out, hgood, Bool.true_and]
          have HFULL : Hid (partC g (L.take k) t.T (t.T.a * t.T.d) = baseC g (L.take (k + 1))) := by show _ = _; rw [HTK.out]; exact partC_full (join_no HB.out HP.out hgood)
          have HZERO : Hid (partC g (L.take k) t.T (((0 : Nat) : Int) * t.T.a) = baseC g (L.take k)) := by show _ = _; rw [show ((0 : Nat) : Int) * t.T.a = 0 by simp]; exact partC_zero g _ _
          have HSP := hide (fun (j f : Nat) (j1 : (j : Int) < t.T.d) (hf : (f : Int) = (t.T.y + j) * g.across + t.T.x) => partC_row HB.out (L.take k) hlies j1 hf)
          have HMJ : Hid (∀ j : Nat, metJ g (L.take (k + 1)) j = (decide (j = n) || metJ g (L.take k) j)) := fun j => by
            rw [HTK.out]
            simp only [metJ, List.any_append, List.any_cons, List.any_nil, Bool.or_false, ← hn]
            rw [Bool.or_comm]
            congr 1
            rw [decide_eq_decide]; omega
          have H4 := hide v5
          obtain ⟨r3, r4, r5, r6, r1, r2, -⟩ := hlies
          have r8 : t.T.a * t.T.d ≤ 4194304 := by omega
          have r9' : (n : Int) < gridA g * gridD g := by omega
          have HMT := hide hmt
          clear hBt CA9 v1 v2 v3 v4 v5 v6 v7 hxy hin hn hrq hfit hmt hgood
          go_wp2_with fail
          refine (CRT9.out _).mono ?_
          rintro e w4 ⟨rfl, hk4⟩
          have HT4 := hide (HT3.out.kept hk4)
          have HJ4 := hide (HJ3.out.kept hk4)
          clear l0 l1 l2 l3 l4 hk4 hl3
          obtain ⟨l0, l1, l2, l3, l4⟩ := HT4.out
          have hl4 := HT4.out.lt
          obtain ⟨⟨q0, q1, q2, q3, q4, q5, q6, q7, q8, q9, q10⟩, -⟩ := S0.out w4 (HX1.out w4 HJ4.out.below).2.1
          go_wp2_with fail
          refine (CA8.out _).mono ?_
          rintro e w5 ⟨rfl, hk5⟩
          have HT5 := hide (HT4.out.kept hk5)
          have HJ5 := hide (HJ4.out.kept hk5)
          clear l0 l1 l2 l3 l4 hl4 hk5 q0 q1 q2 q3 q4 q5 q6 q7 q8 q9 q10
          go_upto_region 15 with fail
          have HS : Hid (∀ W, Kept w5 W → ((W.cell? ⟨w.heap.size, 0, none⟩ = some (.bool g.re.neg) ∧ W.cell? ⟨w.heap.size, 1, none⟩ = some (.string g.re.n) ∧ W.cell? ⟨w.heap.size, 2, none⟩ = some (.int .i64 g.re.e) ∧ W.cell? ⟨w.heap.size, 3, none⟩ = some (.bool g.im.neg) ∧ W.cell? ⟨w.heap.size, 4, none⟩ = some (.string g.im.n) ∧ W.cell? ⟨w.heap.size, 5, none⟩ = some (.int .i64 g.im.e) ∧ W.cell? ⟨w.heap.size, 6, none⟩ = some (.int .i64 g.exp) ∧ W.cell? ⟨w.heap.size, 7, none⟩ = some (.int .i64 g.across) ∧ W.cell? ⟨w.heap.size, 8, none⟩ = some (.int .i64 g.down) ∧ W.cell? ⟨w.heap.size, 9, none⟩ = some (.int .i64 g.wide) ∧ W.cell? ⟨w.heap.size, 10, none⟩ = some (.int .i64 g.high)) ∧ W.cell? ⟨wo.heap.size, 0, none⟩ = some (.int .i64 t.T.x) ∧ W.cell? ⟨wo.heap.size, 1, none⟩ = some (.int .i64 t.T.y) ∧ W.cell? ⟨wo.heap.size, 2, none⟩ = some (.int .i64 t.T.a) ∧ W.cell? ⟨wo.heap.size, 3, none⟩ = some (.int .i64 t.T.d) ∧ W.cell? ⟨mb, n, none⟩ = some (.bool false))) := fun W hW => by
            have hT := HT5.out.kept hW
            have hJ := HJ5.out.kept hW
            have hG := (S0.out W (HX1.out W hJ.below).2.1).1
            exact ⟨hG, hT.t0, hT.t1, hT.t2, hT.t3, by rw [hJ.met n r9, HMT.out]⟩
          have HD : Hid (Kept w5 w5.drew) := (Below.refl _ _).drew
          have HS0 := hide (HS.out _ HD.out)
          refine wp_region_L (fun W => (W.cell? ⟨w.heap.size, 0, none⟩ = some (.bool g.re.neg) ∧ W.cell? ⟨w.heap.size, 1, none⟩ = some (.string g.re.n) ∧ W.cell? ⟨w.heap.size, 2, none⟩ = some (.int .i64 g.re.e) ∧ W.cell? ⟨w.heap.size, 3, none⟩ = some (.bool g.im.neg) ∧ W.cell? ⟨w.heap.size, 4, none⟩ = some (.string g.im.n) ∧ W.cell? ⟨w.heap.size, 5, none⟩ = some (.int .i64 g.im.e) ∧ W.cell? ⟨w.heap.size, 6, none⟩ = some (.int .i64 g.exp) ∧ W.cell? ⟨w.heap.size, 7, none⟩ = some (.int .i64 g.across) ∧ W.cell? ⟨w.heap.size, 8, none⟩ = some (.int .i64 g.down) ∧ W.cell? ⟨w.heap.size, 9, none⟩ = some (.int .i64 g.wide) ∧ W.cell? ⟨w.heap.size, 10, none⟩ = some (.int .i64 g.high)) ∧ W.cell? ⟨wo.heap.size, 0, none⟩ = some (.int .i64 t.T.x) ∧ W.cell? ⟨wo.heap.size, 1, none⟩ = some (.int .i64 t.T.y) ∧ W.cell? ⟨wo.heap.size, 2, none⟩ = some (.int .i64 t.T.a) ∧ W.cell? ⟨wo.heap.size, 3, none⟩ = some (.int .i64 t.T.d) ∧ W.cell? ⟨mb, n, none⟩ = some (.bool false)) 999 (by kernel_rfl) ?_ (fun hHeld => ?_)
          · first | exact HS0.out | assumption
          refine wpAnyL_take (i := 0) (v := ?_) (some 74) rfl rfl (by kernel_rfl) (by kernel_rfl) (by kernel_rfl) (by kernel_rfl) (fun _ _ _ h => h) (Or.inl ⟨by rfl, ?_⟩) (by assumption) ?_
          rotate_left
          · intro w hSw; (try dsimp only at hSw); go_simp; (try with_reducible rfl)
          try simp only [Act.put, List.setIfInBounds_toArray, List.set_cons_zero, List.set_cons_succ]
          refine wpAnyL_take (i := 1) (v := Value.bool false) (some 75) rfl rfl (by kernel_rfl) (by kernel_rfl) (by kernel_rfl) (by kernel_rfl) (fun _ _ _ h => h) (Or.inl ⟨by rfl, ?_⟩) (by assumption) ?_
          · intro w hSw; (try dsimp only at hSw); go_simp
          try simp only [Act.put, List.setIfInBounds_toArray, List.set_cons_zero, List.set_cons_succ]
          refine wpAnyL_take (i := 2) (v := Value.bool false) (some 76) rfl rfl (by kernel_rfl) (by kernel_rfl) (by kernel_rfl) (by kernel_rfl) (fun _ _ _ h => h) (Or.inl ⟨by rfl, ?_⟩) (by assumption) ?_
          · intro w hSw; (try dsimp only at hSw); go_simp
          try simp only [Act.put, List.setIfInBounds_toArray, List.set_cons_zero, List.set_cons_succ]
          refine wpAnyL_take (i := 3) (v := ?_) (some 77) rfl rfl (by kernel_rfl) (by kernel_rfl) (by kernel_rfl) (by kernel_rfl) (fun _ _ _ h => h) (Or.inl ⟨by rfl, ?_⟩) (by assumption) ?_
          rotate_left
          · intro w hSw; (try dsimp only at hSw); go_simp; (try with_reducible rfl)
          try simp only [Act.put, List.setIfInBounds_toArray, List.set_cons_zero, List.set_cons_succ]
          refine wpAnyL_take (i := 4) (v := ?_) (some 78) rfl rfl (by kernel_rfl) (by kernel_rfl) (by kernel_rfl) (by kernel_rfl) (fun _ _ _ h => h) (Or.inl ⟨by rfl, ?_⟩) (by assumption) ?_
          rotate_left
          · intro w hSw; (try dsimp only at hSw); go_simp; (try with_reducible rfl)
          try simp only [Act.put, List.setIfInBounds_toArray, List.set_cons_zero, List.set_cons_succ]
          refine wpAnyL_take (i := 6) (v := ?_) (some 80) rfl rfl (by kernel_rfl) (by kernel_rfl) (by kernel_rfl) (by kernel_rfl) (fun _ _ _ h => h) (Or.inl ⟨by rfl, ?_⟩) (by assumption) ?_
          rotate_left
          · intro w hSw; (try dsimp only at hSw); go_simp; (try with_reducible rfl)
          try simp only [Act.put, List.setIfInBounds_toArray, List.set_cons_zero, List.set_cons_succ]
          refine wpAnyL_take (i := 7) (v := ?_) (some 81) rfl rfl (by kernel_rfl) (by kernel_rfl) (by kernel_rfl) (by kernel_rfl) (fun _ _ _ h => h) (Or.inl ⟨by rfl, ?_⟩) (by assumption) ?_
          rotate_left
          · intro w hSw; (try dsimp only at hSw); go_simp; (try with_reducible rfl)
          try simp only [Act.put, List.setIfInBounds_toArray, List.set_cons_zero, List.set_cons_succ]
          refine wpAnyL_one (i := 5) (by kernel_rfl) rfl (fun K hK => ?_)
          go_simp
          (refine (CRC9.out _).mono ?_; rintro e w6 ⟨rfl, hk6⟩; have K6 := hide (HD.out.trans' hk6); have hS6 := HS.out w6 K6.out; clear hk6)
          refine hK.out _ _ ?_ (fun hHeld => ?_)
          · first | exact HS0.out | assumption
          clear hK K
          try simp only [Act.put, List.setIfInBounds_toArray, List.set_cons_zero, List.set_cons_succ]
          refine wpAnyL_take (i := 8) (v := Value.bool false) (some 82) rfl rfl (by kernel_rfl) (by kernel_rfl) (by kernel_rfl) (by kernel_rfl) (fun _ _ _ h => h) (Or.inl ⟨by rfl, ?_⟩) (by assumption) ?_
          · intro w hSw; (try dsimp only at hSw); go_simp
          try simp only [Act.put, List.setIfInBounds_toArray, List.set_cons_zero, List.set_cons_succ]
          refine wpAnyL_take (i := 9) (v := Value.bool false) (some 83) rfl rfl (by kernel_rfl) (by kernel_rfl) (by kernel_rfl) (by kernel_rfl) (fun _ _ _ h => h) (Or.inl ⟨by rfl, ?_⟩) (by assumption) ?_
          · intro w hSw; (try dsimp only at hSw); go_simp
          try simp only [Act.put, List.setIfInBounds_toArray, List.set_cons_zero, List.set_cons_succ]
          refine wpAnyL_take (i := 10) (v := Value.bool false) (some 84) rfl rfl (by kernel_rfl) (by kernel_rfl) (by kernel_rfl) (by kernel_rfl) (fun _ _ _ h => h) (Or.inl ⟨by rfl, ?_⟩) (by assumption) ?_
          · intro w hSw; (try dsimp only at hSw); go_simp
          try simp only [Act.put, List.setIfInBounds_toArray, List.set_cons_zero, List.set_cons_succ]
          refine wpAnyL_take (i := 11) (v := ?_) (some 85) rfl rfl (by kernel_rfl) (by kernel_rfl) (by kernel_rfl) (by kernel_rfl) (fun _ _ _ h => h) (Or.inl ⟨by rfl, ?_⟩) (by assumption) ?_
          rotate_left
          · intro w hSw; (try dsimp only at hSw); go_simp; (try with_reducible rfl)
          try simp only [Act.put, List.setIfInBounds_toArray, List.set_cons_zero, List.set_cons_succ]
          refine wpAnyL_take (i := 12) (v := ?_) (some 86) rfl rfl (by kernel_rfl) (by kernel_rfl) (by kernel_rfl) (by kernel_rfl) (fun _ _ _ h => h) (Or.inl ⟨by rfl, ?_⟩) (by assumption) ?_
          rotate_left
          · intro w hSw; (try dsimp only at hSw); go_simp; (try with_reducible rfl)
          try simp only [Act.put, List.setIfInBounds_toArray, List.set_cons_zero, List.set_cons_succ]
          refine wpAnyL_take (i := 13) (v := ?_) (some 87) rfl rfl (by kernel_rfl) (by kernel_rfl) (by kernel_rfl) (by kernel_rfl) (fun _ _ _ h => h) (Or.inl ⟨by rfl, ?_⟩) (by assumption) ?_
          rotate_left
          · intro w hSw; (try dsimp only at hSw); go_simp; (try with_reducible rfl)
          try simp only [Act.put, List.setIfInBounds_toArray, List.set_cons_zero, List.set_cons_succ]
          refine wpAnyL_take (i := 14) (v := Value.bool false) (some 88) rfl rfl (by kernel_rfl) (by kernel_rfl) (by kernel_rfl) (by kernel_rfl) (fun _ _ _ h => h) (Or.inl ⟨by rfl, ?_⟩) (by assumption) ?_
          · intro w hSw; (try dsimp only at hSw); go_simp
          try simp only [Act.put, List.setIfInBounds_toArray, List.set_cons_zero, List.set_cons_succ]
          refine wpAnyL_take (i := 15) (v := Value.bool false) (some 89) rfl rfl (by kernel_rfl) (by kernel_rfl) (by kernel_rfl) (by kernel_rfl) (fun _ _ _ h => h) (Or.inl ⟨by rfl, ?_⟩) (by assumption) ?_
          · intro w hSw; (try dsimp only at hSw); go_simp
          try simp only [Act.put, List.setIfInBounds_toArray, List.set_cons_zero, List.set_cons_succ]
          refine wpAnyL_done (by kernel_rfl) ?_ _
          clear hS6
          have HTc := hide (HT5.out.kept K6.out)
          have HJc := hide (HJ5.out.kept K6.out)
          have mt := HJc.out.met n r9
          rw [HMT.out] at mt
          have mf := HJc.out.free n
          have hmw : mb < wo.heap.size := by have h9 := HPW.out; omega
          obtain ⟨W6, hW6⟩ : ∃ W6, W6 = w6.setCell ⟨mb, n, none⟩ (.bool true) := ⟨_, rfl⟩
          have HJ6 : Hid (JG X1 W6 mb p q N M g.across g.down (fun j => metJ g (L.take (k + 1)) j) (baseC g (L.take k)) 69) := by show JG _ _ _ _ _ _ _ _ _ _ _ _; rw [hW6]; exact (HJc.out.meet r9).met' (fun j _ => HMJ.out j)
          have HT6 : Hid (LBox W6 wo.heap.size t.T.x t.T.y t.T.a t.T.d t.A t.n t.c) := by
            show LBox _ _ _ _ _ _ _ _ _
            rw [hW6]
            exact HTc.out.far fun o => World.cell?_setCell_other _ _ _ _ (fun e => by cases e; omega)
          clear HJ
          go_upto_region 18 with fail
          rw [← hW6]
          clear hW6 mt mf HT3 HT4 HT5 HTc HJ3 HJ4 HJ5 HJc
          obtain ⟨l0, l1, l2, l3, l4⟩ := HT6.out
          have hl6 := HT6.out.lt
          go_wp2_with fail
          clear l0 l1 l2 l3 l4 hl6
          go_loopg [97] t.T.d.toNat (fun gh ix wy => ∃ j : Nat, j + gh = t.T.d.toNat ∧ ix = .int .i64 j ∧ JG X1 wy mb p q N M g.across g.down (fun j => metJ g (L.take (k + 1)) j) (partC g (L.take k) t.T ((j : Int) * t.T.a)) 69 ∧ LBox wy wo.heap.size t.T.x t.T.y t.T.a t.T.d t.A t.n t.c)
          case atStart => exact ⟨0, by omega, rfl, by have h9 := HJ6.out; rwa [← HZERO.out] at h9, HT6.out⟩
          case round =>
            clear HJ6 HT6
            obtain ⟨j, hjg, rfl, hJ, hT⟩ := hrel
            cases gk with
            | zero =>
              have hge : ¬ (j : Int) < t.T.d := by omega
              have hjV : (j : Int) = t.T.d := by omega
              have HJ9 : Hid (JG X1 wr mb p q N M g.across g.down (fun j => metJ g (L.take (k + 1)) j) (baseC g (L.take (k + 1))) 69) := by
                show JG _ _ _ _ _ _ _ _ _ _ _ _
                rw [show (j : Int) * t.T.a = t.T.a * t.T.d by rw [hjV, Int.mul_comm], HFULL.out] at hJ
                exact hJ
              clear hJ hT hjV
              go_wp2_with fail
              go_roundg g2
              case measure => omega
              case rel => exact ⟨k + 1, by omega, by go_num, HJ9.out, HP2.out, HJb2.out⟩
            | succ g3 =>
              have hjV : (j : Int) < t.T.d := by omega
              have s1 : 0 ≤ (t.T.y + j) * g.across := Int.mul_nonneg (by omega) (by omega)
              have s2 : (t.T.y + j) * g.across + g.across ≤ M := by
                have h9 : (t.T.y + j + 1) * g.across ≤ g.down * g.across := Int.mul_le_mul_of_nonneg_right (by omega) (by omega)
                rw [Int.add_mul (t.T.y + j), Int.one_mul, Int.mul_comm g.down] at h9
                have := HMI.out
                omega
              have s3 : 0 ≤ (j : Int) * t.T.a := Int.mul_nonneg (by omega) (by omega)
              have s4 : (j : Int) * t.T.a + t.T.a ≤ t.n := by
                have h9 : ((j : Int) + 1) * t.T.a ≤ t.T.d * t.T.a := Int.mul_le_mul_of_nonneg_right (by omega) (by omega)
                rw [Int.add_mul, Int.one_mul, Int.mul_comm t.T.d, ← H4.out] at h9
                exact h9
              obtain ⟨f, hf⟩ : ∃ f : Nat, (f : Int) = (t.T.y + j) * g.across + t.T.x := ⟨((t.T.y + j) * g.across + t.T.x).toNat, Int.toNat_of_nonneg (by omega)⟩
              have hfM : (f : Int) + t.T.a ≤ M := by omega
              have HS := hide (HSP.out j f hjV hf)
              have HKT : Hid (Kept w wr) := (HX1.out wr hJ.below).2.2.1
              obtain ⟨l0, l1, l2, l3, l4⟩ := id hT
              have hlt9 := hT.lt
              have hb9 := (HX1.out wr hJ.below).2.2.2
              obtain ⟨-, -, -, -, -, -, -, c7, c8⟩ := hb9
              have o4 := hJ.q4
              have HJ9 := hide hJ
              have HT9 := hide hT
              have HF := hide hf
              clear hJ hT hf
              go_upto_region 22 with fail
              rw [← HF.out]
              clear s1 s2 c7 c8 l0 l1 l3
              have s5 : (t.n : Int) ≤ 4194304 := by have := H4.out; omega
              have u1 : IntKind.i64.wrap ((f : Int) + t.T.a) = f + t.T.a := IntWalk.i64_in _ (by omega)
              have u2 : IntKind.i64.wrap ((j : Int) * t.T.a) = j * t.T.a := IntWalk.i64_in _ (by omega)
              have v1 : (f : Int) ≤ f + t.T.a := by omega
              have v2 : ¬ M = f := by omega
              have v3 : ¬ t.c = ((j : Int) * t.T.a).toNat := by have := HCap.out; omega
              have v4 : (j : Int) * t.T.a ≤ (t.n : Int) := by omega
              have v5 : (t.n : Int) ≤ (t.c : Int) := by have := HCap.out; omega
              have v6 : 0 ≤ (f : Int) + t.T.a := by omega
              go_still_tail 17, (by kernel_rfl)
              change wpList _ _ _ _ _ wr.drew
              obtain ⟨D, hD⟩ : ∃ D, D = (t.T.c.drop ((j : Int) * t.T.a).toNat).take t.T.a.toNat := ⟨_, rfl⟩
              have hDl : D.length = t.T.a.toNat := by rw [hD, List.length_take, List.length_drop, HLen.out]; omega
              have hcl : (partC g (L.take k) t.T ((j : Int) * t.T.a)).length = M := by rw [partC_length, HM.out]
              obtain ⟨tb2, to2, hAe, hrow⟩ : ∃ b o, t.A = some ⟨b, o, none⟩ ∧ ∀ i u, (witV t.T.c)[i]? = some u → wr.cell? ⟨b, o + i, none⟩ = some u := by
                rcases HRW.out.kept HKT.out with h | h
                · exfalso
                  have h9 : (witV t.T.c).length = 0 := by rw [h]; rfl
                  rw [witV_length, HLen.out] at h9
                  omega
                · exact h
              refine wpList_copy_wit _ rfl (.tmp 120) (.tmp 128) 54 54 69 rfl Tryz.underlying54 info_witS p f ?dl ?dc ((⟨tb2, to2, none⟩ : Addr).add (((j : Int) * t.T.a).toNat * 3)) (t.n - ((j : Int) * t.T.a).toNat) (t.c - ((j : Int) * t.T.a).toNat) (partC g (L.take k) t.T ((j : Int) * t.T.a)) D 69 (show wr.drew.heap[p]? = _ from HJ9.out.row) ?h1 ?h2 ?h3 ?h4 (by rw [hDl]; show f + t.T.a.toNat ≤ (partC g (L.take k) t.T ((j : Int) * t.T.a)).length; rw [hcl]; omega) ?h5
              case h1 => conv => lhs; whnf
              case h2 =>
                conv => lhs; whnf
                rw [hAe]
                rfl
              case h3 =>
                rw [hDl]
                show t.T.a.toNat = min _ _
                omega
              case h4 =>
                intro i v hv
                rw [hD, ← witV_take, ← witV_drop, List.getElem?_take] at hv
                split at hv
                · rw [List.getElem?_drop] at hv
                  have h9 := hrow _ _ hv
                  rw [add_zero_addr, add_zero_addr, Nat.add_assoc]
                  exact h9
                · cases hv
              case h5 =>
                obtain ⟨W7, hW7⟩ : ∃ W7, W7 = wr.drew.setRow p (witV ((partC g (L.take k) t.T ((j : Int) * t.T.a)).take f ++ (D ++ (partC g (L.take k) t.T ((j : Int) * t.T.a)).drop (f + D.length)))).toArray := ⟨_, rfl⟩
                have HJ7 : Hid (JG X1 W7 mb p q N M g.across g.down (fun j => metJ g (L.take (k + 1)) j) (partC g (L.take k) t.T (((j + 1 : Nat) : Int) * t.T.a)) 69) := by
                  show JG _ _ _ _ _ _ _ _ _ _ _ _
                  have h9 := HS.out
                  rw [← hD, ← hDl] at h9
                  rw [h9, hW7]
                  exact (HJ9.out.kept ((Below.refl _ wr).drew)).lay
                have HT7 : Hid (LBox W7 wo.heap.size t.T.x t.T.y t.T.a t.T.d t.A t.n t.c) := by
                  show LBox _ _ _ _ _ _ _ _ _
                  rw [hW7]
                  exact HT9.out.far fun o => World.cell?_of_block (a := ⟨wo.heap.size, o, none⟩) (heap_setRow_other wr.drew p wo.heap.size _ (by have := HPW.out; omega))
                rw [← hW7]
                clear hW7 hD hDl hcl hAe hrow HS HJ9 HT9 HF l2 l4 hlt9 o4 u1 u2 v1 v2 v3 v4 v5 v6 s5
                go_wp2_with fail
                go_roundg g3
                case measure => omega
                case rel => exact ⟨j + 1, by omega, by go_num, HJ7.out, HT7.out⟩
end Go.Proofs.YtneakieigiafpaaGreatDoor
