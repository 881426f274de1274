/- filigreeref25.Join, of any tiles, walked (written by gen/joir.py). -/
import Derived.Test.YtneakieigiafpaaGreatDoorJoiW
import Derived.Test.YtneakieigiafpaaGreatDoorTCx
import Derived.Test.YtneakieigiafpaaGreatDoorRefR2
namespace Go.Proofs.YtneakieigiafpaaGreatDoor
open Go.RowKit

theorem witV_set : ∀ (C : List Wit) (f : Nat) (v : Wit), f < C.length → witV (C.set f v) = ((((witV C).set (f * 3) (.int .u8 v.t)).set (f * 3 + 1) (.int .i64 v.s)).set (f * 3 + 2) (.int .i64 v.r))
  | [], f, v, h => by simp at h
  | x :: l, 0, v, h => by simp [witV]
  | x :: l, f + 1, v, h => by
    have ih := witV_set l f v (by simpa using h)
    rw [show (f + 1) * 3 = f * 3 + 3 by omega, show f * 3 + 3 + 1 = (f * 3 + 1) + 3 by omega, show f * 3 + 3 + 2 = (f * 3 + 2) + 3 by omega]
    simp [witV, ih]
section
variable {X W : World} {mb p q N M : Nat} {a d : Int} {m : Nat → Bool} {C : List Wit} {e : TypeId}
theorem JG.setw {f : Nat} {v : Wit} (h : JG X W mb p q N M a d m C e) (hf : f < C.length) : JG X (((W.setCell ⟨p, f * 3, none⟩ (.int .u8 v.t)).setCell ⟨p, f * 3 + 1, none⟩ (.int .i64 v.s)).setCell ⟨p, f * 3 + 2, none⟩ (.int .i64 v.r)) mb p q N M a d m (C.set f v) e := by
  have hmp := h.mp
  have hq := h.ne
  have far : ∀ b o, b ≠ p → (((W.setCell ⟨p, f * 3, none⟩ (.int .u8 v.t)).setCell ⟨p, f * 3 + 1, none⟩ (.int .i64 v.s)).setCell ⟨p, f * 3 + 2, none⟩ (.int .i64 v.r)).cell? ⟨b, o, none⟩ = W.cell? ⟨b, o, none⟩ := fun b o hb => by
    rw [World.cell?_setCell_other _ _ _ _ (fun e => hb (by cases e; rfl)), World.cell?_setCell_other _ _ _ _ (fun e => hb (by cases e; rfl)), World.cell?_setCell_other _ _ _ _ (fun e => hb (by cases e; rfl))]
  have r1 := heap_setCell_same W p (f * 3) (witV C).toArray e (.int .u8 v.t) h.row
  have r2 := heap_setCell_same _ p (f * 3 + 1) _ e (.int .i64 v.s) r1
  have r3 := heap_setCell_same _ p (f * 3 + 2) _ e (.int .i64 v.r) r2
  refine ⟨fun j hj => (far mb j (by omega)).trans (h.met j hj), fun j => by rw [World.frozen?_setCell, World.frozen?_setCell, World.frozen?_setCell]; exact h.free j, ?_, (far q 0 hq.symm).trans h.q0, (far q 1 hq.symm).trans h.q1, (far q 2 hq.symm).trans h.q2, (far q 3 hq.symm).trans h.q3, (far q 4 hq.symm).trans h.q4, h.ne, h.mp, h.mq, by simpa [World.setCell] using h.pl, by simpa [World.setCell] using h.ql, ((h.below.setCell (p := ⟨p, f * 3, none⟩) (by show mb ≤ p; omega) _).setCell (p := ⟨p, f * 3 + 1, none⟩) (by show mb ≤ p; omega) _).setCell (p := ⟨p, f * 3 + 2, none⟩) (by show mb ≤ p; omega) _⟩
  rw [r3, witV_set C f v hf]
  simp
end

set_option maxRecDepth 100000 in
set_option maxHeartbeats 6400000 in
theorem rjoin_any (g : GrD) (A : Option Addr) (c Z : Nat) (TS : List TilH) (w : World) (hg : g.ok) (hT : Tils w A TS) (hZ : TS.length = Z) (hZ1 : Z ≤ 9223372036854775807) (hc : Z ≤ c) :
    Calls Tryz.prog 40 #[.agg #[.bool g.re.neg, .string g.re.n, .int .i64 g.re.e, .bool g.im.neg, .string g.im.n, .int .i64 g.im.e, .int .i64 g.exp, .int .i64 g.across, .int .i64 g.down, .int .i64 g.wide, .int .i64 g.high], .slice A Z c] w (JoinPost w g (joinE g (TS.map (·.T))) (TS.map (·.T))) := by
  obtain ⟨L, hL⟩ : ∃ L, L = TS.map (·.T) := ⟨_, rfl⟩
  rw [← hL]
  obtain ⟨E, hE⟩ : ∃ E, E = joinE g L := ⟨_, rfl⟩
  rw [← hE]
  have CV := hide (fun (W : World) => refCheck_any g W hg)
  obtain ⟨X0, hX0⟩ : ∃ X, X = ((w.alloc (.cells #[.bool g.re.neg, .string g.re.n, .int .i64 g.re.e, .bool g.im.neg, .string g.im.n, .int .i64 g.im.e, .int .i64 g.exp, .int .i64 g.across, .int .i64 g.down, .int .i64 g.wide, .int .i64 g.high] 31)).alloc (.cells #[.int .i64 0, .int .i64 0, .int .i64 0, .int .i64 0, .slice none 0 0] 56)) := ⟨_, rfl⟩
  have K0 : Hid (Kept w X0) := by rw [hX0]; exact ((Below.refl _ _).alloc (Nat.le_refl _) _).alloc (by simp) _
  have z0 : X0.heap.size = w.heap.size + 2 := by rw [hX0]; simp
  have S0 : Hid (∀ W, Kept X0 W → GBox W w.heap.size g ∧ T0Box W (w.heap.size + 1)) := fun W hW => by
    have hW' : Below X0.heap.size X0 W := hW
    have g0 : GBox X0 w.heap.size g := by rw [hX0]; exact (GBox.new w g _ _ rfl).below ((Below.refl _ _).alloc (Nat.le_refl _) _) (by simp)
    have t0 : T0Box X0 (w.heap.size + 1) := by rw [hX0]; exact T0Box.new _ _ _ (by simp)
    exact ⟨g0.below hW' (by omega), t0.kept hW⟩
  by_cases hI : gridI g = 0
  rotate_left
  · obtain rfl : E = gridI g := by rw [hE]; simp [joinE, hI]
    clear hE
    generalize gridI g = I at *
    clear hT hZ hg
    go_enter Tryz.func40, Tryz.ntmps40
    obtain ⟨⟨q0, q1, q2, q3, q4, q5, q6, q7, q8, q9, q10⟩, tb⟩ := S0.out X0 (Below.refl _ _)
    clear tb
    go_wp2_with fail
    rw [← hX0]
    clear hX0 q0 q1 q2 q3 q4 q5 q6 q7 q8 q9 q10
    refine (CV.out _).mono ?_
    rintro e w1 ⟨rfl, hk1⟩
    have K1 := hide (K0.out.trans' hk1)
    have TB := hide (S0.out w1 hk1).2
    have hz1 := TB.out.lt
    obtain ⟨t0, t1, t2, t3, t4, f0, f1, f2, f3, f4⟩ := TB.out
    clear hk1
    go_wp2_with fail
    exact bodyPost_ret (v := .tuple #[.agg #[.int .i64 0, .int .i64 0, .int .i64 0, .int .i64 0, .slice none 0 0], .int .i64 I]) (by simp [results, Tryz.results40, go_sem, t0, t1, t2, t3, t4]) rfl (join_err (by omega) TB.out K1.out)
  obtain ⟨hB, hm⟩ := gridI_ok hI
  rw [hI] at CV
  obtain ⟨a0, a1, d0, d1, w0, w1', h0, h1⟩ := id hB
  obtain ⟨ga0, ga1⟩ := hB.gA
  obtain ⟨gd0, gd1⟩ := hB.gD
  have m0 : 0 ≤ g.across * g.down := Int.mul_nonneg (by omega) (by omega)
  have m9 : g.across * g.down ≤ 65536 * g.down := Int.mul_le_mul_of_nonneg_right a1 (by omega)
  have CW := hide (fun (W : World) => refWithin_any g.across g.down 4194304 W ⟨by omega, by omega⟩ ⟨by omega, by omega⟩ (by omega) (by omega))
  by_cases hsz : g.across * g.down ≤ 4194304
  rotate_left
  · obtain rfl : E = 4 := by rw [hE]; simp [joinE, hI]; omega
    rw [decide_eq_false (by omega)] at CW
    clear hE hT hZ hg hB hI a0 a1 d0 d1 w0 w1' h0 h1 m0 m9 hsz
    go_enter Tryz.func40, Tryz.ntmps40
    obtain ⟨⟨q0, q1, q2, q3, q4, q5, q6, q7, q8, q9, q10⟩, tb⟩ := S0.out X0 (Below.refl _ _)
    clear tb
    go_wp2_with fail
    rw [← hX0]
    clear hX0 q0 q1 q2 q3 q4 q5 q6 q7 q8 q9 q10
    refine (CV.out _).mono ?_
    rintro e w1 ⟨rfl, hk1⟩
    obtain ⟨⟨q0, q1, q2, q3, q4, q5, q6, q7, q8, q9, q10⟩, tb⟩ := S0.out w1 hk1
    have hz1 := tb.lt
    clear tb
    obtain ⟨X1, hX1⟩ : ∃ X, X = w1.alloc (.cells #[.bool g.re.neg, .string g.re.n, .int .i64 g.re.e, .bool g.im.neg, .string g.im.n, .int .i64 g.im.e, .int .i64 g.exp, .int .i64 g.across, .int .i64 g.down] 29) := ⟨_, rfl⟩
    have k11 : Kept w1 X1 := by rw [hX1]; exact (Below.refl _ _).alloc (Nat.le_refl _) _
    have HB1 : Hid (WBox X1 w1.heap.size g) := by show WBox _ _ _; rw [hX1]; exact WBox.new w1 g _ _ rfl
    have K1 := hide (hk1.trans' k11)
    have z1 : X1.heap.size = w1.heap.size + 1 := by rw [hX1]; simp
    clear hk1 k11
    go_upto_region 5 with fail
    rw [← hX1]
    clear hX1 q0 q1 q2 q3 q4 q5 q6 q7 q8 q9 q10
    obtain ⟨-, -, -, -, -, -, -, c7, c8⟩ := HB1.out
    have hz3 : w1.heap.size < X1.heap.size := by omega
    go_wp2_with fail
    refine (CW.out _).mono ?_
    rintro e w2 ⟨rfl, rfl⟩
    have TB := hide (S0.out w2 K1.out).2
    have HK := hide (K0.out.trans' K1.out)
    obtain ⟨t0, t1, t2, t3, t4, f0, f1, f2, f3, f4⟩ := TB.out
    have hz2 := TB.out.lt
    clear c7 c8
    go_wp2_with fail
    exact bodyPost_ret (v := .tuple #[.agg #[.int .i64 0, .int .i64 0, .int .i64 0, .int .i64 0, .slice none 0 0], .int .i64 4]) (by simp [results, Tryz.results40, go_sem, t0, t1, t2, t3, t4]) rfl (join_err (by omega) TB.out HK.out)
  rw [decide_eq_true (by omega)] at CW
  have CC := hide (fun (W : World) => refCount_any g W hB)
  have g0 : 0 ≤ gridA g * gridD g := Int.mul_nonneg (by omega) (by omega)
  have HLL : Hid (L.length = Z) := by show _ = _; rw [hL, List.length_map, hZ]
  have e10 : IntKind.i64.wrap (gridA g * gridD g) = gridA g * gridD g := IntWalk.i64_in _ (by omega)
  by_cases hlz : (Z : Int) = gridA g * gridD g
  rotate_left
  · obtain rfl : E = 250 := by
      have h9 : ¬ (L.length : Int) = gridA g * gridD g := by rw [HLL.out]; exact hlz
      rw [hE]; unfold joinE joinOK; rw [decide_eq_false h9, Bool.and_false, if_pos hI, if_neg (by omega)]; rfl
    clear hE hT hZ hg hB hI a0 a1 d0 d1 w0 w1' h0 h1 m0 m9 hsz
    go_enter Tryz.func40, Tryz.ntmps40
    obtain ⟨⟨q0, q1, q2, q3, q4, q5, q6, q7, q8, q9, q10⟩, tb⟩ := S0.out X0 (Below.refl _ _)
    clear tb
    go_wp2_with fail
    rw [← hX0]
    clear hX0 q0 q1 q2 q3 q4 q5 q6 q7 q8 q9 q10
    refine (CV.out _).mono ?_
    rintro e w1 ⟨rfl, hk1⟩
    obtain ⟨⟨q0, q1, q2, q3, q4, q5, q6, q7, q8, q9, q10⟩, tb⟩ := S0.out w1 hk1
    have hz1 := tb.lt
    clear tb
    obtain ⟨X1, hX1⟩ : ∃ X, X = w1.alloc (.cells #[.bool g.re.neg, .string g.re.n, .int .i64 g.re.e, .bool g.im.neg, .string g.im.n, .int .i64 g.im.e, .int .i64 g.exp, .int .i64 g.across, .int .i64 g.down] 29) := ⟨_, rfl⟩
    have k11 : Kept w1 X1 := by rw [hX1]; exact (Below.refl _ _).alloc (Nat.le_refl _) _
    have HB1 : Hid (WBox X1 w1.heap.size g) := by show WBox _ _ _; rw [hX1]; exact WBox.new w1 g _ _ rfl
    have K1 := hide (hk1.trans' k11)
    have z1 : X1.heap.size = w1.heap.size + 1 := by rw [hX1]; simp
    clear hk1 k11
    go_upto_region 5 with fail
    rw [← hX1]
    clear hX1 q0 q1 q2 q3 q4 q5 q6 q7 q8 q9 q10
    obtain ⟨-, -, -, -, -, -, -, c7, c8⟩ := HB1.out
    have hz3 : w1.heap.size < X1.heap.size := by omega
    go_wp2_with fail
    refine (CW.out _).mono ?_
    rintro e w2 ⟨rfl, rfl⟩
    obtain ⟨⟨q0, q1, q2, q3, q4, q5, q6, q7, q8, q9, q10⟩, tb⟩ := S0.out w2 K1.out
    have hz4 := tb.lt
    clear tb c7 c8
    go_wp2_with fail
    refine (CC.out _).mono ?_
    rintro e w3 ⟨rfl, hk3⟩
    have K3 := hide (K1.out.trans' hk3)
    clear q0 q1 q2 q3 q4 q5 q6 q7 q8 q9 q10 hk3
    have TB := hide (S0.out w3 K3.out).2
    have HK := hide (K0.out.trans' K3.out)
    obtain ⟨t0, t1, t2, t3, t4, f0, f1, f2, f3, f4⟩ := TB.out
    have hz2 := TB.out.lt
    go_wp2_with fail
    exact bodyPost_ret (v := .tuple #[.agg #[.int .i64 0, .int .i64 0, .int .i64 0, .int .i64 0, .slice none 0 0], .int .i64 250]) (by simp [results, Tryz.results40, go_sem, t0, t1, t2, t3, t4]) rfl (join_err (by omega) TB.out HK.out)
  obtain ⟨M, hM⟩ : ∃ M : Nat, M = (g.across * g.down).toNat := ⟨_, rfl⟩
  have hMI : (M : Int) = g.across * g.down := by rw [hM]; exact Int.toNat_of_nonneg m0
  obtain ⟨JB, hJB⟩ : ∃ JB, joinB g [] L = JB := ⟨_, rfl⟩
  have HE250 : Hid (JB = false → E = 250) := fun h9 => by rw [hE]; unfold joinE joinOK; rw [hJB, h9, if_pos hI, if_neg (by omega)]; rfl
  have HE0 : Hid (JB = true → E = 0) := fun h8 => by rw [hE]; unfold joinE joinOK; rw [hJB, h8, decide_eq_true (by rw [HLL.out]; exact hlz), if_pos hI, if_neg (by omega)]; rfl
  have HJB := hide hJB
  have HLT : Hid (∀ (k : Nat) (t : TilH), TS[k]? = some t → L[k]? = some t.T) := fun k t ht => by rw [hL, List.getElem?_map, ht]; rfl
  have HT := hide hT
  have HB := hide hB
  have HZ := hide hZ
  have HMI := hide hMI
  have HND := hide hlz
  have HG := hide hg
  have HI := hide hI
  have hMn : M ≤ 4194304 := by omega
  have hNn : Z ≤ 65536 := by omega
  have JZ := hide (baseC_nil g)
  rw [← hM] at JZ
  have HM := hide hM
  obtain ⟨i1, hi, hi0, hi1, hi2⟩ := info_parts info_witJ
  obtain ⟨i2, hj, hj0, hj1, hj2⟩ := info_parts info_boolJ
  obtain ⟨MV, hMV⟩ : ∃ V, V = (List.replicate Z (Value.bool false)).toArray := ⟨_, rfl⟩
  obtain ⟨ZV, hZV⟩ : ∃ V, V = (witV (List.replicate M wit0)).toArray := ⟨_, rfl⟩
  have mk1 : ∀ W, (Instr.makeSlice 94 (.int .i64 (gridA g * gridD g)) (.int .i64 (gridA g * gridD g))).run Tryz.prog W = .ok (.slice (some ⟨W.heap.size, 0, none⟩) Z Z) (W.alloc (.cells MV 4)) := fun W => by
    have h9 := run_make (P := Tryz.prog) W 94 4 i2 (.bool false) Tryz.underlying94 hj hj0 .i64 .i64 (Z : Int) (Z : Int) (by omega) (Int.le_refl _) (by rw [hj2]; omega) (by omega)
    rw [hj1, Nat.mul_one, Int.toNat_natCast, show (Value.bool false).cells = #[.bool false] from rfl, made_truths, ← hMV, hlz] at h9
    exact h9
  have mk2 : ∀ W, (Instr.makeSlice 54 (.int .i64 (g.across * g.down)) (.int .i64 (g.across * g.down))).run Tryz.prog W = .ok (.slice (some ⟨W.heap.size, 0, none⟩) M M) (W.alloc (.cells ZV 69)) := fun W => by
    have h9 := run_make (P := Tryz.prog) W 54 69 i1 (.agg #[.int .u8 0, .int .i64 0, .int .i64 0]) Tryz.underlying54 hi hi0 .i64 .i64 (M : Int) (M : Int) (by omega) (Int.le_refl _) (by rw [hi2]; omega) (by omega)
    rw [hi1, Int.toNat_natCast, show (Value.agg #[.int .u8 0, .int .i64 0, .int .i64 0]).cells = #[.int .u8 0, .int .i64 0, .int .i64 0] from rfl, made_wits, ← hZV, hMI] at h9
    exact h9
  have HMV := hide hMV
  have HZV := hide hZV
  have hnl : ¬ ¬ (Z : Int) = gridA g * gridD g := fun h => h hlz
  have HHL := hide hlz
  clear hE hT hB hZ hMI hM hg hI hMV hZV hi hi0 hi1 hi2 hj hj0 hj1 hj2 hL hJB m9
  go_enter Tryz.func40, Tryz.ntmps40
  obtain ⟨⟨q0, q1, q2, q3, q4, q5, q6, q7, q8, q9, q10⟩, tb⟩ := S0.out X0 (Below.refl _ _)
  clear tb
  go_wp2_with fail
  rw [← hX0]
  clear hX0 q0 q1 q2 q3 q4 q5 q6 q7 q8 q9 q10
  refine (CV.out _).mono ?_
  rintro e w1 ⟨rfl, hk1⟩
  obtain ⟨⟨q0, q1, q2, q3, q4, q5, q6, q7, q8, q9, q10⟩, tb⟩ := S0.out w1 hk1
  have hz1 := tb.lt
  clear tb
  obtain ⟨X1, hX1⟩ : ∃ X, X = w1.alloc (.cells #[.bool g.re.neg, .string g.re.n, .int .i64 g.re.e, .bool g.im.neg, .string g.im.n, .int .i64 g.im.e, .int .i64 g.exp, .int .i64 g.across, .int .i64 g.down] 29) := ⟨_, rfl⟩
  have k11 : Kept w1 X1 := by rw [hX1]; exact (Below.refl _ _).alloc (Nat.le_refl _) _
  have HB1 : Hid (WBox X1 w1.heap.size g) := by show WBox _ _ _; rw [hX1]; exact WBox.new w1 g _ _ rfl
  have K1 := hide (hk1.trans' k11)
  have z1 : X1.heap.size = w1.heap.size + 1 := by rw [hX1]; simp
  clear hk1 k11
  go_upto_region 5 with fail
  rw [← hX1]
  clear hX1 q0 q1 q2 q3 q4 q5 q6 q7 q8 q9 q10
  obtain ⟨-, -, -, -, -, -, -, c7, c8⟩ := HB1.out
  have hz3 : w1.heap.size < X1.heap.size := by omega
  go_wp2_with fail
  refine (CW.out _).mono ?_
  rintro e w2 ⟨rfl, rfl⟩
  obtain ⟨⟨q0, q1, q2, q3, q4, q5, q6, q7, q8, q9, q10⟩, tb⟩ := S0.out w2 K1.out
  have hz4 := tb.lt
  clear tb c7 c8
  go_wp2_with fail
  refine (CC.out _).mono ?_
  rintro e w3 ⟨rfl, hk3⟩
  have K3 := hide (K1.out.trans' hk3)
  have K23 := hide hk3
  clear q0 q1 q2 q3 q4 q5 q6 q7 q8 q9 q10 hk3
  obtain ⟨X2, hX2⟩ : ∃ X, X = w3.alloc (.cells MV 4) := ⟨_, rfl⟩
  have k12 : Kept w3 X2 := by rw [hX2]; exact (Below.refl _ _).alloc (Nat.le_refl _) _
  have z2 : X2.heap.size = w3.heap.size + 1 := by rw [hX2]; simp
  have z3 : w1.heap.size < w3.heap.size := by have := K23.out.size; omega
  have MB : Hid ((∀ j, j < Z → X2.cell? ⟨w3.heap.size, j, none⟩ = some (.bool (decide (j < 0)))) ∧ ∀ j, X2.frozen? ⟨w3.heap.size, j, none⟩ = false) := by
    show _ ∧ _
    rw [hX2]
    refine ⟨fun j hj => ?_, fun j => fresh_frozen _ _ _ _⟩
    rw [World.cell?_alloc_mark, HMV.out]
    simp [hj]
  go_upto_region 11 with fail
  rw [← hX2]
  have K12 := hide k12
  have HB3 : Hid (∀ W, Kept w3 W → WBox W w1.heap.size g) := fun W hW => HB1.out.kept (B := w2.heap.size) (Below.trans K23.out (hW.mono K23.out.size)) (by omega)
  clear hX2 k12
  go_cut [11] (fun v wx => ∃ p q, v = .pointer (some ⟨q, 0, none⟩) ∧ JAt w3 wx w3.heap.size p q Z M g.across g.down 0 (List.replicate M wit0) 69)
  case first =>
    obtain ⟨-, -, -, -, -, -, -, c7, c8⟩ := HB3.out X2 K12.out
    have HS := hide (And.intro c7 c8)
    have e9 : IntKind.i64.wrap (g.across * g.down) = g.across * g.down := IntWalk.i64_in _ (by omega)
    have e9' := e9
    refine wp_region_L (fun W => W.cell? ⟨w1.heap.size, 7, none⟩ = some (.int .i64 g.across) ∧ W.cell? ⟨w1.heap.size, 8, none⟩ = some (.int .i64 g.down)) 13 (by kernel_rfl) ?_ (fun hHeld => ?_)
    · first | assumption | exact HS.out | go_keep
    refine wpAnyL_take (i := 0) (v := ?_) (some 49) rfl rfl (by kernel_rfl) (by kernel_rfl) (by kernel_rfl) (by kernel_rfl) (fun _ _ _ h => h) (Or.inl ⟨by rfl, ?_⟩) (by assumption) ?_
    rotate_left
    · intro w hSw; (try dsimp only at hSw); go_simp; (try with_reducible rfl)
    try simp only [Act.put, List.setIfInBounds_toArray, List.set_cons_zero, List.set_cons_succ]
    refine wpAnyL_take (i := 1) (v := ?_) (some 50) rfl rfl (by kernel_rfl) (by kernel_rfl) (by kernel_rfl) (by kernel_rfl) (fun _ _ _ h => h) (Or.inl ⟨by rfl, ?_⟩) (by assumption) ?_
    rotate_left
    · intro w hSw; (try dsimp only at hSw); go_simp; (try with_reducible rfl)
    try simp only [Act.put, List.setIfInBounds_toArray, List.set_cons_zero, List.set_cons_succ]
    refine wpAnyL_take (i := 2) (v := ?_) (some 51) rfl rfl (by kernel_rfl) (by kernel_rfl) (by kernel_rfl) (by kernel_rfl) (fun _ _ _ h => h) (Or.inl ⟨by rfl, ?_⟩) (by assumption) ?_
    rotate_left
    · intro w hSw; (try dsimp only at hSw); go_simp; (try with_reducible rfl)
    try simp only [Act.put, List.setIfInBounds_toArray, List.set_cons_zero, List.set_cons_succ]
    refine wpAnyL_take (i := 3) (v := ?_) (some 52) rfl rfl (by kernel_rfl) (by kernel_rfl) (by kernel_rfl) (by kernel_rfl) (fun _ _ _ h => h) (Or.inl ⟨by rfl, ?_⟩) (by assumption) ?_
    rotate_left
    · intro w hSw; (try dsimp only at hSw); go_simp; (try with_reducible rfl)
    try simp only [Act.put, List.setIfInBounds_toArray, List.set_cons_zero, List.set_cons_succ]
    refine wpAnyL_take (i := 4) (v := ?_) (some 53) rfl rfl (by kernel_rfl) (by kernel_rfl) (by kernel_rfl) (by kernel_rfl) (fun _ _ _ h => h) (Or.inl ⟨by rfl, ?_⟩) (by assumption) ?_
    rotate_left
    · intro w hSw; (try dsimp only at hSw); go_simp; (try with_reducible rfl)
    try simp only [Act.put, List.setIfInBounds_toArray, List.set_cons_zero, List.set_cons_succ]
    refine wpAnyL_take (i := 5) (v := ?_) (some 54) rfl rfl (by kernel_rfl) (by kernel_rfl) (by kernel_rfl) (by kernel_rfl) (fun _ _ _ h => h) (Or.inl ⟨by rfl, ?_⟩) (by assumption) ?_
    rotate_left
    · intro w hSw; (try dsimp only at hSw); go_simp; (try with_reducible rfl)
    try simp only [Act.put, List.setIfInBounds_toArray, List.set_cons_zero, List.set_cons_succ]
    refine wpAnyL_take (i := 6) (v := ?_) (some 55) rfl rfl (by kernel_rfl) (by kernel_rfl) (by kernel_rfl) (by kernel_rfl) (fun _ _ _ h => h) (Or.inl ⟨by rfl, ?_⟩) (by assumption) ?_
    rotate_left
    · intro w hSw; (try dsimp only at hSw); go_simp; (try with_reducible rfl)
    try simp only [Act.put, List.setIfInBounds_toArray, List.set_cons_zero, List.set_cons_succ]
    refine wpAnyL_take (i := 7) (v := ?_) (some 56) rfl rfl (by kernel_rfl) (by kernel_rfl) (by kernel_rfl) (by kernel_rfl) (fun _ _ _ h => h) (Or.inl ⟨by rfl, ?_⟩) (by assumption) ?_
    rotate_left
    · intro w hSw; (try dsimp only at hSw); go_simp; (try with_reducible rfl)
    try simp only [Act.put, List.setIfInBounds_toArray, List.set_cons_zero, List.set_cons_succ]
    refine wpAnyL_take (i := 8) (v := ?_) (some 57) rfl rfl (by kernel_rfl) (by kernel_rfl) (by kernel_rfl) (by kernel_rfl) (fun _ _ _ h => h) (Or.inl ⟨by rfl, ?_⟩) (by assumption) ?_
    rotate_left
    · intro w hSw; (try dsimp only at hSw); go_simp; (try with_reducible rfl)
    try simp only [Act.put, List.setIfInBounds_toArray, List.set_cons_zero, List.set_cons_succ]
    refine wpAnyL_take (i := 9) (v := ?_) (some 58) rfl rfl (by kernel_rfl) (by kernel_rfl) (by kernel_rfl) (by kernel_rfl) (fun _ _ _ h => h) (Or.inl ⟨by rfl, ?_⟩) (by assumption) ?_
    rotate_left
    · intro w hSw; (try dsimp only at hSw); go_simp; (try with_reducible rfl)
    try simp only [Act.put, List.setIfInBounds_toArray, List.set_cons_zero, List.set_cons_succ]
    refine wpAnyL_two (i := 10) (j := 12) (by kernel_rfl) rfl rfl (fun K hK => ?_) (fun K hK => ?_)
    · skip
      go_simp
      refine hK.out _ _ ?_ (fun hHeld => ?_)
      · first | assumption | exact HS.out | go_keep
      clear hK K
      try simp only [Act.put, List.setIfInBounds_toArray, List.set_cons_zero, List.set_cons_succ]
      refine wpAnyL_take (i := 11) (v := ?_) (some 60) rfl rfl (by kernel_rfl) (by kernel_rfl) (by kernel_rfl) (by kernel_rfl) (fun _ _ _ h => h) (Or.inl ⟨by rfl, ?_⟩) (by assumption) ?_
      rotate_left
      · intro w hSw; (try dsimp only at hSw); go_simp; (try with_reducible rfl)
      try simp only [Act.put, List.setIfInBounds_toArray, List.set_cons_zero, List.set_cons_succ]
      refine wpAnyL_one (i := 12) (by kernel_rfl) rfl (fun K hK => ?_)
      go_simp
      refine hK.out _ _ ?_ (fun hHeld => ?_)
      · first | assumption | exact HS.out | go_keep
      clear hK K
      try simp only [Act.put, List.setIfInBounds_toArray, List.set_cons_zero, List.set_cons_succ]
      refine wpAnyL_end (by kernel_rfl) rfl (fun K hK => ?_)
      go_simp
      refine hK.out _ _ ?_
      clear hK K
      try simp only [Act.put, List.setIfInBounds_toArray, List.set_cons_zero, List.set_cons_succ]
      refine wpAnyL_done (by kernel_rfl) ?_ _
      go_wp2_with fail
      go_meet
      rw [HZV.out]
      exact ⟨_, _, rfl, JAt.new1 K12.out MB.out.1 MB.out.2 (by omega) z2.symm rfl⟩
    · skip
      go_simp
      refine hK.out _ _ ?_ (fun hHeld => ?_)
      · first | assumption | exact HS.out | go_keep
      clear hK K
      try simp only [Act.put, List.setIfInBounds_toArray, List.set_cons_zero, List.set_cons_succ]
      refine wpAnyL_one (i := 10) (by kernel_rfl) rfl (fun K hK => ?_)
      go_simp
      refine hK.out _ _ ?_ (fun hHeld => ?_)
      · first | assumption | exact HS.out | go_keep
      clear hK K
      try simp only [Act.put, List.setIfInBounds_toArray, List.set_cons_zero, List.set_cons_succ]
      refine wpAnyL_take (i := 11) (v := ?_) (some 60) rfl rfl (by kernel_rfl) (by kernel_rfl) (by kernel_rfl) (by kernel_rfl) (fun _ _ _ h => h) (Or.inl ⟨by rfl, ?_⟩) (by assumption) ?_
      rotate_left
      · intro w hSw; (try dsimp only at hSw); go_simp; (try with_reducible rfl)
      try simp only [Act.put, List.setIfInBounds_toArray, List.set_cons_zero, List.set_cons_succ]
      refine wpAnyL_end (by kernel_rfl) rfl (fun K hK => ?_)
      go_simp
      refine hK.out _ _ ?_
      clear hK K
      try simp only [Act.put, List.setIfInBounds_toArray, List.set_cons_zero, List.set_cons_succ]
      refine wpAnyL_done (by kernel_rfl) ?_ _
      go_wp2_with fail
      go_meet
      rw [HZV.out]
      exact ⟨_, _, rfl, JAt.new2 K12.out MB.out.1 MB.out.2 (by omega) z2.symm rfl⟩
  case rest =>
  obtain ⟨p, q, rfl, hJ0⟩ := hcut
  rw [← JZ.out] at hJ0
  clear mk1 mk2 MB HMV HZV JZ ga0 ga1 gd0 gd1 w0 h0 h1 w1' z1 z2 hz1 hz3 hz4
  obtain ⟨mb, hmb⟩ : ∃ mb, mb = w3.heap.size := ⟨_, rfl⟩
  have HX : Hid (∀ W, Below mb w3 W → Kept X0 W ∧ Kept w W ∧ WBox W w1.heap.size g) := fun W hW => by
    rw [hmb] at hW
    exact ⟨K3.out.trans' hW, K0.out.trans' (K3.out.trans' hW), HB3.out W hW⟩
  rw [← hmb] at hJ0
  have HJ0 := hide hJ0
  clear hJ0
  have z3' : w1.heap.size < mb := by omega
  rw [← hmb]
  have HMB : Hid (w.heap.size + 1 + 1 ≤ mb) := by have h9 := K3.out.size; show _ ≤ _; omega
  clear hmb z3
  go_wp2_with fail
  go_loopg [12] Z (fun gh ix wy => ∃ k : Nat, k + gh = Z ∧ ix = .int .i64 k ∧ JG w3 wy mb p q Z M g.across g.down (fun j => metJ g (L.take k) j) (baseC g (L.take k)) 69 ∧ PInv g (L.take k) ∧ joinB g (L.take k) (L.drop k) = JB)
  case atStart => exact ⟨0, by omega, rfl, (JG.of HJ0.out).met' (fun j _ => by simp [metJ]), PInv.nil g, HJB.out⟩
  case round =>
    clear HJ0
    obtain ⟨k, hkg, rfl, hJ, hP, hJb⟩ := hrel
    obtain ⟨kx0, kw, bw⟩ := HX.out wr hJ.below
    cases gk with
    | zero =>
      have hkz : k = Z := by omega
      have hge : ¬ (k : Int) < gridA g * gridD g := by omega
      rw [List.take_of_length_le (by rw [HLL.out]; omega)] at hJ hP hJb
      rw [List.drop_eq_nil_of_le (by rw [HLL.out]; omega)] at hJb
      obtain rfl : JB = true := by rw [← hJb]; unfold joinB; rfl
      obtain rfl : E = 0 := HE0.out rfl
      have TB := hide (S0.out wr kx0).2
      obtain ⟨t0, t1, t2, t3, t4, f0, f1, f2, f3, f4⟩ := TB.out
      have hq0 := hJ.q0
      have hq1 := hJ.q1
      have hq2 := hJ.q2
      have hq3 := hJ.q3
      have hq4 := hJ.q4
      have hzt := TB.out.lt
      have HJ := hide hJ
      have HKW := hide kw
      clear hJ kx0 kw bw hP hJb hkz
      go_wp2_with fail
      have hpq := HJ.out.mp
      have h5 : Kept w ((((((wr.setCell ⟨w.heap.size + 1, 0, none⟩ (.int .i64 0)).setCell ⟨w.heap.size + 1, 1, none⟩ (.int .i64 0)).setCell ⟨w.heap.size + 1, 2, none⟩ (.int .i64 g.across)).setCell ⟨w.heap.size + 1, 3, none⟩ (.int .i64 g.down)).setCell ⟨w.heap.size + 1, 4, none⟩ (.slice (some ⟨p, 0, none⟩) M M))) :=
        ((((HKW.out.setCell (p := ⟨w.heap.size + 1, 0, none⟩) (by simp) _).setCell (p := ⟨w.heap.size + 1, 1, none⟩) (by simp) _).setCell (p := ⟨w.heap.size + 1, 2, none⟩) (by simp) _).setCell (p := ⟨w.heap.size + 1, 3, none⟩) (by simp) _).setCell (p := ⟨w.heap.size + 1, 4, none⟩) (by simp) _
      have hOW : Own wr w.heap.size 3 (.slice (some ⟨p, 0, none⟩) M M) M (witV (baseC g L)) := HJ.out.own (by rw [baseC_length, HM.out]) (by unfold maxLen; omega) (by have := HMB.out; omega)
      have hne : ∀ j, (Value.slice (some ⟨p, 0, none⟩) M M).ownBlock = some j → j ≠ w.heap.size + 1 := fun j hj => by
        have : p = j := by simpa [Value.ownBlock] using hj
        have := HMB.out
        omega
      exact bodyPost_ret (v := .tuple #[.agg #[.int .i64 0, .int .i64 0, .int .i64 g.across, .int .i64 g.down, .slice (some ⟨p, 0, none⟩) M M], .int .i64 0]) (by simp [results, Tryz.results40, go_sem, t0, t1, t2, t3, t4]) rfl
        ⟨by rw [if_pos rfl]; exact ⟨_, rfl, by rw [← HM.out]; exact ((((hOW.far (p := ⟨w.heap.size + 1, 0, none⟩) hne _).far (p := ⟨w.heap.size + 1, 1, none⟩) hne _).far (p := ⟨w.heap.size + 1, 2, none⟩) hne _).far (p := ⟨w.heap.size + 1, 3, none⟩) hne _).far (p := ⟨w.heap.size + 1, 4, none⟩) hne _⟩, h5⟩
    | succ g2 =>
      obtain ⟨wo, rfl⟩ : ∃ wo : World, wo = wr := ⟨_, rfl⟩
      obtain ⟨t, ht⟩ : ∃ t, TS[k]? = some t := ⟨_, List.getElem?_eq_getElem (by have := HZ.out; omega)⟩
      have hA := Tils.at_ (HT.out.kept kw) ht
      obtain ⟨tb, toff, hAe, x0, x1, x2, x3, x4⟩ := hA
      have ta := (HT.out.kept kw).each t (List.mem_of_getElem? ht)
      subst hAe
      have HAT : Hid (∀ W, Below mb w3 W → W.cell? ⟨tb, toff + k * 5, none⟩ = some (.int .i64 t.T.x) ∧ W.cell? ⟨tb, toff + k * 5 + 1, none⟩ = some (.int .i64 t.T.y) ∧ W.cell? ⟨tb, toff + k * 5 + 2, none⟩ = some (.int .i64 t.T.a) ∧ W.cell? ⟨tb, toff + k * 5 + 3, none⟩ = some (.int .i64 t.T.d) ∧ W.cell? ⟨tb, toff + k * 5 + 4, none⟩ = some (.slice t.A t.n t.c)) := fun W hW => by
        obtain ⟨b, o, e9, y0, y1, y2, y3, y4⟩ := Tils.at_ (HT.out.kept (HX.out W hW).2.1) ht
        cases e9
        exact ⟨y0, y1, y2, y3, y4⟩
      have hLk := HLT.out k t ht
      have hST := joinB_step g L k t.T hLk
      rw [hJb] at hST
      have HST := hide hST
      have HTK : Hid (L.take (k + 1) = L.take k ++ [t.T]) := by show _ = _; rw [List.take_add_one, hLk]; rfl
      have HRW := hide (HT.out.each t (List.mem_of_getElem? ht)).row
      have HTW := hide (lt_of_cell x0)
      have HCap := hide ta.cap
      have HLen := hide ta.len
      have CRT9 := hide (fun W => refTMay_any t.T.x t.T.y t.T.a t.T.d t.A t.n t.c W ⟨ta.a0, ta.a1⟩ ⟨ta.d0, ta.d1⟩)
      have CA9 := hide (fun W => refAt_any g t.T.x t.T.y W HI.out)
      have hlt : (k : Int) < gridA g * gridD g := by omega
      have HPW := hide (show p < wo.heap.size ∧ mb < p from ⟨hJ.pl, hJ.mp⟩)
      have HJ := hide hJ
      have HP := hide hP
      clear ta hLk hST ht hJb hJ hP kx0 kw bw
      obtain ⟨W3, hW3⟩ : ∃ W3, W3 = wo.alloc (.cells #[.int .i64 t.T.x, .int .i64 t.T.y, .int .i64 t.T.a, .int .i64 t.T.d] 38) := ⟨_, rfl⟩
      have k3 : Kept wo W3 := by rw [hW3]; exact (Below.refl _ _).alloc (Nat.le_refl _) _
      have HT3 : Hid (RcB W3 wo.heap.size t.T.x t.T.y t.T.a t.T.d) := by show RcB _ _ _ _ _ _; rw [hW3]; exact RcB.new _ _ _ _ _ _ _ rfl
      have HJ3 := hide (HJ.out.kept k3)
      have K3' := hide k3
      go_upto_region 16 with fail
      rw [← hW3]
      clear hW3 k3 x0 x1 x2 x3 x4
      cases hBt : tileB t.T.x t.T.y t.T.a t.T.d t.n with
      | false =>
        rw [hBt] at CRT9
        obtain rfl : E = 250 := HE250.out (by rw [HST.out]; simp [goodJ, fitJ, HLen.out, hBt])
        clear hBt
        have CA8 := CA9
        have hz3 : mb < W3.heap.size := by have := HPW.out; have := K3'.out.size; omega
        obtain ⟨l0, l1, l2, l3⟩ := HT3.out
        have hl3 := HT3.out.lt
        obtain ⟨⟨q0, q1, q2, q3, q4, q5, q6, q7, q8, q9, q10⟩, -⟩ := S0.out W3 (HX.out W3 HJ3.out.below).1
        go_wp2_with fail
        refine (CA8.out _).mono ?_
        rintro e w4 ⟨rfl, hk4⟩
        have HT4 := hide (HT3.out.below hk4 HT3.out.lt)
        have HJ4 := hide (HJ3.out.kept hk4)
        clear l0 l1 l2 l3 hl3 hk4 q0 q1 q2 q3 q4 q5 q6 q7 q8 q9 q10
        obtain ⟨x0, x1, x2, x3, x4⟩ := HAT.out w4 HJ4.out.below
        go_wp2_with fail
        refine (CRT9.out _).mono ?_
        rintro e w5 ⟨rfl, hk5⟩
        have HT5 := hide (HT4.out.below hk5 HT4.out.lt)
        have HJ5 := hide (HJ4.out.kept hk5)
        clear x0 x1 x2 x3 x4 hk5
        have TB9 := hide (S0.out w5 (HX.out w5 HJ5.out.below).1).2
        have HK9 := hide (HX.out w5 HJ5.out.below).2.1
        obtain ⟨t0, t1, t2, t3, t4, f0, f1, f2, f3, f4⟩ := TB9.out
        have hz9 := TB9.out.lt
        go_wp2_with fail
        exact bodyPost_ret (v := .tuple #[.agg #[.int .i64 0, .int .i64 0, .int .i64 0, .int .i64 0, .slice none 0 0], .int .i64 250]) (by simp [results, Tryz.results40, go_sem, t0, t1, t2, t3, t4]) rfl (join_err (by omega) TB9.out HK9.out)
      | true =>
        rw [hBt] at CRT9
        obtain ⟨v1, v2, v3, v4, v5, v6, v7⟩ := mayB_bounds (tileB_may hBt)
        have hxy : 0 ≤ t.T.x ∧ 0 ≤ t.T.y := by simp [tileB] at hBt; omega
        cases hin : inG g t.T.x t.T.y with
        | false =>
          have hbad : goodJ g (L.take k) t.T = false := by
            rw [goodJ, fitJ, decide_eq_false (fun h => by have h9 := inG_iff.2 ⟨hxy.1, hxy.2, h.1, h.2.1⟩; rw [hin] at h9; cases h9), Bool.and_false, Bool.false_and]
          obtain rfl : E = 250 := HE250.out (by rw [HST.out, hbad, Bool.false_and])
          have CA8 := CA9
          rw [hin] at CA8
          clear hBt CA9 v1 v2 v3 v4 v5 v6 v7 hxy hin hbad
          obtain ⟨l0, l1, l2, l3⟩ := HT3.out
          have hl3 := HT3.out.lt
          obtain ⟨⟨q0, q1, q2, q3, q4, q5, q6, q7, q8, q9, q10⟩, -⟩ := S0.out W3 (HX.out W3 HJ3.out.below).1
          go_wp2_with fail
          refine (CA8.out _).mono ?_
          rintro e w4 ⟨rfl, hk4⟩
          have HT4 := hide (HT3.out.below hk4 HT3.out.lt)
          have HJ4 := hide (HJ3.out.kept hk4)
          clear l0 l1 l2 l3 hl3 hk4 q0 q1 q2 q3 q4 q5 q6 q7 q8 q9 q10
          obtain ⟨x0, x1, x2, x3, x4⟩ := HAT.out w4 HJ4.out.below
          go_wp2_with fail
          refine (CRT9.out _).mono ?_
          rintro e w5 ⟨rfl, hk5⟩
          have HT5 := hide (HT4.out.below hk5 HT4.out.lt)
          have HJ5 := hide (HJ4.out.kept hk5)
          clear x0 x1 x2 x3 x4 hk5
          have TB9 := hide (S0.out w5 (HX.out w5 HJ5.out.below).1).2
          have HK9 := hide (HX.out w5 HJ5.out.below).2.1
          obtain ⟨t0, t1, t2, t3, t4, f0, f1, f2, f3, f4⟩ := TB9.out
          have hz9 := TB9.out.lt
          go_wp2_with fail
          exact bodyPost_ret (v := .tuple #[.agg #[.int .i64 0, .int .i64 0, .int .i64 0, .int .i64 0, .slice none 0 0], .int .i64 250]) (by simp [results, Tryz.results40, go_sem, t0, t1, t2, t3, t4]) rfl (join_err (by omega) TB9.out HK9.out)
        | true =>
          have hin' := inG_iff.1 hin
          obtain ⟨n, hn⟩ : ∃ n : Nat, (n : Int) = nT g t.T := ⟨(nT g t.T).toNat, Int.toNat_of_nonneg (at_bnd HB.out hin).1⟩
          have hnz : nT g t.T < gridA g * gridD g := (at_bnd HB.out hin).2
          have r9 : n < Z := by have := HND.out; omega
          have r9' : (n : Int) < gridA g * gridD g := by omega
          have CA8 := CA9
          rw [hin, show atV g t.T.x t.T.y = (n : Int) by rw [hn]; unfold atV; rw [hin]; rfl] at CA8
          have CRC9 := hide (fun W => refRect_in g n W HI.out (by omega) r9')
          cases hmt : metJ g (L.take k) n with
          | true =>
            have hbad : goodJ g (L.take k) t.T = false := by rw [goodJ, ← hn, hmt]; simp
            obtain rfl : E = 250 := HE250.out (by rw [HST.out, hbad, Bool.false_and])
            have HMT := hide hmt
            clear hBt CA9 v1 v2 v3 v4 v5 v6 v7 hxy hin hn hbad hmt hin' hnz
            obtain ⟨l0, l1, l2, l3⟩ := HT3.out
            have hl3 := HT3.out.lt
            obtain ⟨⟨q0, q1, q2, q3, q4, q5, q6, q7, q8, q9, q10⟩, -⟩ := S0.out W3 (HX.out W3 HJ3.out.below).1
            go_wp2_with fail
            refine (CA8.out _).mono ?_
            rintro e w4 ⟨rfl, hk4⟩
            have HT4 := hide (HT3.out.below hk4 HT3.out.lt)
            have HJ4 := hide (HJ3.out.kept hk4)
            clear l0 l1 l2 l3 hl3 hk4 q0 q1 q2 q3 q4 q5 q6 q7 q8 q9 q10
            obtain ⟨x0, x1, x2, x3, x4⟩ := HAT.out w4 HJ4.out.below
            go_wp2_with fail
            refine (CRT9.out _).mono ?_
            rintro e w5 ⟨rfl, hk5⟩
            have HT5 := hide (HT4.out.below hk5 HT4.out.lt)
            have HJ5 := hide (HJ4.out.kept hk5)
            clear x0 x1 x2 x3 x4 hk5
            have mt5 := HJ5.out.met n r9
            rw [HMT.out] at mt5
            have TB9 := hide (S0.out w5 (HX.out w5 HJ5.out.below).1).2
            have HK9 := hide (HX.out w5 HJ5.out.below).2.1
            obtain ⟨t0, t1, t2, t3, t4, f0, f1, f2, f3, f4⟩ := TB9.out
            have hz9 := TB9.out.lt
            go_wp2_with fail
            exact bodyPost_ret (v := .tuple #[.agg #[.int .i64 0, .int .i64 0, .int .i64 0, .int .i64 0, .slice none 0 0], .int .i64 250]) (by simp [results, Tryz.results40, go_sem, t0, t1, t2, t3, t4]) rfl (join_err (by omega) TB9.out HK9.out)
          | false =>
            by_cases hrq : rectX g n = t.T.x ∧ rectY g n = t.T.y ∧ rectW g n = t.T.a ∧ rectH g n = t.T.d
            rotate_left
            · have hbad : goodJ g (L.take k) t.T = false := by rw [goodJ, fitJ, decide_eq_false (fun h => hrq (by rw [hn]; exact h.2.2)), Bool.and_false, Bool.false_and]
              obtain rfl : E = 250 := HE250.out (by rw [HST.out, hbad, Bool.false_and])
              have hre : ∀ W, (Op.equalIn 10000 38 (.agg #[.int .i64 (rectX g n), .int .i64 (rectY g n), .int .i64 (rectW g n), .int .i64 (rectH g n)]) (.agg #[.int .i64 t.T.x, .int .i64 t.T.y, .int .i64 t.T.a, .int .i64 t.T.d])).run Tryz.prog W = .ok false W := fun W => by rw [rect_cmp, decide_eq_false hrq]
              have HMT := hide hmt
              clear hBt CA9 v1 v2 v3 v4 v5 v6 v7 hxy hin hn hbad hmt hin' hnz hrq
              obtain ⟨l0, l1, l2, l3⟩ := HT3.out
              have hl3 := HT3.out.lt
              obtain ⟨⟨q0, q1, q2, q3, q4, q5, q6, q7, q8, q9, q10⟩, -⟩ := S0.out W3 (HX.out W3 HJ3.out.below).1
              go_wp2_with fail
              refine (CA8.out _).mono ?_
              rintro e w4 ⟨rfl, hk4⟩
              have HT4 := hide (HT3.out.below hk4 HT3.out.lt)
              have HJ4 := hide (HJ3.out.kept hk4)
              clear l0 l1 l2 l3 hl3 hk4 q0 q1 q2 q3 q4 q5 q6 q7 q8 q9 q10
              obtain ⟨x0, x1, x2, x3, x4⟩ := HAT.out w4 HJ4.out.below
              go_wp2_with fail
              refine (CRT9.out _).mono ?_
              rintro e w5 ⟨rfl, hk5⟩
              have HT5 := hide (HT4.out.below hk5 HT4.out.lt)
              have HJ5 := hide (HJ4.out.kept hk5)
              clear x0 x1 x2 x3 x4 hk5
              have mt5 := HJ5.out.met n r9
              rw [HMT.out] at mt5
              have mb5 : mb < w5.heap.size := Nat.lt_trans HJ5.out.mp HJ5.out.pl
              obtain ⟨⟨q0, q1, q2, q3, q4, q5, q6, q7, q8, q9, q10⟩, -⟩ := S0.out w5 (HX.out w5 HJ5.out.below).1
              go_wp2_with fail
              refine (CRC9.out _).mono ?_
              rintro e w6 ⟨rfl, hk6⟩
              have HT6 := hide (HT5.out.below hk6 HT5.out.lt)
              have HJ6 := hide (HJ5.out.kept hk6)
              clear hk6 q0 q1 q2 q3 q4 q5 q6 q7 q8 q9 q10 mt5
              obtain ⟨W7, hW7⟩ : ∃ W7, W7 = w6.alloc (.cells #[.int .i64 (rectX g n), .int .i64 (rectY g n), .int .i64 (rectW g n), .int .i64 (rectH g n)] 38) := ⟨_, rfl⟩
              have k7 : Kept w6 W7 := by rw [hW7]; exact (Below.refl _ _).alloc (Nat.le_refl _) _
              have HT7 := hide (HT6.out.below k7 HT6.out.lt)
              have HJ7 := hide (HJ6.out.kept k7)
              have HN7 : Hid (RcB W7 w6.heap.size (rectX g n) (rectY g n) (rectW g n) (rectH g n)) := by show RcB _ _ _ _ _ _; rw [hW7]; exact RcB.new _ _ _ _ _ _ _ rfl
              go_upto_region 20 with fail
              rw [← hW7]
              clear hW7 k7
              obtain ⟨l0, l1, l2, l3⟩ := HT7.out
              obtain ⟨n0, n1, n2, n3⟩ := HN7.out
              have TB9 := hide (S0.out W7 (HX.out W7 HJ7.out.below).1).2
              have HK9 := hide (HX.out W7 HJ7.out.below).2.1
              obtain ⟨t0, t1, t2, t3, t4, f0, f1, f2, f3, f4⟩ := TB9.out
              have hz9 := TB9.out.lt
              go_wp2_with fail
              exact bodyPost_ret (v := .tuple #[.agg #[.int .i64 0, .int .i64 0, .int .i64 0, .int .i64 0, .slice none 0 0], .int .i64 250]) (by simp [results, Tryz.results40, go_sem, t0, t1, t2, t3, t4]) rfl (join_err (by omega) TB9.out HK9.out)
            have hre : ∀ W, (Op.equalIn 10000 38 (.agg #[.int .i64 (rectX g n), .int .i64 (rectY g n), .int .i64 (rectW g n), .int .i64 (rectH g n)]) (.agg #[.int .i64 t.T.x, .int .i64 t.T.y, .int .i64 t.T.a, .int .i64 t.T.d])).run Tryz.prog W = .ok true W := fun W => by rw [rect_cmp, decide_eq_true hrq]
            have hfit : fitJ g t.T = true := by rw [fitJ, HLen.out, hBt, ← hn, decide_eq_true ⟨hin'.2.2.1, hin'.2.2.2, hrq⟩]; rfl
            have hgood : goodJ g (L.take k) t.T = true := by rw [goodJ, hfit, ← hn, hmt]; rfl
            have hlies := (fitJ_lies HB.out hfit).1
            have HP2 : Hid (PInv g (L.take (k + 1))) := by show PInv _ _; rw [HTK.out]; exact HP.out.step hgood
            have HJb2 : Hid (joinB g (L.take (k + 1)) (L.drop (k + 1)) = JB) := by show _ = _; rw [HST.out, hgood, Bool.true_and]
            have HFULL : Hid (partC g (L.take k) t.T (t.n : Int) = baseC g (L.take (k + 1))) := by show _ = _; rw [HTK.out, v5]; exact partC_full (join_no HB.out HP.out hgood)
            have HZERO : Hid (partC g (L.take k) t.T ((0 : Nat) : Int) = baseC g (L.take k)) := partC_zero g _ _
            have HSP := hide (fun (j f : Nat) (v : Wit) (hj : t.T.c[j]? = some v) (hf : (f : Int) = (t.T.y + (j : Int) / t.T.a) * g.across + t.T.x + (j : Int) % t.T.a) => partC_cell HB.out (L.take k) hlies hj hf)
            have HMJ : Hid (∀ j : Nat, metJ g (L.take (k + 1)) j = (decide (j = n) || metJ g (L.take k) j)) := fun j => by
              rw [HTK.out]
              simp only [metJ, List.any_append, List.any_cons, List.any_nil, Bool.or_false, ← hn]
              rw [Bool.or_comm]
              congr 1
              rw [decide_eq_decide]; omega
            have H4 := hide v5
            obtain ⟨r3, r4, r5, r6, r1, r2, -⟩ := hlies
            have r8 : t.n ≤ 4194304 := v7
            have HMT := hide hmt
            clear hBt CA9 v1 v2 v3 v4 v5 v6 v7 hxy hin hn hmt hin' hnz hrq hfit hgood
            obtain ⟨l0, l1, l2, l3⟩ := HT3.out
            have hl3 := HT3.out.lt
            obtain ⟨⟨q0, q1, q2, q3, q4, q5, q6, q7, q8, q9, q10⟩, -⟩ := S0.out W3 (HX.out W3 HJ3.out.below).1
            go_wp2_with fail
            refine (CA8.out _).mono ?_
            rintro e w4 ⟨rfl, hk4⟩
            have HT4 := hide (HT3.out.below hk4 HT3.out.lt)
            have HJ4 := hide (HJ3.out.kept hk4)
            clear l0 l1 l2 l3 hl3 hk4 q0 q1 q2 q3 q4 q5 q6 q7 q8 q9 q10
            obtain ⟨x0, x1, x2, x3, x4⟩ := HAT.out w4 HJ4.out.below
            go_wp2_with fail
            refine (CRT9.out _).mono ?_
            rintro e w5 ⟨rfl, hk5⟩
            have HT5 := hide (HT4.out.below hk5 HT4.out.lt)
            have HJ5 := hide (HJ4.out.kept hk5)
            clear x0 x1 x2 x3 x4 hk5
            have mt5 := HJ5.out.met n r9
            rw [HMT.out] at mt5
            have mb5 : mb < w5.heap.size := Nat.lt_trans HJ5.out.mp HJ5.out.pl
            obtain ⟨⟨q0, q1, q2, q3, q4, q5, q6, q7, q8, q9, q10⟩, -⟩ := S0.out w5 (HX.out w5 HJ5.out.below).1
            go_wp2_with fail
            refine (CRC9.out _).mono ?_
            rintro e w6 ⟨rfl, hk6⟩
            have HT6 := hide (HT5.out.below hk6 HT5.out.lt)
            have HJ6 := hide (HJ5.out.kept hk6)
            clear hk6 q0 q1 q2 q3 q4 q5 q6 q7 q8 q9 q10 mt5
            obtain ⟨W7, hW7⟩ : ∃ W7, W7 = w6.alloc (.cells #[.int .i64 (rectX g n), .int .i64 (rectY g n), .int .i64 (rectW g n), .int .i64 (rectH g n)] 38) := ⟨_, rfl⟩
            have k7 : Kept w6 W7 := by rw [hW7]; exact (Below.refl _ _).alloc (Nat.le_refl _) _
            have HT7 := hide (HT6.out.below k7 HT6.out.lt)
            have HJ7 := hide (HJ6.out.kept k7)
            have HN7 : Hid (RcB W7 w6.heap.size (rectX g n) (rectY g n) (rectW g n) (rectH g n)) := by show RcB _ _ _ _ _ _; rw [hW7]; exact RcB.new _ _ _ _ _ _ _ rfl
            go_upto_region 20 with fail
            rw [← hW7]
            clear hW7 k7
            obtain ⟨l0, l1, l2, l3⟩ := HT7.out
            obtain ⟨n0, n1, n2, n3⟩ := HN7.out
            have mt := HJ7.out.met n r9
            rw [HMT.out] at mt
            have mf := HJ7.out.free n
            have hmw : mb < wo.heap.size := by have h9 := HPW.out; omega
            obtain ⟨W8, hW8⟩ : ∃ W8, W8 = W7.setCell ⟨mb, n, none⟩ (.bool true) := ⟨_, rfl⟩
            have HJ8 : Hid (JG w3 W8 mb p q Z M g.across g.down (fun j => metJ g (L.take (k + 1)) j) (baseC g (L.take k)) 69) := by show JG _ _ _ _ _ _ _ _ _ _ _ _; rw [hW8]; exact (HJ7.out.meet r9).met' (fun j _ => HMJ.out j)
            have HT8 : Hid (RcB W8 wo.heap.size t.T.x t.T.y t.T.a t.T.d) := by
              show RcB _ _ _ _ _ _
              rw [hW8]
              have far : ∀ o, (W7.setCell ⟨mb, n, none⟩ (.bool true)).cell? ⟨wo.heap.size, o, none⟩ = W7.cell? ⟨wo.heap.size, o, none⟩ := fun o => World.cell?_setCell_other _ _ _ _ (fun e => by cases e; omega)
              exact ⟨(far 0).trans HT7.out.c0, (far 1).trans HT7.out.c1, (far 2).trans HT7.out.c2, (far 3).trans HT7.out.c3⟩
            go_upto_region 23 with fail
            rw [← hW8]
            clear hW8 mt mf HJ7 HT7 HJ HJ3 HJ4 HJ5 HJ6 HT3 HT4 HT5 HT6
            go_wp2_with fail
            go_loopg [18] t.n (fun gh ix wy => ∃ j : Nat, j + gh = t.n ∧ ix = .int .i64 j ∧ JG w3 wy mb p q Z M g.across g.down (fun j => metJ g (L.take (k + 1)) j) (partC g (L.take k) t.T (j : Int)) 69 ∧ RcB wy wo.heap.size t.T.x t.T.y t.T.a t.T.d)
            case atStart => exact ⟨0, by omega, rfl, by have h9 := HJ8.out; rwa [← HZERO.out] at h9, HT8.out⟩
            case round =>
              clear HJ8 HT8
              obtain ⟨j, hjg, rfl, hJ, hT⟩ := hrel
              obtain ⟨x0, x1, x2, x3, x4⟩ := HAT.out wr hJ.below
              clear x0 x1 x2 x3
              cases gk with
              | zero =>
                have hjn : j = t.n := by omega
                have hge : ¬ (j : Int) < t.n := by omega
                have HJ9 : Hid (JG w3 wr mb p q Z M g.across g.down (fun j => metJ g (L.take (k + 1)) j) (baseC g (L.take (k + 1))) 69) := by
                  show JG _ _ _ _ _ _ _ _ _ _ _ _
                  rw [hjn, HFULL.out] at hJ
                  exact hJ
                clear hJ hT hjn
                go_wp2_with fail
                go_roundg g2
                case measure => omega
                case rel => exact ⟨k + 1, by omega, by go_num, HJ9.out, HP2.out, HJb2.out⟩
              | succ g3 =>
                have hjn : (j : Int) < t.n := by omega
                have HKT : Hid (Kept w wr) := (HX.out wr hJ.below).2.1
                obtain ⟨v, hv⟩ : ∃ v, t.T.c[j]? = some v := ⟨_, List.getElem?_eq_getElem (by have := HLen.out; omega)⟩
                have k0 := Int.ediv_nonneg (show 0 ≤ (j : Int) by omega) (show 0 ≤ t.T.a by omega)
                have k1 : (j : Int) / t.T.a < t.T.d := Int.ediv_lt_of_lt_mul (by omega) (by have := H4.out; rw [Int.mul_comm]; omega)
                have k2 := Int.emod_nonneg (j : Int) (show t.T.a ≠ 0 by omega)
                have k3 := Int.emod_lt_of_pos (j : Int) (show 0 < t.T.a by omega)
                have u1 : Int.tdiv (j : Int) t.T.a = (j : Int) / t.T.a := Int.tdiv_eq_ediv_of_nonneg (by omega)
                have u2 : Int.tmod (j : Int) t.T.a = (j : Int) % t.T.a := Int.tmod_eq_emod_of_nonneg (by omega)
                have HSQ := hide (fun f hf => HSP.out j f v hv hf)
                generalize (j : Int) / t.T.a = Qd at *
                generalize (j : Int) % t.T.a = Rm at *
                have s1 : 0 ≤ (t.T.y + Qd) * g.across := Int.mul_nonneg (by omega) (by omega)
                have s2 : (t.T.y + Qd) * g.across + g.across ≤ M := by
                  have h9 : (t.T.y + Qd + 1) * g.across ≤ g.down * g.across := Int.mul_le_mul_of_nonneg_right (by omega) (by omega)
                  rw [Int.add_mul (t.T.y + Qd), Int.one_mul, Int.mul_comm g.down] at h9
                  have := HMI.out
                  omega
                obtain ⟨f, hf⟩ : ∃ f : Nat, (t.T.y + Qd) * g.across + t.T.x + Rm = (f : Int) := ⟨((t.T.y + Qd) * g.across + t.T.x + Rm).toNat, (Int.toNat_of_nonneg (by omega)).symm⟩
                have hfM : f < M := by omega
                have hfM' : (f : Int) < M := by omega
                have HS := hide (HSQ.out f hf.symm)
                obtain ⟨tb2, to2, hAe, hrow⟩ : ∃ b o, t.A = some ⟨b, o, none⟩ ∧ ∀ i u, (witV t.T.c)[i]? = some u → wr.cell? ⟨b, o + i, none⟩ = some u := by
                  rcases HRW.out.kept HKT.out with h | h
                  · exfalso
                    have h9 : (witV t.T.c).length = 0 := by rw [h]; rfl
                    rw [witV_length, HLen.out] at h9
                    omega
                  · exact h
                obtain ⟨y0, y1, y2⟩ := witV_get _ _ _ hv
                have y0 := hrow _ _ y0
                have y1 := hrow _ _ y1
                have y2 := hrow _ _ y2
                rw [← Nat.add_assoc] at y1 y2
                rw [hAe] at x4
                have hcl : (partC g (L.take k) t.T (j : Int)).length = M := by rw [partC_length, HM.out]
                obtain ⟨ud, hud⟩ : ∃ u, (partC g (L.take k) t.T (j : Int))[f]? = some u := ⟨_, List.getElem?_eq_getElem (by omega)⟩
                obtain ⟨z0', z1', z2'⟩ := witV_get _ _ _ hud
                have cr := fun i u (h : (witV (partC g (L.take k) t.T (j : Int)))[i]? = some u) => (show wr.cell? ⟨p, i, none⟩ = some u by rw [cell_of_row wr p i _ _ (0, 0) hJ.row]; simpa using h)
                have e0 := cr _ _ z0'
                have e1 := cr _ _ z1'
                have e2 := cr _ _ z2'
                have fr : ∀ i, wr.frozen? ⟨p, i, none⟩ = false := fun i => by simp [World.frozen?, hJ.row]
                have e3 := fr (f * 3)
                have e4 := fr (f * 3 + 1)
                have e5 := fr (f * 3 + 2)
                obtain ⟨l0, l1, l2, l3⟩ := id hT
                obtain ⟨-, -, -, -, -, -, -, c7, c8⟩ := (HX.out wr hJ.below).2.2
                have o4 := hJ.q4
                have hS : wr.cell? ⟨tb, toff + k * 5 + 4, none⟩ = some (.slice (some ⟨tb2, to2, none⟩) t.n t.c) ∧ wr.cell? ⟨wo.heap.size, 0, none⟩ = some (.int .i64 t.T.x) ∧ wr.cell? ⟨wo.heap.size, 1, none⟩ = some (.int .i64 t.T.y) ∧ wr.cell? ⟨wo.heap.size, 2, none⟩ = some (.int .i64 t.T.a) ∧ wr.cell? ⟨w1.heap.size, 7, none⟩ = some (.int .i64 g.across) ∧ wr.cell? ⟨q, 4, none⟩ = some (.slice (some ⟨p, 0, none⟩) M M) ∧ wr.cell? ⟨tb2, to2 + j * 3, none⟩ = some (.int .u8 v.t) ∧ wr.cell? ⟨tb2, to2 + j * 3 + 1, none⟩ = some (.int .i64 v.s) ∧ wr.cell? ⟨tb2, to2 + j * 3 + 2, none⟩ = some (.int .i64 v.r) := ⟨x4, l0, l1, l2, c7, o4, y0, y1, y2⟩
                have HS9 := hide hS
                have HJ9 := hide hJ
                have HT9 := hide hT
                have hna : ¬ t.T.a = 0 := by omega
                have a1q : IntKind.i64.wrap Qd = Qd := IntWalk.i64_in _ (by omega)
                have a2q : IntKind.i64.wrap (t.T.y + Qd) = t.T.y + Qd := IntWalk.i64_in _ (by omega)
                have a3q : IntKind.i64.wrap ((t.T.y + Qd) * g.across) = (t.T.y + Qd) * g.across := IntWalk.i64_in _ (by omega)
                have a4q : IntKind.i64.wrap ((t.T.y + Qd) * g.across + t.T.x) = (t.T.y + Qd) * g.across + t.T.x := IntWalk.i64_in _ (by omega)
                have a6q : IntKind.i64.wrap (f : Int) = (f : Int) := IntWalk.i64_in _ (by omega)
                have a5q : IntKind.i64.wrap ((t.T.y + Qd) * g.across + t.T.x + Rm) = (f : Int) := by rw [← hf]; exact IntWalk.i64_in _ (by omega)
                have HCL := hide hcl
                clear hS hJ hT hrow cr fr z0' z1' z2' hud hAe hv hcl l3 c8 k2 
                go_upto_region 26 with fail
                clear x4 l0 l1 l2 c7 o4 y0 y1 y2
                refine wp_region_L (fun W => W.cell? ⟨tb, toff + k * 5 + 4, none⟩ = some (.slice (some ⟨tb2, to2, none⟩) t.n t.c) ∧ W.cell? ⟨wo.heap.size, 0, none⟩ = some (.int .i64 t.T.x) ∧ W.cell? ⟨wo.heap.size, 1, none⟩ = some (.int .i64 t.T.y) ∧ W.cell? ⟨wo.heap.size, 2, none⟩ = some (.int .i64 t.T.a) ∧ W.cell? ⟨w1.heap.size, 7, none⟩ = some (.int .i64 g.across) ∧ W.cell? ⟨q, 4, none⟩ = some (.slice (some ⟨p, 0, none⟩) M M) ∧ W.cell? ⟨tb2, to2 + j * 3, none⟩ = some (.int .u8 v.t) ∧ W.cell? ⟨tb2, to2 + j * 3 + 1, none⟩ = some (.int .i64 v.s) ∧ W.cell? ⟨tb2, to2 + j * 3 + 2, none⟩ = some (.int .i64 v.r)) 29 (by kernel_rfl) ?_ (fun hHeld => ?_)
                · first | exact HS9.out | assumption
                refine wpAnyL_take (i := 0) (v := ?_) (some 121) rfl rfl (by kernel_rfl) (by kernel_rfl) (by kernel_rfl) (by kernel_rfl) (fun _ _ _ h => h) (Or.inl ⟨by rfl, ?_⟩) (by assumption) ?_
                rotate_left
                · intro w hSw; (try dsimp only at hSw); go_simp; (try with_reducible rfl)
                try simp only [Act.put, List.setIfInBounds_toArray, List.set_cons_zero, List.set_cons_succ]
                refine wpAnyL_take (i := 1) (v := ?_) (some 122) rfl rfl (by kernel_rfl) (by kernel_rfl) (by kernel_rfl) (by kernel_rfl) (fun _ _ _ h => h) (Or.inl ⟨by rfl, ?_⟩) (by assumption) ?_
                rotate_left
                · intro w hSw; (try dsimp only at hSw); go_simp; (try with_reducible rfl)
                try simp only [Act.put, List.setIfInBounds_toArray, List.set_cons_zero, List.set_cons_succ]
                refine wpAnyL_take (i := 2) (v := ?_) (some 123) rfl rfl (by kernel_rfl) (by kernel_rfl) (by kernel_rfl) (by kernel_rfl) (fun _ _ _ h => h) (Or.inl ⟨by rfl, ?_⟩) (by assumption) ?_
                rotate_left
                · intro w hSw; (try dsimp only at hSw); go_simp; (try with_reducible rfl)
                try simp only [Act.put, List.setIfInBounds_toArray, List.set_cons_zero, List.set_cons_succ]
                refine wpAnyL_take (i := 3) (v := ?_) (some 124) rfl rfl (by kernel_rfl) (by kernel_rfl) (by kernel_rfl) (by kernel_rfl) (fun _ _ _ h => h) (Or.inl ⟨by rfl, ?_⟩) (by assumption) ?_
                rotate_left
                · intro w hSw; (try dsimp only at hSw); go_simp; (try with_reducible rfl)
                try simp only [Act.put, List.setIfInBounds_toArray, List.set_cons_zero, List.set_cons_succ]
                refine wpAnyL_take (i := 4) (v := ?_) (some 125) rfl rfl (by kernel_rfl) (by kernel_rfl) (by kernel_rfl) (by kernel_rfl) (fun _ _ _ h => h) (Or.inl ⟨by rfl, ?_⟩) (by assumption) ?_
                rotate_left
                · intro w hSw; (try dsimp only at hSw); go_simp; (try with_reducible rfl)
                try simp only [Act.put, List.setIfInBounds_toArray, List.set_cons_zero, List.set_cons_succ]
                refine wpAnyL_take (i := 5) (v := ?_) (some 126) rfl rfl (by kernel_rfl) (by kernel_rfl) (by kernel_rfl) (by kernel_rfl) (fun _ _ _ h => h) (Or.inl ⟨by rfl, ?_⟩) (by assumption) ?_
                rotate_left
                · intro w hSw; (try dsimp only at hSw); go_simp; (try with_reducible rfl)
                try simp only [Act.put, List.setIfInBounds_toArray, List.set_cons_zero, List.set_cons_succ]
                refine wpAnyL_take (i := 6) (v := ?_) (some 127) rfl rfl (by kernel_rfl) (by kernel_rfl) (by kernel_rfl) (by kernel_rfl) (fun _ _ _ h => h) (Or.inl ⟨by rfl, ?_⟩) (by assumption) ?_
                rotate_left
                · intro w hSw; (try dsimp only at hSw); go_simp; (try with_reducible rfl)
                try simp only [Act.put, List.setIfInBounds_toArray, List.set_cons_zero, List.set_cons_succ]
                refine wpAnyL_take (i := 7) (v := ?_) (some 128) rfl rfl (by kernel_rfl) (by kernel_rfl) (by kernel_rfl) (by kernel_rfl) (fun _ _ _ h => h) (Or.inl ⟨by rfl, ?_⟩) (by assumption) ?_
                rotate_left
                · intro w hSw; (try dsimp only at hSw); go_simp; (try with_reducible rfl)
                try simp only [Act.put, List.setIfInBounds_toArray, List.set_cons_zero, List.set_cons_succ]
                refine wpAnyL_take (i := 8) (v := ?_) (some 129) rfl rfl (by kernel_rfl) (by kernel_rfl) (by kernel_rfl) (by kernel_rfl) (fun _ _ _ h => h) (Or.inl ⟨by rfl, ?_⟩) (by assumption) ?_
                rotate_left
                · intro w hSw; (try dsimp only at hSw); go_simp; (try with_reducible rfl)
                try simp only [Act.put, List.setIfInBounds_toArray, List.set_cons_zero, List.set_cons_succ]
                refine wpAnyL_take (i := 9) (v := ?_) (some 130) rfl rfl (by kernel_rfl) (by kernel_rfl) (by kernel_rfl) (by kernel_rfl) (fun _ _ _ h => h) (Or.inl ⟨by rfl, ?_⟩) (by assumption) ?_
                rotate_left
                · intro w hSw; (try dsimp only at hSw); go_simp; (try with_reducible rfl)
                try simp only [Act.put, List.setIfInBounds_toArray, List.set_cons_zero, List.set_cons_succ]
                refine wpAnyL_take (i := 10) (v := ?_) (some 131) rfl rfl (by kernel_rfl) (by kernel_rfl) (by kernel_rfl) (by kernel_rfl) (fun _ _ _ h => h) (Or.inl ⟨by rfl, ?_⟩) (by assumption) ?_
                rotate_left
                · intro w hSw; (try dsimp only at hSw); go_simp; (try with_reducible rfl)
                try simp only [Act.put, List.setIfInBounds_toArray, List.set_cons_zero, List.set_cons_succ]
                refine wpAnyL_take (i := 11) (v := ?_) (some 132) rfl rfl (by kernel_rfl) (by kernel_rfl) (by kernel_rfl) (by kernel_rfl) (fun _ _ _ h => h) (Or.inl ⟨by rfl, ?_⟩) (by assumption) ?_
                rotate_left
                · intro w hSw; (try dsimp only at hSw); go_simp; (try with_reducible rfl)
                try simp only [Act.put, List.setIfInBounds_toArray, List.set_cons_zero, List.set_cons_succ]
                refine wpAnyL_take (i := 12) (v := ?_) (some 133) rfl rfl (by kernel_rfl) (by kernel_rfl) (by kernel_rfl) (by kernel_rfl) (fun _ _ _ h => h) (Or.inl ⟨by rfl, ?_⟩) (by assumption) ?_
                rotate_left
                · intro w hSw; (try dsimp only at hSw); go_simp; (try with_reducible rfl)
                try simp only [Act.put, List.setIfInBounds_toArray, List.set_cons_zero, List.set_cons_succ]
                refine wpAnyL_take (i := 13) (v := ?_) (some 134) rfl rfl (by kernel_rfl) (by kernel_rfl) (by kernel_rfl) (by kernel_rfl) (fun _ _ _ h => h) (Or.inl ⟨by rfl, ?_⟩) (by assumption) ?_
                rotate_left
                · intro w hSw; (try dsimp only at hSw); go_simp; (try with_reducible rfl)
                try simp only [Act.put, List.setIfInBounds_toArray, List.set_cons_zero, List.set_cons_succ]
                refine wpAnyL_take (i := 14) (v := ?_) (some 135) rfl rfl (by kernel_rfl) (by kernel_rfl) (by kernel_rfl) (by kernel_rfl) (fun _ _ _ h => h) (Or.inl ⟨by rfl, ?_⟩) (by assumption) ?_
                rotate_left
                · intro w hSw; (try dsimp only at hSw); go_simp; (try with_reducible rfl)
                try simp only [Act.put, List.setIfInBounds_toArray, List.set_cons_zero, List.set_cons_succ]
                refine wpAnyL_take (i := 15) (v := ?_) (some 136) rfl rfl (by kernel_rfl) (by kernel_rfl) (by kernel_rfl) (by kernel_rfl) (fun _ _ _ h => h) (Or.inl ⟨by rfl, ?_⟩) (by assumption) ?_
                rotate_left
                · intro w hSw; (try dsimp only at hSw); go_simp; (try with_reducible rfl)
                try simp only [Act.put, List.setIfInBounds_toArray, List.set_cons_zero, List.set_cons_succ]
                refine wpAnyL_take (i := 16) (v := ?_) (some 137) rfl rfl (by kernel_rfl) (by kernel_rfl) (by kernel_rfl) (by kernel_rfl) (fun _ _ _ h => h) (Or.inl ⟨by rfl, ?_⟩) (by assumption) ?_
                rotate_left
                · intro w hSw; (try dsimp only at hSw); go_simp; (try with_reducible rfl)
                try simp only [Act.put, List.setIfInBounds_toArray, List.set_cons_zero, List.set_cons_succ]
                refine wpAnyL_take (i := 17) (v := ?_) (some 138) rfl rfl (by kernel_rfl) (by kernel_rfl) (by kernel_rfl) (by kernel_rfl) (fun _ _ _ h => h) (Or.inl ⟨by rfl, ?_⟩) (by assumption) ?_
                rotate_left
                · intro w hSw; (try dsimp only at hSw); go_simp; (try with_reducible rfl)
                try simp only [Act.put, List.setIfInBounds_toArray, List.set_cons_zero, List.set_cons_succ]
                refine wpAnyL_take (i := 18) (v := ?_) (some 139) rfl rfl (by kernel_rfl) (by kernel_rfl) (by kernel_rfl) (by kernel_rfl) (fun _ _ _ h => h) (Or.inl ⟨by rfl, ?_⟩) (by assumption) ?_
                rotate_left
                · intro w hSw; (try dsimp only at hSw); go_simp; (try with_reducible rfl)
                try simp only [Act.put, List.setIfInBounds_toArray, List.set_cons_zero, List.set_cons_succ]
                refine wpAnyL_take (i := 19) (v := ?_) (some 140) rfl rfl (by kernel_rfl) (by kernel_rfl) (by kernel_rfl) (by kernel_rfl) (fun _ _ _ h => h) (Or.inl ⟨by rfl, ?_⟩) (by assumption) ?_
                rotate_left
                · intro w hSw; (try dsimp only at hSw); go_simp; (try with_reducible rfl)
                try simp only [Act.put, List.setIfInBounds_toArray, List.set_cons_zero, List.set_cons_succ]
                refine wpAnyL_take (i := 20) (v := ?_) (some 141) rfl rfl (by kernel_rfl) (by kernel_rfl) (by kernel_rfl) (by kernel_rfl) (fun _ _ _ h => h) (Or.inl ⟨by rfl, ?_⟩) (by assumption) ?_
                rotate_left
                · intro w hSw; (try dsimp only at hSw); go_simp; (try with_reducible rfl)
                try simp only [Act.put, List.setIfInBounds_toArray, List.set_cons_zero, List.set_cons_succ]
                refine wpAnyL_take (i := 21) (v := ?_) (some 142) rfl rfl (by kernel_rfl) (by kernel_rfl) (by kernel_rfl) (by kernel_rfl) (fun _ _ _ h => h) (Or.inl ⟨by rfl, ?_⟩) (by assumption) ?_
                rotate_left
                · intro w hSw; (try dsimp only at hSw); go_simp; (try with_reducible rfl)
                try simp only [Act.put, List.setIfInBounds_toArray, List.set_cons_zero, List.set_cons_succ]
                refine wpAnyL_take (i := 22) (v := ?_) (some 143) rfl rfl (by kernel_rfl) (by kernel_rfl) (by kernel_rfl) (by kernel_rfl) (fun _ _ _ h => h) (Or.inl ⟨by rfl, ?_⟩) (by assumption) ?_
                rotate_left
                · intro w hSw; (try dsimp only at hSw); go_simp; (try with_reducible rfl)
                try simp only [Act.put, List.setIfInBounds_toArray, List.set_cons_zero, List.set_cons_succ]
                refine wpAnyL_take (i := 23) (v := ?_) (some 144) rfl rfl (by kernel_rfl) (by kernel_rfl) (by kernel_rfl) (by kernel_rfl) (fun _ _ _ h => h) (Or.inl ⟨by rfl, ?_⟩) (by assumption) ?_
                rotate_left
                · intro w hSw; (try dsimp only at hSw); go_simp; (try with_reducible rfl)
                try simp only [Act.put, List.setIfInBounds_toArray, List.set_cons_zero, List.set_cons_succ]
                refine wpAnyL_take (i := 24) (v := ?_) (some 145) rfl rfl (by kernel_rfl) (by kernel_rfl) (by kernel_rfl) (by kernel_rfl) (fun _ _ _ h => h) (Or.inl ⟨by rfl, ?_⟩) (by assumption) ?_
                rotate_left
                · intro w hSw; (try dsimp only at hSw); go_simp; (try with_reducible rfl)
                try simp only [Act.put, List.setIfInBounds_toArray, List.set_cons_zero, List.set_cons_succ]
                refine wpAnyL_take (i := 25) (v := ?_) (some 146) rfl rfl (by kernel_rfl) (by kernel_rfl) (by kernel_rfl) (by kernel_rfl) (fun _ _ _ h => h) (Or.inl ⟨by rfl, ?_⟩) (by assumption) ?_
                rotate_left
                · intro w hSw; (try dsimp only at hSw); go_simp; (try with_reducible rfl)
                try simp only [Act.put, List.setIfInBounds_toArray, List.set_cons_zero, List.set_cons_succ]
                refine wpAnyL_take (i := 26) (v := ?_) (some 147) rfl rfl (by kernel_rfl) (by kernel_rfl) (by kernel_rfl) (by kernel_rfl) (fun _ _ _ h => h) (Or.inl ⟨by rfl, ?_⟩) (by assumption) ?_
                rotate_left
                · intro w hSw; (try dsimp only at hSw); go_simp; (try with_reducible rfl)
                try simp only [Act.put, List.setIfInBounds_toArray, List.set_cons_zero, List.set_cons_succ]
                refine wpAnyL_take (i := 27) (v := ?_) (some 148) rfl rfl (by kernel_rfl) (by kernel_rfl) (by kernel_rfl) (by kernel_rfl) (fun _ _ _ h => h) (Or.inl ⟨by rfl, ?_⟩) (by assumption) ?_
                rotate_left
                · intro w hSw; (try dsimp only at hSw); go_simp; (try with_reducible rfl)
                try simp only [Act.put, List.setIfInBounds_toArray, List.set_cons_zero, List.set_cons_succ]
                refine wpAnyL_take (i := 28) (v := ?_) (some 149) rfl rfl (by kernel_rfl) (by kernel_rfl) (by kernel_rfl) (by kernel_rfl) (fun _ _ _ h => h) (Or.inl ⟨by rfl, ?_⟩) (by assumption) ?_
                rotate_left
                · intro w hSw; (try dsimp only at hSw); go_simp; (try with_reducible rfl)
                try simp only [Act.put, List.setIfInBounds_toArray, List.set_cons_zero, List.set_cons_succ]
                refine wpAnyL_end (by kernel_rfl) rfl (fun K hK => ?_)
                go_simp
                refine hK.out _ _ ?_
                clear hK K
                try simp only [Act.put, List.setIfInBounds_toArray, List.set_cons_zero, List.set_cons_succ]
                refine wpAnyL_done (by kernel_rfl) ?_ _
                obtain ⟨W9, hW9⟩ : ∃ W9, W9 = (((wr.setCell ⟨p, f * 3, none⟩ (.int .u8 v.t)).setCell ⟨p, f * 3 + 1, none⟩ (.int .i64 v.s)).setCell ⟨p, f * 3 + 2, none⟩ (.int .i64 v.r)).drew := ⟨_, rfl⟩
                have HJA : Hid (JG w3 W9 mb p q Z M g.across g.down (fun j => metJ g (L.take (k + 1)) j) (partC g (L.take k) t.T ((j + 1 : Nat) : Int)) 69) := by
                  show JG _ _ _ _ _ _ _ _ _ _ _ _
                  rw [HS.out, hW9]
                  exact (HJ9.out.setw (by rw [HCL.out]; exact hfM)).kept ((Below.refl _ _).drew)
                have hpw := HPW.out.1
                have HTA : Hid (RcB W9 wo.heap.size t.T.x t.T.y t.T.a t.T.d) := by
                  show RcB _ _ _ _ _ _
                  rw [hW9]
                  have far : ∀ o, ((((wr.setCell ⟨p, f * 3, none⟩ (.int .u8 v.t)).setCell ⟨p, f * 3 + 1, none⟩ (.int .i64 v.s)).setCell ⟨p, f * 3 + 2, none⟩ (.int .i64 v.r)).drew).cell? ⟨wo.heap.size, o, none⟩ = wr.cell? ⟨wo.heap.size, o, none⟩ := fun o => by
                    show (((wr.setCell ⟨p, f * 3, none⟩ (.int .u8 v.t)).setCell ⟨p, f * 3 + 1, none⟩ (.int .i64 v.s)).setCell ⟨p, f * 3 + 2, none⟩ (.int .i64 v.r)).cell? _ = _
                    rw [World.cell?_setCell_other _ _ _ _ (fun e => by cases e; omega), World.cell?_setCell_other _ _ _ _ (fun e => by cases e; omega), World.cell?_setCell_other _ _ _ _ (fun e => by cases e; omega)]
                  exact ⟨(far 0).trans HT9.out.c0, (far 1).trans HT9.out.c1, (far 2).trans HT9.out.c2, (far 3).trans HT9.out.c3⟩
                rw [← hW9]
                clear hW9 e0 e1 e2 e3 e4 e5 hpw a1q a2q a3q a4q a5q a6q HS HJ9 HT9 HS9 u1 u2 hf s1 s2
                go_wp2_with fail
                go_roundg g3
                case measure => omega
                case rel => exact ⟨j + 1, by omega, by go_num, HJA.out, HTA.out⟩
end Go.Proofs.YtneakieigiafpaaGreatDoor
